/- The functions of the translation over the abstract machine -/
import Derived.Test.YtnaneekpogohaaaGreatDoorXeGx
namespace Go.Am
open Go.Proofs
set_option maxRecDepth 100000
noncomputable abbrev ZV (f n:Nat):=Yc cfg (Z9 cfg) (Y7 cfg (cfg.keep f) n) (cfg.keep f) n Zc Z7
noncomputable abbrev LI (f n:Nat):=Y7 cfg (cfg.keep f) n
noncomputable section
abbrev Lj (f n:Nat)(F:Func)(p:List Nat):KL->AL->Hp->Z4:=fun k g H=>ZV f n (sub (Z1 F) p) k (ZW (cfg.keep f) (sub (Z1 F) p) g) H
abbrev J1 (f n:Nat)(F:Func)(p:List Nat):KL->AL->Hp->Z4:=fun k g H=>LI f n (sub (Z1 F) p) k (ZW (cfg.keep f) (sub (Z1 F) p) g) H
variable (p0 p1 p2 p3 x0 x1 x2 x3 x4 x5 x6 x7 x8 x9 x10 x11 x12 x13 x18 x19 x20 x21 x22 x23 x24:AV)(H0 H:Hp)
def Zex:Z4:=
 Z0 (Ql p0 (.int .i64 0)) fun t4=>
 Z0 (UJ t4 (.int .i64 262144)) fun t5=>
 Z0 (some ((.map H.length),H++[.map [] 0])) fun g=>
 Z0 ((Xj [(0,1,t5),(3,1,g.1)] [(.int .i64 0),(.int .i64 0),(.int .i64 0),.nilm,(.bool false),(.int .i64 0)]).map .agg) fun u=>
 Z0 (ZN u g.2) fun j=>
 some (j.1,j.2)
theorem Zij:Hm [p0] H=Zex p0 H:=Be 9 [] Tryz.func15
def QN:Z4:=ZV 16 46 (sub (Z1 Tryz.f16) [1,1,1]) (Zh cfg 46 16 Tryz.f16 H0) [(0,x0),(1,x1)] H
def Fz:Z4:=ZV 16 46 (sub (Z1 Tryz.f16) [1,1]) (Zh cfg 46 16 Tryz.f16 H0) [(0,x0),(1,x1)] H
def FU:Z4:=
 Z0 (Yy (.pointer 82) .eql p0 .nilp) fun J=>
 Zk J
 (some ((.int .i64 5),H))
 (Z0 (Uh [p0] H) fun j=>
 Zk j.1
 (some ((.int .i64 19),j.2))
 (Z0 (Zf DR [p1] j.2) fun g=>
 Z0 (Xk .not g.1) fun u=>
 Zk u
 (some ((.int .i64 4),g.2))
 (Z0 (Zu p0) fun w=>
 Z0 (Z6 3 w) fun y=>
 Z0 (Z3 false 1 y g.2) fun z=>
 Z0 (Ye .string .nilp false z p1 g.2) fun A=>
 Z0 (Yy (.pointer 86) .neq A .nilp) fun B=>
 Zk B
 (some ((.int .i64 6),g.2))
 (Z0 (Zu p0) fun C=>
 Z0 (Z6 3 C) fun D=>
 Z0 (Z3 false 1 D g.2) fun E=>
 Z0 (J4 E g.2) fun F=>
 Z0 (Z5 .geq F (.int .i64 64)) fun I=>
 Zk I
 (some ((.int .i64 3),g.2))
 (Fz p0 p1 H g.2)))))
theorem ET:QN x0 x1 H0 H =
 Z0 (Zu x0) fun u=>
 Z0 (Z6 3 u) fun w=>
 Z0 (Z3 false 1 w H) fun y=>
 Z0 (some (.agg [.nils,(.int .i64 0)])) fun z=>
 Z0 (ZN z H) fun g=>
 Z0 (Xr .string y x1 g.1 g.2) fun j=>
 some ((.int .i64 0),j.2):=Za [11,13]
theorem ES:Fz x0 x1 H0 H =
 Z0 (Zu x0) fun u=>
 Z0 (Z6 3 u) fun w=>
 Z0 (Z3 false 1 w H) fun y=>
 Z0 (Yy (.map 9 84) .eql y .nilm) fun z=>
 Zk z
 (Z0 (some ((.map H.length),H++[.map [] 0])) fun g=>
 Z0 (Zu x0) fun t37=>
 Z0 (Z6 3 t37) fun A=>
 Z0 (Ze 1 A g.1 g.2) fun j=>
 QN x0 x1 H0 j.2)
 (QN x0 x1 H0 H):=Za [11,13]
theorem Se:QZ [p0,p1] H=FU p0 p1 H:=Be 46 [11,13] Tryz.func16
def Fy:Z4:=ZV 17 60 (sub (Z1 Tryz.f17) [1,1,1,1]) (Zh cfg 60 17 Tryz.f17 H0) [(0,x0),(2,x2),(7,x7)] H
def Fx:Z4:=ZV 17 60 (sub (Z1 Tryz.f17) [1,1,1]) (Zh cfg 60 17 Tryz.f17 H0) [(0,x0),(2,x2),(7,x7)] H
def FT:Z4:=
 Z0 (XY [p0,p1] H) fun g=>
 Z0 (ZQ g.1 0) fun u=>
 Z0 (ZQ g.1 1) fun j=>
 Z0 (Z5 .neq j (.int .i64 0)) fun w=>
 Zk w
 (some (j,g.2))
 (Fx p0 p2 u H g.2)
theorem ER:Fy x0 x2 x7 H0 H =
 Z0 (Zu x7) fun y=>
 Z0 (Z6 0 y) fun z=>
 Z0 (Z3 false 1 z H) fun A=>
 Z0 (Ym 1 1 A x2 H) fun u=>
 Z0 (Zu x7) fun t37=>
 Z0 (Z6 0 t37) fun B=>
 Z0 (Ze 1 B u.1 u.2) fun j=>
 Z0 (Zu x0) fun C=>
 Z0 (Z6 1 C) fun D=>
 Z0 (Z3 false 1 D j.2) fun E=>
 Z0 (Zl .string x2) fun F=>
 Z0 (Z5 .add E F) fun I=>
 Z0 (Zu x0) fun J=>
 Z0 (Z6 1 J) fun K=>
 Z0 (Ze 1 K I j.2) fun g=>
 Z0 (Zu x0) fun L=>
 Z0 (Z6 2 L) fun M=>
 Z0 (Z3 false 1 M g.2) fun N=>
 Z0 (Zu x0) fun O=>
 Z0 (Z6 1 O) fun Q=>
 Z0 (Z3 false 1 Q g.2) fun R=>
 Z0 (Ql N R) fun S=>
 Z0 (Zu x0) fun T=>
 Z0 (Z6 2 T) fun U=>
 Z0 (Ze 1 U S g.2) fun w=>
 some ((.int .i64 0),w.2):=Za [4,6]
theorem G0:Fx x0 x2 x7 H0 H =
 Z0 (Zu x0) fun g=>
 Z0 (Z6 1 g) fun j=>
 Z0 (Z3 false 1 j H) fun u=>
 Z0 (Zl .string x2) fun w=>
 Z0 (Z5 .add u w) fun y=>
 Z0 (Zu x0) fun z=>
 Z0 (Z6 0 z) fun A=>
 Z0 (Z3 false 1 A H) fun B=>
 Z0 (Z5 .gtr y B) fun C=>
 Zk C
 (some ((.int .i64 12),H))
 (Fy x0 x2 x7 H0 H):=Za [4,6]
theorem Sd:QY [p0,p1,p2] H=FT p0 p1 p2 H:=Be 60 [4,6] Tryz.func17
def K4:Z4:=ZV 18 24 (sub (Z1 Tryz.f18) [1,1,1]) (Zh cfg 24 18 Tryz.f18 H0) [(6,x6)] H
def PJ:Z4:=
 Z0 (XY [p0,p1] H) fun g=>
 Z0 (ZQ g.1 0) fun w=>
 Z0 (ZQ g.1 1) fun j=>
 Z0 (Z5 .eql j (.int .i64 0)) fun y=>
 Zk y
 (Z0 (Zu w) fun z=>
 Z0 (Z6 0 z) fun A=>
 Z0 (Z3 false 1 A g.2) fun B=>
 Z0 (Zl (.slice 5) B) fun C=>
 Z0 (Zu w) fun D=>
 Z0 (Z6 1 D) fun E=>
 Z0 (Ze 1 E C g.2) fun u=>
 K4 j H u.2)
 (K4 j H g.2)
theorem Qg:K4 x6 H0 H =
 some (x6,H):=Za [4]
theorem AD:KE [p0,p1] H=PJ p0 p1 H:=Be 24 [4] Tryz.func18
def Tt:Z4:=ZV 23 54 (sub (Z1 Tryz.f23) [1,1,1,1]) (Zh cfg 54 23 Tryz.f23 H0) [(2,x2),(3,x3),(10,x10)] H
def Ts:Z4:=ZV 23 54 (sub (Z1 Tryz.f23) [1,1,1]) (Zh cfg 54 23 Tryz.f23 H0) [(2,x2),(3,x3),(10,x10)] H
def PI:Z4:=
 Z0 (XY [p0,p1] H) fun g=>
 Z0 (ZQ g.1 0) fun u=>
 Z0 (ZQ g.1 1) fun j=>
 Z0 (Z5 .neq j (.int .i64 0)) fun w=>
 Zk w
 (some ((.tuple [(.str []),j]),g.2))
 (Ts p2 p3 u H g.2)
theorem Ae:Tt x2 x3 x10 H0 H =
 Z0 (Zu x10) fun t37=>
 Z0 (Z6 0 t37) fun g=>
 Z0 (Z3 false 1 g H) fun j=>
 Z0 (Zu x10) fun u=>
 Z0 (Z6 0 u) fun w=>
 Z0 (Z3 false 1 w H) fun y=>
 Z0 (Zl (.slice 5) y) fun z=>
 Z0 (Z5 .sub z x2) fun A=>
 Z0 (UJ x3 A) fun B=>
 Z0 (Z5 .add x2 B) fun C=>
 Z0 (Yo 1 j (some x2) (some C) none) fun D=>
 Z0 (Bv D H) fun E=>
 some ((.tuple [E,(.int .i64 0)]),H):=Za [4,6]
theorem Ad:Ts x2 x3 x10 H0 H =
 Z0 (Z5 .lss x2 (.int .i64 0)) fun g=>
 Z0 (Z8 g false (.tuple []) (some x2)) fun u=>
 Z0 (Z8 g false (.tuple []) (some x10)) fun w=>
 Z0 (Z8 g false (.tuple []) (Zu w)) fun y=>
 Z0 (Z8 g false (.tuple []) (Z6 0 y)) fun z=>
 Z0 (Z8 g false (.tuple []) (Z3 false 1 z H)) fun A=>
 Z0 (Z8 g false (.tuple []) (Zl (.slice 5) A)) fun B=>
 Z0 (Z8 g false (.tuple []) (Z5 .gtr u B)) fun C=>
 Z0 (Zj g (.bool true) C) fun j=>
 Z0 (Z8 j false (.tuple []) (some x3)) fun D=>
 Z0 (Z8 j false (.tuple []) (Z5 .lss D (.int .i64 0))) fun E=>
 Z0 (Zj j (.bool true) E) fun F=>
 Zk F
 (some ((.tuple [(.str []),(.int .i64 2)]),H))
 (Tt x2 x3 x10 H0 H):=Za [4,6]
theorem AC:KD [p0,p1,p2,p3] H=PI p0 p1 p2 p3 H:=Be 54 [4,6] Tryz.func23
def Tp:Z4:=ZV 26 38 (sub (Z1 Tryz.f26) [1,1,1,1]) (Zh cfg 38 26 Tryz.f26 H0) [(3,x3)] H
def Uq:KL:=Zc (Lj 26 38 Tryz.f26 [1,1,1,1]) (Zh cfg 38 26 Tryz.f26 H0)
theorem EU:ZX 38 (Uq H0):=Zx (C:=cfg) (kp:=cfg.keep 26) (sub (Z1 Tryz.f26) [1,1,1,1]) (ZA 26 Tryz.f26 H0)
def Tr:Z4:=ZV 26 38 (sub (Z1 Tryz.f26) [1,1,1,0,1,0,0,1,1,1]) (Zc (J1 26 38 Tryz.f26 [1,1,1,0,1,0,0]) (Z7 0 (Uq H0))) [(0,x0),(3,x3),(10,x10),(11,x11),(12,x12)] H
def Tq:Z4:=ZV 26 38 (sub (Z1 Tryz.f26) [1,1,1,0,1,0,0,1,1]) (Zc (J1 26 38 Tryz.f26 [1,1,1,0,1,0,0]) (Z7 0 (Uq H0))) [(0,x0),(3,x3),(10,x10),(11,x11),(12,x12),(13,x13)] H
def Ur:Z4:=LI 26 38 (sub (Z1 Tryz.f26) [1,1,1,0,1,0,0]) (Z7 0 (Uq H0)) [(0,x0),(3,x3),(10,x10),(11,x11),(12,x12)] H
def To:Z4:=ZV 26 38 (sub (Z1 Tryz.f26) [1,1]) (Zh cfg 38 26 Tryz.f26 H0) [(0,x0)] H
def PH:Z4:=
 Z0 (Yy (.pointer 82) .eql p0 .nilp) fun g=>
 Zk g
 (some (.nils,H))
 (To p0 H H)
theorem Aa:Tp x3 H0 H =
 some (x3,H):=Za [3,6,9,10]
theorem Ac:Tr x0 x3 x10 x11 x12 H0 H =
 Z0 (Z5 .add x12 (.int .i64 1)) fun g=>
 Ur x0 x3 x10 x11 g H0 H:=Za [3,6,9,10]
theorem Ab:Tq x0 x3 x10 x11 x12 x13 H0 H =
 Z0 (Zp 1 x10 x12) fun w=>
 Z0 (Z3 false 1 w H) fun j=>
 Z0 (Zu x0) fun y=>
 Z0 (Z6 3 y) fun z=>
 Z0 (Z3 false 1 z H) fun A=>
 Z0 (Ye .string .nilp false A j H) fun u=>
 Z0 (Zu u) fun B=>
 Z0 (Z6 0 B) fun C=>
 Z0 (Z3 false 1 C H) fun D=>
 Z0 (Zl (.slice 5) D) fun E=>
 Z0 (Zu u) fun F=>
 Z0 (Z6 1 F) fun I=>
 Z0 (Z3 false 1 I H) fun J=>
 Z0 ((Xj [(0,1,j),(1,1,E),(2,1,J)] [(.str []),(.int .i64 0),(.int .i64 0)]).map .agg) fun K=>
 Z0 ((ZE 3 [(0,K)] [(.agg [(.str []),(.int .i64 0),(.int .i64 0)])]).map (.vs 3 .clip)) fun L=>
 Z0 (Ym 3 32 x3 L H) fun g=>
 Tr x0 g.1 x10 x11 x12 H0 g.2:=Za [3,6,9,10]
theorem Dp:Ur x0 x3 x10 x11 x12 H0 H =
 Z0 (Z5 .lss x12 x11) fun g=>
 Zk g
 (Tq x0 x3 x10 x11 x12 g H0 H)
 (Tp x3 H0 H):=(ZD (C:=cfg) [3,6,9,10] (Zm 0 (EU H0)) _ _).trans (by kernel_rfl)
theorem A9:To x0 H0 H =
 Z0 (namesE.run [x0] H) fun g=>
 Z0 (Zl (.slice 9) g.1) fun j=>
 Ur x0 .nils g.1 j (.int .i64 0) H0 g.2:=Za [3,6,9,10]
theorem AB:V5 [p0] H=PH p0 H:=Be 38 [3,6,9,10] Tryz.func26
def Wt:Z4:=ZV 39 37 (sub (Z1 Tryz.f39) [1,1]) (Zh cfg 37 39 Tryz.f39 H0) [(0,x0)] H
def T0:Z4:=
 Z0 (Zu p0) fun t5=>
 Z0 (Z6 4 t5) fun S=>
 Z0 (Z3 false 1 S H) fun T=>
 Zk T
 (Wt p0 H H)
 (Z0 (Zu p0) fun w=>
 Z0 (Z6 5 w) fun y=>
 Z0 (Z3 false 1 y H) fun z=>
 Z0 (Z5 .eql z (.int .i64 1)) fun A=>
 Zk A
 (Z0 (Zu p0) fun B=>
 Z0 (Z6 4 B) fun C=>
 Z0 (Ze 1 C (.bool true) H) fun g=>
 Z0 (Zu p0) fun D=>
 Z0 (Z6 5 D) fun E=>
 Z0 (Ze 1 E (.int .i64 0) g.2) fun j=>
 Wt p0 H j.2)
 (Z0 (Zu p0) fun F=>
 Z0 (Z6 5 F) fun I=>
 Z0 (Z3 false 1 I H) fun J=>
 Z0 (Z5 .gtr J (.int .i64 1)) fun K=>
 Zk K
 (Z0 (Zu p0) fun L=>
 Z0 (Z6 5 L) fun M=>
 Z0 (Z3 false 1 M H) fun N=>
 Z0 (Z5 .sub N (.int .i64 1)) fun O=>
 Z0 (Zu p0) fun Q=>
 Z0 (Z6 5 Q) fun R=>
 Z0 (Ze 1 R O H) fun u=>
 Wt p0 H u.2)
 (Wt p0 H H)))
theorem WH:Wt x0 H0 H =
 Z0 (Zu x0) fun g=>
 Z0 (Z6 4 g) fun j=>
 Z0 (Z3 false 1 j H) fun u=>
 some (u,H):=Za [6]
theorem Ht:Uh [p0] H=T0 p0 H:=Be 37 [6] Tryz.func39
def BI:Z4:=ZV 40 58 (sub (Z1 Tryz.f40) [1,1]) (Zh cfg 58 40 Tryz.f40 H0) [(0,x0)] H
def Qu:KL:=Zc (Lj 40 58 Tryz.f40 [1,1]) (Zh cfg 58 40 Tryz.f40 H0)
theorem Ag:ZX 58 (Qu H0):=Zx (C:=cfg) (kp:=cfg.keep 40) (sub (Z1 Tryz.f40) [1,1]) (ZA 40 Tryz.f40 H0)
def BK:Z4:=ZV 40 58 (sub (Z1 Tryz.f40) [1,0,1,0,0,1,1,1]) (Zc (J1 40 58 Tryz.f40 [1,0,1,0,0]) (Z7 0 (Qu H0))) [(0,x0),(7,x7),(8,x8)] H
def BJ:Z4:=ZV 40 58 (sub (Z1 Tryz.f40) [1,0,1,0,0,1,1]) (Zc (J1 40 58 Tryz.f40 [1,0,1,0,0]) (Z7 0 (Qu H0))) [(0,x0),(7,x7),(8,x8),(9,x9)] H
def Qv:Z4:=LI 40 58 (sub (Z1 Tryz.f40) [1,0,1,0,0]) (Z7 0 (Qu H0)) [(0,x0),(7,x7),(8,x8)] H
def LD:Z4:=
 Z0 (Zl .string p0) fun g=>
 Qv p0 g (.int .i64 0) H H
theorem ON:BI x0 H0 H =
 Z0 (Xe .neq x0 (.str [])) fun g=>
 Z0 (Z8 g true (.tuple []) (some x0)) fun j=>
 Z0 (Z8 g true (.tuple []) (Zl .string j)) fun u=>
 Z0 (Z8 g true (.tuple []) (Z5 .leq u (.int .i64 32))) fun w=>
 Z0 (Zj g w (.bool false)) fun y=>
 some (y,H):=Za [3,8,9]
theorem RP:BK x0 x7 x8 H0 H =
 Z0 (Z5 .add x8 (.int .i64 1)) fun g=>
 Qv x0 x7 g H0 H:=Za [3,8,9]
theorem OO:BJ x0 x7 x8 x9 H0 H =
 Z0 (Zz x0 x8) fun g=>
 Z0 (Z5 .geq g (.int .u8 97)) fun u=>
 Z0 (Z8 u true (.tuple []) (some g)) fun C=>
 Z0 (Z8 u true (.tuple []) (Z5 .leq C (.int .u8 122))) fun D=>
 Z0 (Zj u D (.bool false)) fun j=>
 Z0 (Z8 j false (.tuple []) (some g)) fun E=>
 Z0 (Z8 j false (.tuple []) (Z5 .geq E (.int .u8 65))) fun F=>
 Z0 (Z8 j false (.tuple []) (some F)) fun w=>
 Z0 (Z8 w true (.tuple []) (some g)) fun I=>
 Z0 (Z8 w true (.tuple []) (Z5 .leq I (.int .u8 90))) fun J=>
 Z0 (Z8 j false (.tuple []) (Zj w J (.bool false))) fun K=>
 Z0 (Zj j (.bool true) K) fun y=>
 Z0 (Z8 y false (.tuple []) (some g)) fun L=>
 Z0 (Z8 y false (.tuple []) (Z5 .eql L (.int .u8 95))) fun M=>
 Z0 (Zj y (.bool true) M) fun z=>
 Z0 (Z8 z false (.tuple []) (some g)) fun N=>
 Z0 (Z8 z false (.tuple []) (Z5 .eql N (.int .u8 46))) fun O=>
 Z0 (Zj z (.bool true) O) fun Q=>
 Z0 (Xk .not Q) fun t37=>
 Z0 (Z8 t37 true (.tuple []) (some x8)) fun R=>
 Z0 (Z8 t37 true (.tuple []) (Z5 .eql R (.int .i64 0))) fun S=>
 Z0 (Z8 t37 true (.tuple []) (some S)) fun A=>
 Z0 (Z8 A false (.tuple []) (some g)) fun T=>
 Z0 (Z8 A false (.tuple []) (Z5 .lss T (.int .u8 48))) fun U=>
 Z0 (Z8 t37 true (.tuple []) (Zj A (.bool true) U)) fun V=>
 Z0 (Z8 t37 true (.tuple []) (some V)) fun B=>
 Z0 (Z8 B false (.tuple []) (some g)) fun W=>
 Z0 (Z8 B false (.tuple []) (Z5 .gtr W (.int .u8 57))) fun X=>
 Z0 (Z8 t37 true (.tuple []) (Zj B (.bool true) X)) fun Y=>
 Z0 (Zj t37 Y (.bool false)) fun Z=>
 Zk Z
 (some ((.bool false),H))
 (BK x0 x7 x8 H0 H):=Za [3,8,9]
theorem VM:Qv x0 x7 x8 H0 H =
 Z0 (Z5 .lss x8 x7) fun t9=>
 Zk t9
 (BJ x0 x7 x8 t9 H0 H)
 (BI x0 H0 H):=(ZD (C:=cfg) [3,8,9] (Zm 0 (Ag H0)) _ _).trans (by kernel_rfl)
theorem ZaC:DR [p0] H=LD p0 H:=Be 58 [3,8,9] Tryz.func40
def Tw:Z4:=ZV 41 20 (sub (Z1 Tryz.f41) [1,1,1,1,1]) (Zh cfg 20 41 Tryz.f41 H0) [(6,x6)] H
def Tv:Z4:=ZV 41 20 (sub (Z1 Tryz.f41) [1,1,1]) (Zh cfg 20 41 Tryz.f41 H0) [(0,x0),(1,x1)] H
def Tu:Z4:=ZV 41 20 (sub (Z1 Tryz.f41) [1,1]) (Zh cfg 20 41 Tryz.f41 H0) [(0,x0),(1,x1)] H
def PL:Z4:=
 Z0 (Yy (.pointer 82) .eql p0 .nilp) fun g=>
 Zk g
 (some ((.tuple [.nilp,(.int .i64 5)]),H))
 (Tu p0 p1 H H)
theorem Af:Tw x6 H0 H =
 some ((.tuple [x6,(.int .i64 0)]),H):=Za [3,5,8]
theorem Dq:Tv x0 x1 H0 H =
 Z0 (Zu x0) fun j=>
 Z0 (Z6 3 j) fun u=>
 Z0 (Z3 false 1 u H) fun w=>
 Z0 (Ye .string .nilp false w x1 H) fun g=>
 Z0 (Yy (.pointer 86) .eql g .nilp) fun y=>
 Zk y
 (some ((.tuple [.nilp,(.int .i64 5)]),H))
 (Tw g H0 H):=Za [3,5,8]
theorem Qh:Tu x0 x1 H0 H =
 Z0 (Uh [x0] H) fun g=>
 Zk g.1
 (some ((.tuple [.nilp,(.int .i64 19)]),g.2))
 (Tv x0 x1 H0 g.2):=Za [3,5,8]
theorem AF:XY [p0,p1] H=PL p0 p1 H:=Be 20 [3,5,8] Tryz.func41
def S4:Z4:=ZV 43 39 (sub (Z1 Tryz.f43) [1,1,1,1]) (Zh cfg 39 43 Tryz.f43 H0) [(0,x0),(1,x1),(2,x2)] H
def Fa:KL:=Zc (Lj 43 39 Tryz.f43 [1,1,1,1]) (Zh cfg 39 43 Tryz.f43 H0)
theorem Iu:ZX 39 (Fa H0):=Zx (C:=cfg) (kp:=cfg.keep 43) (sub (Z1 Tryz.f43) [1,1,1,1]) (ZA 43 Tryz.f43 H0)
def ZfZ:Z4:=ZV 43 39 (sub (Z1 Tryz.f43) [1,1,1,0,1,0,0,1,1]) (Zc (J1 43 39 Tryz.f43 [1,1,1,0,1,0,0]) (Z7 0 (Fa H0))) [(0,x0),(1,x1),(2,x2),(18,x18),(19,x19),(20,x20),(21,x21)] H
def S5:Z4:=LI 43 39 (sub (Z1 Tryz.f43) [1,1,1,0,1,0,0]) (Z7 0 (Fa H0)) [(0,x0),(1,x1),(2,x2),(18,x18),(19,x19),(20,x20)] H
def EZ:Z4:=ZV 43 39 (sub (Z1 Tryz.f43) [1,1,1]) (Zh cfg 39 43 Tryz.f43 H0) [(0,x0),(1,x1),(2,x2)] H
def EY:Z4:=ZV 43 39 (sub (Z1 Tryz.f43) [1,1]) (Zh cfg 39 43 Tryz.f43 H0) [(0,x0),(1,x1),(2,x2)] H
def SO:Z4:=
 Z0 (Yy (.pointer 82) .eql p0 .nilp) fun g=>
 Zk g
 (some ((.tuple [.nilp,(.int .i64 5)]),H))
 (EY p0 p1 p2 H H)
theorem Zbh:S4 x0 x1 x2 H0 H =
 Z0 (some ((.map H.length),H++[.map [] 0])) fun g=>
 Z0 ((Xj [(0,1,x0),(1,1,x1),(3,1,g.1)] [.nilp,(.str []),.nils,.nilm]).map .agg) fun u=>
 Z0 (Ql (.int .i64 0) x2) fun w=>
 Z0 ((Xj [(0,4,u),(4,1,w)] [.nilp,(.str []),.nils,.nilm,(.int .i64 0),(.int .i64 0),(.bool false)]).map .agg) fun t37=>
 Z0 (ZN t37 g.2) fun j=>
 some ((.tuple [j.1,(.int .i64 0)]),j.2):=Za [3,5,7,11,12]
theorem Zbi:S5 x0 x1 x2 x18 x19 x20 H0 H =
 Z0 (Z5 .lss x20 x19) fun g=>
 Zk g
 (ZfZ x0 x1 x2 x18 x19 x20 g H0 H)
 (S4 x0 x1 x2 H0 H):=(ZD (C:=cfg) [3,5,7,11,12] (Zm 0 (Iu H0)) _ _).trans (by kernel_rfl)
theorem Zbg:EZ x0 x1 x2 H0 H =
 Z0 (QU FN [x0,x1] H) fun g=>
 Z0 (Zl (.slice 9) g.1) fun j=>
 S5 x0 x1 x2 g.1 j (.int .i64 0) H0 g.2:=Za [3,5,7,11,12]
theorem Zbf:EY x0 x1 x2 H0 H =
 Z0 (Zf U2 [x1] H) fun g=>
 Z0 (Xk .not g.1) fun j=>
 Zk j
 (some ((.tuple [.nilp,(.int .i64 4)]),g.2))
 (EZ x0 x1 x2 H0 g.2):=Za [3,5,7,11,12]
theorem ZbD:UI [p0,p1,p2] H=SO p0 p1 p2 H:=Be 39 [3,5,7,11,12] Tryz.func43
def Bb:Z4:=ZV 45 47 (sub (Z1 Tryz.f45) [1,1,1,1]) (Zh cfg 47 45 Tryz.f45 H0) [(0,x0)] H
def WI:KL:=Zc (Lj 45 47 Tryz.f45 [1,1,1,1]) (Zh cfg 47 45 Tryz.f45 H0)
theorem Pg:ZX 47 (WI H0):=Zx (C:=cfg) (kp:=cfg.keep 45) (sub (Z1 Tryz.f45) [1,1,1,1]) (ZA 45 Tryz.f45 H0)
def Bf:Z4:=ZV 45 47 (sub (Z1 Tryz.f45) [1,1,1,0,0,0,1,0,1,1]) (Z7 1 (Zc (J1 45 47 Tryz.f45 [1,1,1,0,0,0]) (Z7 0 (WI H0)))) [(0,x0),(3,x3)] H
def Bc:Z4:=ZV 45 47 (sub (Z1 Tryz.f45) [1,1,1,0,0,0,1]) (Zc (J1 45 47 Tryz.f45 [1,1,1,0,0,0]) (Z7 0 (WI H0))) [(0,x0)] H
def WJ:Z4:=LI 45 47 (sub (Z1 Tryz.f45) [1,1,1,0,0,0]) (Z7 0 (WI H0)) [(0,x0)] H
def Ba:Z4:=ZV 45 47 (sub (Z1 Tryz.f45) [1,1,1]) (Zh cfg 47 45 Tryz.f45 H0) [(0,x0)] H
def B9:Z4:=ZV 45 47 (sub (Z1 Tryz.f45) [1,1]) (Zh cfg 47 45 Tryz.f45 H0) [(0,x0)] H
def BV:Z4:=
 Z0 (Yy (.pointer 124) .eql p0 .nilp) fun g=>
 Zk g
 (some ((.int .i64 5),H))
 (B9 p0 H H)
theorem NW:Bb x0 H0 H =
 Z0 (Zu x0) fun j=>
 Z0 (Z6 6 j) fun u=>
 Z0 (Ze 1 u (.bool true) H) fun g=>
 some ((.int .i64 0),g.2):=Za [3,5,6,10,11]
theorem NY:Bf x0 x3 H0 H =
 Z0 (Zu x0) fun j=>
 Z0 (Z6 0 j) fun u=>
 Z0 (forgetE.run [u,x3] H) fun g=>
 WJ x0 H0 g.2:=Za [3,5,6,10,11]
theorem NX:Bc x0 H0 H =
 Z0 (Zu x0) fun w=>
 Z0 (Z6 0 w) fun y=>
 Z0 (Z6 2 y) fun z=>
 Z0 (Z3 false 1 z H) fun A=>
 Z0 (Zp 1 A (.int .i64 0)) fun B=>
 Z0 (Z3 false 1 B H) fun u=>
 Z0 (Zu x0) fun C=>
 Z0 (Z6 0 C) fun D=>
 Z0 (Z6 0 D) fun E=>
 Z0 (Z3 false 1 E H) fun F=>
 Z0 (Vy [F,u] H) fun g=>
 Z0 (Z5 .neq g.1 (.int .i64 0)) fun j=>
 Z0 (Z8 j true (.tuple []) (some g.1)) fun I=>
 Z0 (Z8 j true (.tuple []) (Z5 .neq I (.int .i64 5))) fun J=>
 Z0 (Zj j J (.bool false)) fun t37=>
 Zk t37
 (some (g.1,g.2))
 (Bf x0 u H0 g.2):=Za [3,5,6,10,11]
theorem JM:WJ x0 H0 H =
 Z0 (Zu x0) fun g=>
 Z0 (Z6 0 g) fun j=>
 Z0 (Z6 2 j) fun u=>
 Z0 (Z3 false 1 u H) fun w=>
 Z0 (Zl (.slice 9) w) fun y=>
 Z0 (Z5 .gtr y (.int .i64 0)) fun z=>
 Zk z
 (Bc x0 H0 H)
 (Bb x0 H0 H):=(ZD (C:=cfg) [3,5,6,10,11] (Zm 0 (Pg H0)) _ _).trans (by kernel_rfl)
theorem NV:Ba x0 H0 H =
 WJ x0 H0 H:=Za [3,5,6,10,11]
theorem NU:B9 x0 H0 H =
 Z0 (Zu x0) fun j=>
 Z0 (Z6 6 j) fun t9=>
 Z0 (Z3 false 1 t9 H) fun g=>
 Zk g
 (some ((.int .i64 8),H))
 (Ba x0 H0 H):=Za [3,5,6,10,11]
theorem My:WW [p0] H=BV p0 H:=Be 47 [3,5,6,10,11] Tryz.func45
def EW:Z4:=ZV 50 56 (sub (Z1 Tryz.f50) [1,1,1,1,1]) (Zh cfg 56 50 Tryz.f50 H0) [(5,x5)] H
def F9:KL:=Zc (Lj 50 56 Tryz.f50 [1,1,1,1,1]) (Zh cfg 56 50 Tryz.f50 H0)
theorem Is:ZX 56 (F9 H0):=Zx (C:=cfg) (kp:=cfg.keep 50) (sub (Z1 Tryz.f50) [1,1,1,1,1]) (ZA 50 Tryz.f50 H0)
def ZfY:Z4:=ZV 50 56 (sub (Z1 Tryz.f50) [1,1,1,1,0,1,0,0,1,1]) (Zc (J1 50 56 Tryz.f50 [1,1,1,1,0,1,0,0]) (Z7 0 (F9 H0))) [(5,x5),(6,x6),(21,x21),(22,x22),(23,x23),(24,x24)] H
def EX:Z4:=LI 50 56 (sub (Z1 Tryz.f50) [1,1,1,1,0,1,0,0]) (Z7 0 (F9 H0)) [(5,x5),(6,x6),(21,x21),(22,x22),(23,x23)] H
def EV:Z4:=ZV 50 56 (sub (Z1 Tryz.f50) [1,1,1]) (Zh cfg 56 50 Tryz.f50 H0) [(0,x0),(1,x1),(5,x5)] H
def SN:Z4:=
 Z0 (Yy (.pointer 82) .eql p0 .nilp) fun g=>
 Z0 (Z8 g false (.tuple []) (some p1)) fun u=>
 Z0 (Z8 g false ((.tuple []),H) (Zf U2 [u] H)) fun j=>
 Z0 (Z8 g false (.tuple []) (Xk .not j.1)) fun w=>
 Z0 (Zj g (.bool true) w) fun y=>
 Zk y
 (some (.nils,j.2))
 (EV p0 p1 .nils H j.2)
theorem Zbd:EW x5 H0 H =
 some (x5,H):=Za [4,7,11,12]
theorem Zbe:EX x5 x6 x21 x22 x23 H0 H =
 Z0 (Z5 .lss x23 x22) fun g=>
 Zk g
 (ZfY x5 x6 x21 x22 x23 g H0 H)
 (EW x5 H0 H):=(ZD (C:=cfg) [4,7,11,12] (Zm 0 (Is H0)) _ _).trans (by kernel_rfl)
theorem Zbc:EV x0 x1 x5 H0 H =
 Z0 (Zf Qj [x1] H) fun j=>
 Z0 (QU V5 [x0] j.2) fun g=>
 Z0 (Zl (.slice 108) g.1) fun u=>
 EX x5 j.1 g.1 u (.int .i64 0) H0 g.2:=Za [4,7,11,12]
theorem ZbC:FN [p0,p1] H=SN p0 p1 H:=Be 56 [4,7,11,12] Tryz.func50
def QO:Z4:=ZV 51 19 (sub (Z1 Tryz.f51) [1,1,1]) (Zh cfg 19 51 Tryz.f51 H0) [(6,x6)] H
def FV:Z4:=
 Z0 (XY [p0,p1] H) fun g=>
 Z0 (ZQ g.1 0) fun y=>
 Z0 (ZQ g.1 1) fun j=>
 Z0 (Z5 .eql j (.int .i64 0)) fun w=>
 Zk w
 (Z0 (KF [p0,p1] g.2) fun u=>
 QO j H u.2)
 (QO j H g.2)
theorem Ub:QO x6 H0 H =
 some (x6,H):=Za [4]
theorem Sf:Vy [p0,p1] H=FV p0 p1 H:=Be 19 [4] Tryz.func51
def BM:Z4:=ZV 72 54 (sub (Z1 Tryz.f72) [1,1]) (Zh cfg 54 72 Tryz.f72 H0) [(0,x0)] H
def Qw:KL:=Zc (Lj 72 54 Tryz.f72 [1,1]) (Zh cfg 54 72 Tryz.f72 H0)
theorem Ai:ZX 54 (Qw H0):=Zx (C:=cfg) (kp:=cfg.keep 72) (sub (Z1 Tryz.f72) [1,1]) (ZA 72 Tryz.f72 H0)
def BO:Z4:=ZV 72 54 (sub (Z1 Tryz.f72) [1,0,1,0,0,1,1,1]) (Zc (J1 72 54 Tryz.f72 [1,0,1,0,0]) (Z7 0 (Qw H0))) [(0,x0),(7,x7),(8,x8)] H
def BN:Z4:=ZV 72 54 (sub (Z1 Tryz.f72) [1,0,1,0,0,1,1]) (Zc (J1 72 54 Tryz.f72 [1,0,1,0,0]) (Z7 0 (Qw H0))) [(0,x0),(7,x7),(8,x8),(9,x9)] H
def Qx:Z4:=LI 72 54 (sub (Z1 Tryz.f72) [1,0,1,0,0]) (Z7 0 (Qw H0)) [(0,x0),(7,x7),(8,x8)] H
def LH:Z4:=
 Z0 (Zl .string p0) fun g=>
 Qx p0 g (.int .i64 0) H H
theorem OR:BM x0 H0 H =
 Z0 (Xe .neq x0 (.str [])) fun g=>
 Z0 (Z8 g true (.tuple []) (some x0)) fun j=>
 Z0 (Z8 g true (.tuple []) (Zl .string j)) fun u=>
 Z0 (Z8 g true (.tuple []) (Z5 .leq u (.int .i64 16))) fun w=>
 Z0 (Zj g w (.bool false)) fun y=>
 some (y,H):=Za [3,8,9]
theorem RR:BO x0 x7 x8 H0 H =
 Z0 (Z5 .add x8 (.int .i64 1)) fun g=>
 Qx x0 x7 g H0 H:=Za [3,8,9]
theorem OS:BN x0 x7 x8 x9 H0 H =
 Z0 (Zz x0 x8) fun g=>
 Z0 (Z5 .eql g (.int .u8 95)) fun u=>
 Z0 (Z8 u false (.tuple []) (some g)) fun B=>
 Z0 (Z8 u false (.tuple []) (Z5 .geq B (.int .u8 97))) fun C=>
 Z0 (Z8 u false (.tuple []) (some C)) fun y=>
 Z0 (Z8 y true (.tuple []) (some g)) fun D=>
 Z0 (Z8 y true (.tuple []) (Z5 .leq D (.int .u8 122))) fun E=>
 Z0 (Z8 u false (.tuple []) (Zj y E (.bool false))) fun F=>
 Z0 (Zj u (.bool true) F) fun w=>
 Z0 (Z8 w false (.tuple []) (some g)) fun I=>
 Z0 (Z8 w false (.tuple []) (Z5 .geq I (.int .u8 65))) fun J=>
 Z0 (Z8 w false (.tuple []) (some J)) fun z=>
 Z0 (Z8 z true (.tuple []) (some g)) fun K=>
 Z0 (Z8 z true (.tuple []) (Z5 .leq K (.int .u8 90))) fun L=>
 Z0 (Z8 w false (.tuple []) (Zj z L (.bool false))) fun M=>
 Z0 (Zj w (.bool true) M) fun N=>
 Z0 (Xk .not N) fun j=>
 Z0 (Z8 j true (.tuple []) (some x8)) fun O=>
 Z0 (Z8 j true (.tuple []) (Z5 .eql O (.int .i64 0))) fun Q=>
 Z0 (Z8 j true (.tuple []) (some Q)) fun t37=>
 Z0 (Z8 t37 false (.tuple []) (some g)) fun R=>
 Z0 (Z8 t37 false (.tuple []) (Z5 .lss R (.int .u8 48))) fun S=>
 Z0 (Z8 j true (.tuple []) (Zj t37 (.bool true) S)) fun T=>
 Z0 (Z8 j true (.tuple []) (some T)) fun A=>
 Z0 (Z8 A false (.tuple []) (some g)) fun U=>
 Z0 (Z8 A false (.tuple []) (Z5 .gtr U (.int .u8 57))) fun V=>
 Z0 (Z8 j true (.tuple []) (Zj A (.bool true) V)) fun W=>
 Z0 (Zj j W (.bool false)) fun X=>
 Zk X
 (some ((.bool false),H))
 (BO x0 x7 x8 H0 H):=Za [3,8,9]
theorem VN:Qx x0 x7 x8 H0 H =
 Z0 (Z5 .lss x8 x7) fun t9=>
 Zk t9
 (BN x0 x7 x8 t9 H0 H)
 (BM x0 H0 H):=(ZD (C:=cfg) [3,8,9] (Zm 0 (Ai H0)) _ _).trans (by kernel_rfl)
theorem ZaD:U2 [p0] H=LH p0 H:=Be 54 [3,8,9] Tryz.func72
def Ma:Z4:=
 Z0 (Xe .add (.str [46,116,109,112,46]) p0) fun t4=>
 Z0 (Xe .add t4 (.str [46])) fun t5=>
 some (t5,H)
theorem IC:Qj [p0] H=Ma p0 H:=Be 6 [] Tryz.func83
def PK:Z4:=
 Z0 (Zu p0) fun N=>
 Z0 (Z6 3 N) fun O=>
 Z0 (Z3 false 1 O H) fun Q=>
 Z0 (Ye .string .nilp false Q p1 H) fun u=>
 Z0 (Yy (.pointer 86) .neq u .nilp) fun w=>
 Zk w
 (Z0 (Zu p0) fun y=>
 Z0 (Z6 1 y) fun z=>
 Z0 (Z3 false 1 z H) fun A=>
 Z0 (Zu u) fun B=>
 Z0 (Z6 0 B) fun C=>
 Z0 (Z3 false 1 C H) fun D=>
 Z0 (Zl (.slice 5) D) fun E=>
 Z0 (Z5 .sub A E) fun F=>
 Z0 (Zu p0) fun I=>
 Z0 (Z6 1 I) fun J=>
 Z0 (Ze 1 J F H) fun g=>
 Z0 (Zu p0) fun K=>
 Z0 (Z6 3 K) fun L=>
 Z0 (Z3 false 1 L g.2) fun M=>
 Z0 (QF .string M p1 g.2) fun j=>
 some ((.tuple []),j.2))
 (some ((.tuple []),H))
theorem AE:KF [p0,p1] H=PK p0 p1 H:=Be 30 [] Tryz.func85
def FI:Z4:=ZV 97 63 (sub (Z1 Tryz.f97) [1,1,1,1,1]) (Zh cfg 63 97 Tryz.f97 H0) [(0,x0),(4,x4)] H
def FE:Z4:=ZV 97 63 (sub (Z1 Tryz.f97) [1,1,1]) (Zh cfg 63 97 Tryz.f97 H0) [(0,x0)] H
def FB:Z4:=ZV 97 63 (sub (Z1 Tryz.f97) [1,1]) (Zh cfg 63 97 Tryz.f97 H0) [(0,x0)] H
def FW:Z4:=
 Z0 (Yy (.pointer 124) .eql p0 .nilp) fun g=>
 Zk g
 (some ((.tuple [(.str []),(.int .i64 5)]),H))
 (FB p0 H H)
theorem S9:FI x0 x4 H0 H =
 Z0 (Zu x0) fun w=>
 Z0 (Z6 5 w) fun y=>
 Z0 (Z3 false 1 y H) fun z=>
 Z0 (Z5 .add z (.int .i64 1)) fun A=>
 Z0 (Zu x0) fun B=>
 Z0 (Z6 5 B) fun C=>
 Z0 (Ze 1 C A H) fun g=>
 Z0 (Zu x0) fun D=>
 Z0 (Z6 0 D) fun E=>
 Z0 (Z6 2 E) fun F=>
 Z0 (Z3 false 1 F g.2) fun I=>
 Z0 ((ZE 1 [(0,x4)] [(.str [])]).map (.vs 1 .clip)) fun J=>
 Z0 (Ym 1 16 I J g.2) fun j=>
 Z0 (Zu x0) fun K=>
 Z0 (Z6 0 K) fun L=>
 Z0 (Z6 2 L) fun M=>
 Z0 (Ze 1 M j.1 j.2) fun u=>
 some ((.tuple [x4,(.int .i64 0)]),u.2):=Za [3,5,9]
theorem G1:FE x0 H0 H =
 Z0 (Zu x0) fun y=>
 Z0 (Z6 0 y) fun z=>
 Z0 (Z6 1 z) fun A=>
 Z0 (Z3 false 1 A H) fun B=>
 Z0 (Zf Qj [B] H) fun j=>
 Z0 (Zu x0) fun C=>
 Z0 (Z6 5 C) fun D=>
 Z0 (Z3 false 1 D j.2) fun E=>
 Z0 (Z5 .add E (.int .i64 1)) fun F=>
 Z0 (Zf Lr [F] j.2) fun u=>
 Z0 (Xe .add j.1 u.1) fun w=>
 Z0 (Zu x0) fun I=>
 Z0 (Z6 0 I) fun J=>
 Z0 (Z6 0 J) fun K=>
 Z0 (Z3 false 1 K u.2) fun t37=>
 Z0 (QZ [t37,w] u.2) fun g=>
 Z0 (Z5 .neq g.1 (.int .i64 0)) fun L=>
 Zk L
 (some ((.tuple [(.str []),g.1]),g.2))
 (FI x0 w H0 g.2):=Za [3,5,9]
theorem Uc:FB x0 H0 H =
 Z0 (Zu x0) fun t9=>
 Z0 (Z6 6 t9) fun j=>
 Z0 (Z3 false 1 j H) fun g=>
 Z0 (Z8 g false (.tuple []) (some x0)) fun u=>
 Z0 (Z8 g false (.tuple []) (Zu u)) fun w=>
 Z0 (Z8 g false (.tuple []) (Z6 0 w)) fun y=>
 Z0 (Z8 g false (.tuple []) (Z6 0 y)) fun z=>
 Z0 (Z8 g false (.tuple []) (Z3 false 1 z H)) fun A=>
 Z0 (Z8 g false (.tuple []) (Yy (.pointer 82) .eql A .nilp)) fun B=>
 Z0 (Zj g (.bool true) B) fun C=>
 Zk C
 (some ((.tuple [(.str []),(.int .i64 8)]),H))
 (FE x0 H0 H):=Za [3,5,9]
theorem Sg:Vz [p0] H=FW p0 H:=Be 63 [3,5,9] Tryz.func97
def Bj:Z4:=ZV 98 51 (sub (Z1 Tryz.f98) [1,1,1,1,1,1]) (Zh cfg 51 98 Tryz.f98 H0) [(0,x0),(1,x1),(8,x8)] H
def Bi:Z4:=ZV 98 51 (sub (Z1 Tryz.f98) [1,1,1,1,1]) (Zh cfg 51 98 Tryz.f98 H0) [(0,x0),(1,x1),(8,x8)] H
def Bh:Z4:=ZV 98 51 (sub (Z1 Tryz.f98) [1,1,1]) (Zh cfg 51 98 Tryz.f98 H0) [(0,x0),(1,x1),(2,x2)] H
def Bg:Z4:=ZV 98 51 (sub (Z1 Tryz.f98) [1,1]) (Zh cfg 51 98 Tryz.f98 H0) [(0,x0),(1,x1),(2,x2)] H
def BW:Z4:=
 Z0 (Xf [p0,p1] H) fun g=>
 Z0 (Z5 .neq g.1 (.int .i64 0)) fun j=>
 Zk j
 (some (g.1,g.2))
 (Bg p0 p1 p2 H g.2)
theorem NZ:Bj x0 x1 x8 H0 H =
 Z0 (Zu x0) fun j=>
 Z0 (Z6 0 j) fun u=>
 Z0 (Z6 0 u) fun w=>
 Z0 (Z3 false 1 w H) fun y=>
 Z0 (QY [y,x1,x8] H) fun g=>
 some (g.1,g.2):=Za [4,6,9,11]
theorem JN:Bi x0 x1 x8 H0 H =
 Z0 (Zl .string x8) fun j=>
 Z0 (Zu x0) fun u=>
 Z0 (Z6 4 u) fun w=>
 Z0 (Z3 false 1 w H) fun y=>
 Z0 (Zu x0) fun z=>
 Z0 (Z6 0 z) fun A=>
 Z0 (QU XF [A] H) fun g=>
 Z0 (Z5 .sub y g.1) fun B=>
 Z0 (Z5 .gtr j B) fun C=>
 Zk C
 (some ((.int .i64 11),g.2))
 (Bj x0 x1 x8 H0 g.2):=Za [4,6,9,11]
theorem Vs:Bh x0 x1 x2 H0 H =
 Z0 (Zf TA [x2] H) fun g=>
 Z0 (ZQ g.1 0) fun u=>
 Z0 (ZQ g.1 1) fun j=>
 Z0 (Z5 .neq j (.int .i64 0)) fun w=>
 Zk w
 (some (j,g.2))
 (Bi x0 x1 u H0 g.2):=Za [4,6,9,11]
theorem XT:Bg x0 x1 x2 H0 H =
 Z0 (Zu x0) fun g=>
 Z0 (Z6 0 g) fun j=>
 Z0 (Z6 3 j) fun u=>
 Z0 (Z3 false 1 u H) fun w=>
 Z0 (Ye .string (.bool false) false w x1 H) fun y=>
 Zk y
 (some ((.int .i64 8),H))
 (Bh x0 x1 x2 H0 H):=Za [4,6,9,11]
theorem Mz:WX [p0,p1,p2] H=BW p0 p1 p2 H:=Be 51 [4,6,9,11] Tryz.func98
def Dx:Z4:=ZV 99 29 (sub (Z1 Tryz.f99) [1,1,1]) (Zh cfg 29 99 Tryz.f99 H0) [(0,x0),(1,x1)] H
def Dw:Z4:=ZV 99 29 (sub (Z1 Tryz.f99) [1,1]) (Zh cfg 29 99 Tryz.f99 H0) [(0,x0),(1,x1)] H
def Fj:Z4:=
 Z0 (Xf [p0,p1] H) fun g=>
 Z0 (Z5 .neq g.1 (.int .i64 0)) fun j=>
 Zk j
 (some (g.1,g.2))
 (Dw p0 p1 H g.2)
theorem Lb:Dx x0 x1 H0 H =
 Z0 (Zu x0) fun j=>
 Z0 (Z6 0 j) fun u=>
 Z0 (Z6 3 u) fun w=>
 Z0 (Z3 false 1 w H) fun y=>
 Z0 (Xr .string y x1 (.bool true) H) fun g=>
 some ((.int .i64 0),g.2):=Za [4,7]
theorem Kw:Dw x0 x1 H0 H =
 Z0 (Zu x0) fun j=>
 Z0 (Z6 0 j) fun u=>
 Z0 (Z6 0 u) fun w=>
 Z0 (Z3 false 1 w H) fun y=>
 Z0 (KE [y,x1] H) fun g=>
 Z0 (Z5 .neq g.1 (.int .i64 0)) fun z=>
 Zk z
 (some (g.1,g.2))
 (Dx x0 x1 H0 g.2):=Za [4,7]
theorem LE:Vg [p0,p1] H=Fj p0 p1 H:=Be 29 [4,7] Tryz.func99
def Dy:Z4:=ZV 100 23 (sub (Z1 Tryz.f100) [1,1]) (Zh cfg 23 100 Tryz.f100 H0) [(0,x0)] H
def Fk:Z4:=
 Z0 (Yy (.pointer 124) .eql p0 .nilp) fun t4=>
 Z0 (Z8 t4 false (.tuple []) (some p0)) fun C=>
 Z0 (Z8 t4 false (.tuple []) (Zu C)) fun D=>
 Z0 (Z8 t4 false (.tuple []) (Z6 6 D)) fun E=>
 Z0 (Z8 t4 false (.tuple []) (Z3 false 1 E H)) fun t9=>
 Z0 (Zj t4 (.bool true) t9) fun g=>
 Z0 (Z8 g false (.tuple []) (some p0)) fun j=>
 Z0 (Z8 g false (.tuple []) (Zu j)) fun u=>
 Z0 (Z8 g false (.tuple []) (Z6 0 u)) fun w=>
 Z0 (Z8 g false (.tuple []) (Z6 0 w)) fun y=>
 Z0 (Z8 g false (.tuple []) (Z3 false 1 y H)) fun z=>
 Z0 (Z8 g false (.tuple []) (Yy (.pointer 82) .eql z .nilp)) fun A=>
 Z0 (Zj g (.bool true) A) fun B=>
 Zk B
 (some ((.int .i64 0),H))
 (Dy p0 H H)
theorem Lc:Dy x0 H0 H =
 Z0 (Zu x0) fun j=>
 Z0 (Z6 0 j) fun u=>
 Z0 (QU XF [u] H) fun g=>
 some (g.1,g.2):=Za [3]
theorem LF:QA [p0] H=Fk p0 H:=Be 23 [3] Tryz.func100
def G3:Z4:=ZV 102 28 (sub (Z1 Tryz.f102) [1,1,1]) (Zh cfg 28 102 Tryz.f102 H0) [(0,x0),(1,x1)] H
def G2:Z4:=ZV 102 28 (sub (Z1 Tryz.f102) [1,1]) (Zh cfg 28 102 Tryz.f102 H0) [(0,x0),(1,x1)] H
def GE:Z4:=
 Z0 (Xf [p0,p1] H) fun g=>
 Z0 (Z5 .neq g.1 (.int .i64 0)) fun j=>
 Zk j
 (some (g.1,g.2))
 (G2 p0 p1 H g.2)
theorem Nj:G3 x0 x1 H0 H =
 Z0 (Zu x0) fun j=>
 Z0 (Z6 0 j) fun u=>
 Z0 (forgetE.run [u,x1] H) fun g=>
 some ((.int .i64 0),g.2):=Za [4,7]
theorem Ni:G2 x0 x1 H0 H =
 Z0 (Zu x0) fun j=>
 Z0 (Z6 0 j) fun u=>
 Z0 (Z6 0 u) fun w=>
 Z0 (Z3 false 1 w H) fun y=>
 Z0 (Vy [y,x1] H) fun g=>
 Z0 (Z5 .neq g.1 (.int .i64 0)) fun z=>
 Zk z
 (some (g.1,g.2))
 (G3 x0 x1 H0 g.2):=Za [4,7]
theorem No:Uu [p0,p1] H=GE p0 p1 H:=Be 28 [4,7] Tryz.func102
def Zbu:Z4:=
 Z0 (Ah ZdG [p0] H) fun g=>
 some (g.1,g.2)
theorem Zg8:Lr [p0] H=Zbu p0 H:=Be 5 [] Tryz.func124
def Dz:Z4:=ZV 125 22 (sub (Z1 Tryz.f125) [1,1]) (Zh cfg 22 125 Tryz.f125 H0) [] H
def Fl:Z4:=
 Z0 (Yy (.pointer 124) .eql p0 .nilp) fun D=>
 Zk D
 (some ((.int .i64 5),H))
 (Z0 (Zu p0) fun j=>
 Z0 (Z6 6 j) fun u=>
 Z0 (Z3 false 1 u H) fun w=>
 Zk w
 (some ((.int .i64 8),H))
 (Z0 (Zu p0) fun y=>
 Z0 (Z6 0 y) fun z=>
 Z0 (Z6 2 z) fun A=>
 Z0 (Z3 false 1 A H) fun B=>
 Z0 (Zf YR [B,p1] H) fun g=>
 Z0 (Xk .not g.1) fun C=>
 Zk C
 (some ((.int .i64 5),g.2))
 (Dz H g.2)))
theorem Ld:Dz H0 H =
 some ((.int .i64 0),H):=Za [7]
theorem LG:Xf [p0,p1] H=Fl p0 p1 H:=Be 22 [7] Tryz.func125
def Cz:Z4:=ZV 126 27 (sub (Z1 Tryz.f126) [1,1,1]) (Zh cfg 27 126 Tryz.f126 H0) [(4,x4)] H
def UU:KL:=Zc (Lj 126 27 Tryz.f126 [1,1,1]) (Zh cfg 27 126 Tryz.f126 H0)
theorem Oh:ZX 27 (UU H0):=Zx (C:=cfg) (kp:=cfg.keep 126) (sub (Z1 Tryz.f126) [1,1,1]) (ZA 126 Tryz.f126 H0)
def CB:Z4:=ZV 126 27 (sub (Z1 Tryz.f126) [1,1,0,1,0,0,1,1,1]) (Zc (J1 126 27 Tryz.f126 [1,1,0,1,0,0]) (Z7 0 (UU H0))) [(4,x4),(9,x9),(10,x10),(11,x11)] H
def Zhg:KL:=Zc (Lj 126 27 Tryz.f126 [1,1,0,1,0,0,1,1,1]) (Zc (J1 126 27 Tryz.f126 [1,1,0,1,0,0]) (Z7 0 (UU H0)))
def CC:Z4:=ZV 126 27 (sub (Z1 Tryz.f126) [1,1,0,1,0,0,1,1,0,0,1,1,1]) (Z7 1 (Zhg H0)) [(4,x4),(7,x7),(9,x9),(10,x10),(11,x11)] H
def CA:Z4:=ZV 126 27 (sub (Z1 Tryz.f126) [1,1,0,1,0,0,1,1]) (Zc (J1 126 27 Tryz.f126 [1,1,0,1,0,0]) (Z7 0 (UU H0))) [(4,x4),(9,x9),(10,x10),(11,x11),(12,x12)] H
def Ki:Z4:=LI 126 27 (sub (Z1 Tryz.f126) [1,1,0,1,0,0]) (Z7 0 (UU H0)) [(4,x4),(9,x9),(10,x10),(11,x11)] H
def Ar:Z4:=
 Z0 (some ((.ptr H.length 0),H++[.bld 201 5 []])) fun j=>
 Z0 (Zl (.slice 9) p0) fun g=>
 Ki j.1 p0 g (.int .i64 0) H j.2
theorem ZcP:Cz x4 H0 H =
 Z0 (stringE.run [x4] H) fun g=>
 some ((.tuple [g.1,(.int .i64 0)]),g.2):=Za [4,8,9,10]
theorem ZcQ:CB x4 x9 x10 x11 H0 H =
 Z0 (Z5 .add x11 (.int .i64 1)) fun g=>
 Ki x4 x9 x10 g H0 H:=Za [4,8,9,10]
theorem ZcR:CC x4 x7 x9 x10 x11 H0 H =
 Z0 (textE.run [x4,x7] H) fun g=>
 CB x4 x9 x10 x11 H0 g.2:=Za [4,8,9,10]
theorem PZ:CA x4 x9 x10 x11 x12 H0 H =
 Z0 (Zp 1 x9 x11) fun u=>
 Z0 (Z3 false 1 u H) fun w=>
 Z0 (Zf TB [w] H) fun g=>
 Z0 (ZQ g.1 0) fun y=>
 Z0 (ZQ g.1 1) fun j=>
 Z0 (Z5 .neq j (.int .i64 0)) fun z=>
 Zk z
 (some ((.tuple [(.str []),j]),g.2))
 (CC x4 y x9 x10 x11 H0 g.2):=Za [4,8,9,10]
theorem N0:Ki x4 x9 x10 x11 H0 H =
 Z0 (Z5 .lss x11 x10) fun g=>
 Zk g
 (CA x4 x9 x10 x11 g H0 H)
 (Cz x4 H0 H):=(ZD (C:=cfg) [4,8,9,10] (Zm 0 (Oh H0)) _ _).trans (by kernel_rfl)
theorem ZdQ:TA [p0] H=Ar p0 H:=Be 27 [4,8,9,10] Tryz.func126
def Bk:Z4:=ZV 127 29 (sub (Z1 Tryz.f127) [1,1,1]) (Zh cfg 29 127 Tryz.f127 H0) [(3,x3)] H
def WK:KL:=Zc (Lj 127 29 Tryz.f127 [1,1,1]) (Zh cfg 29 127 Tryz.f127 H0)
theorem Ph:ZX 29 (WK H0):=Zx (C:=cfg) (kp:=cfg.keep 127) (sub (Z1 Tryz.f127) [1,1,1]) (ZA 127 Tryz.f127 H0)
def Uz:Z4:=ZV 127 29 (sub (Z1 Tryz.f127) [1,1,0,1,0,0,1,1,1]) (Zc (J1 127 29 Tryz.f127 [1,1,0,1,0,0]) (Z7 0 (WK H0))) [(0,x0),(3,x3),(10,x10),(11,x11),(12,x12)] H
def Bl:Z4:=ZV 127 29 (sub (Z1 Tryz.f127) [1,1,0,1,0,0,1,1]) (Zc (J1 127 29 Tryz.f127 [1,1,0,1,0,0]) (Z7 0 (WK H0))) [(0,x0),(3,x3),(10,x10),(11,x11),(12,x12),(13,x13)] H
def WL:Z4:=LI 127 29 (sub (Z1 Tryz.f127) [1,1,0,1,0,0]) (Z7 0 (WK H0)) [(0,x0),(3,x3),(10,x10),(11,x11),(12,x12)] H
def BX:Z4:=
 Z0 (Zu p0) fun u=>
 Z0 (Z6 0 u) fun w=>
 Z0 (Z3 false 1 w H) fun t9=>
 Z0 (QU V5 [t9] H) fun g=>
 Z0 (Zl (.slice 108) g.1) fun j=>
 WL p0 (.int .i64 0) g.1 j (.int .i64 0) H g.2
theorem M0:Bk x3 H0 H =
 some (x3,H):=Za [4,7,8]
theorem JO:Uz x0 x3 x10 x11 x12 H0 H =
 Z0 (Z5 .add x12 (.int .i64 1)) fun g=>
 WL x0 x3 x10 x11 g H0 H:=Za [4,7,8]
theorem M1:Bl x0 x3 x10 x11 x12 x13 H0 H =
 Z0 (Zp 3 x10 x12) fun w=>
 Z0 (Z3 true 3 w H) fun y=>
 Z0 (some ((.ptr H.length 0),H++[.cells [(.str []),(.int .i64 0),(.int .i64 0)]])) fun u=>
 Z0 (Ze 3 u.1 y u.2) fun g=>
 Z0 (Zu x0) fun z=>
 Z0 (Z6 2 z) fun A=>
 Z0 (Z3 false 1 A g.2) fun B=>
 Z0 (Z6 0 u.1) fun C=>
 Z0 (Z3 false 1 C g.2) fun D=>
 Z0 (Zf YR [B,D] g.2) fun j=>
 Zk j.1
 (Z0 (Z6 1 u.1) fun E=>
 Z0 (Z3 false 1 E j.2) fun F=>
 Z0 (Z5 .add x3 F) fun I=>
 Uz x0 I x10 x11 x12 H0 j.2)
 (Uz x0 x3 x10 x11 x12 H0 j.2):=Za [4,7,8]
theorem JP:WL x0 x3 x10 x11 x12 H0 H =
 Z0 (Z5 .lss x12 x11) fun g=>
 Zk g
 (Bl x0 x3 x10 x11 x12 g H0 H)
 (Bk x3 H0 H):=(ZD (C:=cfg) [4,7,8] (Zm 0 (Ph H0)) _ _).trans (by kernel_rfl)
theorem MA:XF [p0] H=BX p0 H:=Be 29 [4,7,8] Tryz.func127
def Vt:Z4:=
 Z0 (Zf Wa [p0,p1] H) fun g=>
 Z0 (Z5 .geq g.1 (.int .i64 0)) fun j=>
 some (j,g.2)
theorem Kx:YR [p0,p1] H=Vt p0 p1 H:=Be 9 [] Tryz.func163
def CD:Z4:=ZV 164 23 (sub (Z1 Tryz.f164) [1,1]) (Zh cfg 23 164 Tryz.f164 H0) [(0,x0)] H
def As:Z4:=
 Z0 (Zl .string p0) fun g=>
 Z0 (Z5 .gtr g (.int .i64 4096)) fun j=>
 Zk j
 (some ((.tuple [(.str []),(.int .i64 3)]),H))
 (CD p0 H H)
theorem ZcS:CD x0 H0 H =
 Z0 (Zl .string x0) fun t9=>
 Z0 (Z5 .shr t9 (.int .u64 8)) fun u=>
 Z0 (Wh .u8 u) fun w=>
 Z0 (Zl .string x0) fun y=>
 Z0 (Wh .u8 y) fun z=>
 Z0 ((ZE 1 [(0,w),(1,z)] [(.int .u8 0),(.int .u8 0)]).map (.vs 1 .clip)) fun A=>
 Z0 (Bv A H) fun B=>
 Z0 (Xe .add B x0) fun j=>
 Z0 (Zf Pm [j] H) fun g=>
 Z0 (Xe .add j g.1) fun C=>
 some ((.tuple [C,(.int .i64 0)]),g.2):=Za [3]
theorem ZdR:TB [p0] H=As p0 H:=Be 23 [3] Tryz.func164
def Dv:Z4:=ZV 166 49 (sub (Z1 Tryz.f166) [1,1,1,1,1,1,1]) (Zh cfg 49 166 Tryz.f166 H0) [(2,x2),(12,x12),(13,x13)] H
def Du:Z4:=ZV 166 49 (sub (Z1 Tryz.f166) [1,1,1,1,1]) (Zh cfg 49 166 Tryz.f166 H0) [(2,x2),(10,x10)] H
def Dt:Z4:=ZV 166 49 (sub (Z1 Tryz.f166) [1,1,1,1]) (Zh cfg 49 166 Tryz.f166 H0) [(2,x2),(10,x10)] H
def Ds:Z4:=ZV 166 49 (sub (Z1 Tryz.f166) [1,1]) (Zh cfg 49 166 Tryz.f166 H0) [(0,x0),(1,x1),(2,x2)] H
def QC:Z4:=
 Z0 (Xf [p0,p1] H) fun g=>
 Z0 (Z5 .neq g.1 (.int .i64 0)) fun j=>
 Zk j
 (some ((.tuple [(.str []),(.int .i64 0),g.1]),g.2))
 (Ds p0 p1 p2 H g.2)
theorem La:Dv x2 x12 x13 H0 H =
 Z0 (Z5 .add x2 x13) fun g=>
 some ((.tuple [x12,g,(.int .i64 0)]),H):=Za [4,7,9,12]
theorem L9:Du x2 x10 H0 H =
 Z0 (Zf Lm [x10,(.int .i64 0)] H) fun g=>
 Z0 (ZQ g.1 0) fun u=>
 Z0 (ZQ g.1 1) fun w=>
 Z0 (ZQ g.1 2) fun j=>
 Z0 (Z5 .neq j (.int .i64 0)) fun y=>
 Zk y
 (some ((.tuple [(.str []),(.int .i64 0),j]),g.2))
 (Dv x2 u w H0 g.2):=Za [4,7,9,12]
theorem Kv:Dt x2 x10 H0 H =
 Z0 (Xe .eql x10 (.str [])) fun g=>
 Zk g
 (some ((.tuple [(.str []),(.int .i64 0),(.int .i64 5)]),H))
 (Du x2 x10 H0 H):=Za [4,7,9,12]
theorem Ku:Ds x0 x1 x2 H0 H =
 Z0 (Zu x0) fun u=>
 Z0 (Z6 0 u) fun w=>
 Z0 (Z6 0 w) fun y=>
 Z0 (Z3 false 1 y H) fun z=>
 Z0 (KD [z,x1,x2,(.int .i64 4102)] H) fun g=>
 Z0 (ZQ g.1 0) fun A=>
 Z0 (ZQ g.1 1) fun j=>
 Z0 (Z5 .neq j (.int .i64 0)) fun B=>
 Zk B
 (some ((.tuple [(.str []),(.int .i64 0),j]),g.2))
 (Dt x2 A H0 g.2):=Za [4,7,9,12]
theorem KI:Vf [p0,p1,p2] H=QC p0 p1 p2 H:=Be 49 [4,7,9,12] Tryz.func166
def U7:Z4:=ZV 194 19 (sub (Z1 Tryz.f194) [1,1]) (Zh cfg 19 194 Tryz.f194 H0) [] H
def X2:KL:=Zc (Lj 194 19 Tryz.f194 [1,1]) (Zh cfg 19 194 Tryz.f194 H0)
theorem Ky:ZX 19 (X2 H0):=Zx (C:=cfg) (kp:=cfg.keep 194) (sub (Z1 Tryz.f194) [1,1]) (ZA 194 Tryz.f194 H0)
def U9:Z4:=ZV 194 19 (sub (Z1 Tryz.f194) [1,0,1,0,0,1,1,1]) (Zc (J1 194 19 Tryz.f194 [1,0,1,0,0]) (Z7 0 (X2 H0))) [(0,x0),(1,x1),(7,x7),(8,x8)] H
def U8:Z4:=ZV 194 19 (sub (Z1 Tryz.f194) [1,0,1,0,0,1,1]) (Zc (J1 194 19 Tryz.f194 [1,0,1,0,0]) (Z7 0 (X2 H0))) [(0,x0),(1,x1),(7,x7),(8,x8),(9,x9)] H
def X3:Z4:=LI 194 19 (sub (Z1 Tryz.f194) [1,0,1,0,0]) (Z7 0 (X2 H0)) [(0,x0),(1,x1),(7,x7),(8,x8)] H
def Ut:Z4:=
 Z0 (Zl (.slice 9) p0) fun g=>
 X3 p0 p1 g (.int .i64 0) H H
theorem Gx:U7 H0 H =
 some ((.int .i64 (-1)),H):=Za [3,6,7]
theorem Gz:U9 x0 x1 x7 x8 H0 H =
 Z0 (Z5 .add x8 (.int .i64 1)) fun g=>
 X3 x0 x1 x7 g H0 H:=Za [3,6,7]
theorem Gy:U8 x0 x1 x7 x8 x9 H0 H =
 Z0 (Zp 1 x0 x8) fun g=>
 Z0 (Z3 false 1 g H) fun j=>
 Z0 (Xe .eql x1 j) fun u=>
 Zk u
 (some (x8,H))
 (U9 x0 x1 x7 x8 H0 H):=Za [3,6,7]
theorem Vl:X3 x0 x1 x7 x8 H0 H =
 Z0 (Z5 .lss x8 x7) fun t9=>
 Zk t9
 (U8 x0 x1 x7 x8 t9 H0 H)
 (U7 H0 H):=(ZD (C:=cfg) [3,6,7] (Zm 0 (Ky H0)) _ _).trans (by kernel_rfl)
theorem Br:Wa [p0,p1] H=Ut p0 p1 H:=Be 19 [3,6,7] Tryz.func194
def Zeu:Z4:=
 Z0 (Zf Hl [p0] H) fun g=>
 Z0 (Wh .u8 g.1) fun C=>
 Z0 (Z5 .shr g.1 (.int .u64 8)) fun t9=>
 Z0 (Wh .u8 t9) fun j=>
 Z0 (Z5 .shr g.1 (.int .u64 16)) fun u=>
 Z0 (Wh .u8 u) fun w=>
 Z0 (Z5 .shr g.1 (.int .u64 24)) fun y=>
 Z0 (Wh .u8 y) fun z=>
 Z0 ((ZE 1 [(0,C),(1,j),(2,w),(3,z)] [(.int .u8 0),(.int .u8 0),(.int .u8 0),(.int .u8 0)]).map (.vs 1 .clip)) fun A=>
 Z0 (Bv A g.2) fun B=>
 some (B,g.2)
theorem Zig:Pm [p0] H=Zeu p0 H:=Be 19 [] Tryz.func195
def Zai:Z4:=ZV 196 58 (sub (Z1 Tryz.f196) [1,1,1,1,1,1,1,1]) (Zh cfg 58 196 Tryz.f196 H0) [(1,x1),(7,x7),(8,x8)] H
def Zah:Z4:=ZV 196 58 (sub (Z1 Tryz.f196) [1,1,1,1,1,1,1]) (Zh cfg 58 196 Tryz.f196 H0) [(1,x1),(7,x7),(8,x8)] H
def Zag:Z4:=ZV 196 58 (sub (Z1 Tryz.f196) [1,1,1,1,1,1]) (Zh cfg 58 196 Tryz.f196 H0) [(1,x1),(7,x7),(8,x8)] H
def Zaf:Z4:=ZV 196 58 (sub (Z1 Tryz.f196) [1,1,1,1]) (Zh cfg 58 196 Tryz.f196 H0) [(1,x1),(7,x7)] H
def Zae:Z4:=ZV 196 58 (sub (Z1 Tryz.f196) [1,1]) (Zh cfg 58 196 Tryz.f196 H0) [(0,x0),(1,x1)] H
def Zbr:Z4:=
 Z0 (Z5 .lss p1 (.int .i64 0)) fun g=>
 Z0 (Z8 g false (.tuple []) (some p1)) fun j=>
 Z0 (Z8 g false (.tuple []) (some p0)) fun u=>
 Z0 (Z8 g false (.tuple []) (Zl .string u)) fun w=>
 Z0 (Z8 g false (.tuple []) (Z5 .gtr j w)) fun y=>
 Z0 (Zj g (.bool true) y) fun z=>
 Zk z
 (some ((.tuple [(.str []),(.int .i64 0),(.int .i64 2)]),H))
 (Zae p0 p1 H H)
theorem Zfr:Zai x1 x7 x8 H0 H =
 Z0 (Z5 .add x8 (.int .i64 2)) fun g=>
 Z0 (Yk x7 (some (.int .i64 2)) (some g) none) fun j=>
 Z0 (Z5 .add x1 x8) fun u=>
 Z0 (Z5 .add u (.int .i64 6)) fun w=>
 some ((.tuple [j,w,(.int .i64 0)]),H):=Za [3,6,9,11,13]
theorem Zfq:Zah x1 x7 x8 H0 H =
 Z0 (Z5 .add x8 (.int .i64 2)) fun j=>
 Z0 (Z5 .add x8 (.int .i64 6)) fun u=>
 Z0 (Yk x7 (some j) (some u) none) fun w=>
 Z0 (Z5 .add x8 (.int .i64 2)) fun y=>
 Z0 (Yk x7 none (some y) none) fun z=>
 Z0 (Zf Pm [z] H) fun g=>
 Z0 (Xe .neq w g.1) fun A=>
 Zk A
 (some ((.tuple [(.str []),(.int .i64 0),(.int .i64 13)]),g.2))
 (Zai x1 x7 x8 H0 g.2):=Za [3,6,9,11,13]
theorem Zfp:Zag x1 x7 x8 H0 H =
 Z0 (Zl .string x7) fun g=>
 Z0 (Z5 .add x8 (.int .i64 6)) fun j=>
 Z0 (Z5 .lss g j) fun t37=>
 Zk t37
 (some ((.tuple [(.str []),(.int .i64 0),(.int .i64 14)]),H))
 (Zah x1 x7 x8 H0 H):=Za [3,6,9,11,13]
theorem Zfo:Zaf x1 x7 H0 H =
 Z0 (Zz x7 (.int .i64 0)) fun j=>
 Z0 (Wh .i64 j) fun u=>
 Z0 (Z5 .shl u (.int .u64 8)) fun w=>
 Z0 (Zz x7 (.int .i64 1)) fun y=>
 Z0 (Wh .i64 y) fun z=>
 Z0 (Z5 .or w z) fun g=>
 Z0 (Z5 .gtr g (.int .i64 4096)) fun A=>
 Zk A
 (some ((.tuple [(.str []),(.int .i64 0),(.int .i64 13)]),H))
 (Zag x1 x7 g H0 H):=Za [3,6,9,11,13]
theorem Zfn:Zae x0 x1 H0 H =
 Z0 (Yk x0 (some x1) none none) fun g=>
 Z0 (Zl .string g) fun j=>
 Z0 (Z5 .lss j (.int .i64 2)) fun u=>
 Zk u
 (some ((.tuple [(.str []),(.int .i64 0),(.int .i64 14)]),H))
 (Zaf x1 g H0 H):=Za [3,6,9,11,13]
theorem Zg6:Lm [p0,p1] H=Zbr p0 p1 H:=Be 58 [3,6,9,11,13] Tryz.func196
def ZcM:Z4:=ZV 209 33 (sub (Z1 Tryz.f209) [1,1,1]) (Zh cfg 33 209 Tryz.f209 H0) [(3,x3)] H
def Rv:KL:=Zc (Lj 209 33 Tryz.f209 [1,1,1]) (Zh cfg 33 209 Tryz.f209 H0)
theorem Ze4:ZX 33 (Rv H0):=Zx (C:=cfg) (kp:=cfg.keep 209) (sub (Z1 Tryz.f209) [1,1,1]) (ZA 209 Tryz.f209 H0)
def ZcO:Z4:=ZV 209 33 (sub (Z1 Tryz.f209) [1,1,0,1,0,0,1,1,1]) (Zc (J1 209 33 Tryz.f209 [1,1,0,1,0,0]) (Z7 0 (Rv H0))) [(0,x0),(3,x3),(6,x6),(7,x7)] H
def ZcN:Z4:=ZV 209 33 (sub (Z1 Tryz.f209) [1,1,0,1,0,0,1,1]) (Zc (J1 209 33 Tryz.f209 [1,1,0,1,0,0]) (Z7 0 (Rv H0))) [(0,x0),(3,x3),(6,x6),(7,x7),(8,x8)] H
def Rw:Z4:=LI 209 33 (sub (Z1 Tryz.f209) [1,1,0,1,0,0]) (Z7 0 (Rv H0)) [(0,x0),(3,x3),(6,x6),(7,x7)] H
def Zet:Z4:=
 Z0 (Zl .string p0) fun g=>
 Rw p0 (.int .u32 4294967295) g (.int .i64 0) H H
theorem Zhd:ZcM x3 H0 H =
 Z0 (Xk .xor x3) fun g=>
 some (g,H):=Za [4,8,9]
theorem Zhf:ZcO x0 x3 x6 x7 H0 H =
 Z0 (Z5 .add x7 (.int .i64 1)) fun g=>
 Rw x0 x3 x6 g H0 H:=Za [4,8,9]
theorem Zhe:ZcN x0 x3 x6 x7 x8 H0 H =
 Z0 (Zz x0 x7) fun u=>
 Z0 (Wh .u32 u) fun w=>
 Z0 (Z5 .xor x3 w) fun g=>
 Z0 (Z5 .and g (.int .u32 15)) fun y=>
 Z0 (G9 16 1 ZpL y) fun z=>
 Z0 (Z3 false 1 z H) fun A=>
 Z0 (Z5 .shr g (.int .u64 4)) fun B=>
 Z0 (Z5 .xor A B) fun j=>
 Z0 (Z5 .and j (.int .u32 15)) fun C=>
 Z0 (G9 16 1 ZpL C) fun D=>
 Z0 (Z3 false 1 D H) fun E=>
 Z0 (Z5 .shr j (.int .u64 4)) fun F=>
 Z0 (Z5 .xor E F) fun I=>
 ZcO x0 I x6 x7 H0 H:=Za [4,8,9]
theorem Cy:Rw x0 x3 x6 x7 H0 H =
 Z0 (Z5 .lss x7 x6) fun g=>
 Zk g
 (ZcN x0 x3 x6 x7 g H0 H)
 (ZcM x3 H0 H):=(ZD (C:=cfg) [4,8,9] (Zm 0 (Ze4 H0)) _ _).trans (by kernel_rfl)
theorem Zif:Hl [p0] H=Zet p0 H:=Be 33 [4,8,9] Tryz.func209
end
end Go.Am
