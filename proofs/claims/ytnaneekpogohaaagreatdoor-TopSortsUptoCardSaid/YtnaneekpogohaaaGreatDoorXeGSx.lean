/- The functions of the translation over the abstract machine -/
import Derived.Test.YtnaneekpogohaaaGreatDoorXeGx
namespace Go.Am
open Go.Proofs
set_option maxRecDepth 100000
noncomputable abbrev ZV (f n:Nat):=Y6 cfg (Z9 cfg) (ZZ cfg (cfg.keep f) n) (cfg.keep f) n Zc Z6
noncomputable abbrev El (f n:Nat):=ZZ cfg (cfg.keep f) n
noncomputable section
abbrev LX (f n:Nat)(F:Func)(p:List Nat):KL->AL->Hp->Z4:=fun k g H=>ZV f n (sub (Z1 F) p) k (ZS (cfg.keep f) (sub (Z1 F) p) g) H
abbrev J4 (f n:Nat)(F:Func)(p:List Nat):KL->AL->Hp->Z4:=fun k g H=>El f n (sub (Z1 F) p) k (ZS (cfg.keep f) (sub (Z1 F) p) g) H
variable (p0 p1 p2 p3 x0 x1 x2 x3 x4 x5 x6 x7 x8 x9 x10 x11 x12 x13 x18 x19 x20 x21 x22 x23 x24:AV)(H0 H:Hp)
def Zfm:Z4:=
 Z0 (Ki p0 (.int .i64 0)) fun t4=>
 Z0 (UU t4 (.int .i64 262144)) fun t5=>
 Z0 (some ((.map H.length),H++[.map [] 0])) fun g=>
 Z0 ((X5 [(0,1,t5),(3,1,g.1)] [(.int .i64 0),(.int .i64 0),(.int .i64 0),.nilm,(.bool false),(.int .i64 0)]).map .agg) fun u=>
 Z0 (ZO u g.2) fun j=>
 some (j.1,j.2)
theorem Zj5:Aa [p0] H=Zfm p0 H:=Be 9 [] Tryz.func15
def QP:Z4:=ZV 16 46 (sub (Z1 Tryz.f16) [1,1,1]) (Zi cfg 46 16 Tryz.f16 H0) [(0,x0),(1,x1)] H
def R1:Z4:=ZV 16 46 (sub (Z1 Tryz.f16) [1,1]) (Zi cfg 46 16 Tryz.f16 H0) [(0,x0),(1,x1)] H
def Rm:Z4:=
 Z0 (Ys (.pointer 82) .eql p0 .nilp) fun J=>
 Zk J
 (some ((.int .i64 5),H))
 (Z0 (Up [p0] H) fun j=>
 Zk j.1
 (some ((.int .i64 19),j.2))
 (Z0 (Ze F9 [p1] j.2) fun g=>
 Z0 (Xv .not g.1) fun u=>
 Zk u
 (some ((.int .i64 4),g.2))
 (Z0 (Zu p0) fun w=>
 Z0 (Z7 3 w) fun y=>
 Z0 (Z3 false 1 y g.2) fun z=>
 Z0 (Yc .string .nilp false z p1 g.2) fun A=>
 Z0 (Ys (.pointer 86) .neq A .nilp) fun B=>
 Zk B
 (some ((.int .i64 6),g.2))
 (Z0 (Zu p0) fun C=>
 Z0 (Z7 3 C) fun D=>
 Z0 (Z3 false 1 D g.2) fun E=>
 Z0 (J7 E g.2) fun F=>
 Z0 (Z5 .geq F (.int .i64 64)) fun I=>
 Zk I
 (some ((.int .i64 3),g.2))
 (R1 p0 p1 H g.2)))))
theorem SL:QP x0 x1 H0 H =
 Z0 (Zu x0) fun u=>
 Z0 (Z7 3 u) fun w=>
 Z0 (Z3 false 1 w H) fun y=>
 Z0 (some (.agg [.nils,(.int .i64 0)])) fun z=>
 Z0 (ZO z H) fun g=>
 Z0 (Xs .string y x1 g.1 g.2) fun j=>
 some ((.int .i64 0),j.2):=Za [11,13]
theorem SK:R1 x0 x1 H0 H =
 Z0 (Zu x0) fun u=>
 Z0 (Z7 3 u) fun w=>
 Z0 (Z3 false 1 w H) fun y=>
 Z0 (Ys (.map 9 84) .eql y .nilm) fun z=>
 Zk z
 (Z0 (some ((.map H.length),H++[.map [] 0])) fun g=>
 Z0 (Zu x0) fun t37=>
 Z0 (Z7 3 t37) fun A=>
 Z0 (Zf 1 A g.1 g.2) fun j=>
 QP x0 x1 H0 j.2)
 (QP x0 x1 H0 H):=Za [11,13]
theorem C6:J3 [p0,p1] H=Rm p0 p1 H:=Be 46 [11,13] Tryz.func16
def R0:Z4:=ZV 17 60 (sub (Z1 Tryz.f17) [1,1,1,1]) (Zi cfg 60 17 Tryz.f17 H0) [(0,x0),(2,x2),(7,x7)] H
def FZ:Z4:=ZV 17 60 (sub (Z1 Tryz.f17) [1,1,1]) (Zi cfg 60 17 Tryz.f17 H0) [(0,x0),(2,x2),(7,x7)] H
def Rl:Z4:=
 Z0 (W4 [p0,p1] H) fun g=>
 Z0 (ZT g.1 0) fun u=>
 Z0 (ZT g.1 1) fun j=>
 Z0 (Z5 .neq j (.int .i64 0)) fun w=>
 Zk w
 (some (j,g.2))
 (FZ p0 p2 u H g.2)
theorem SJ:R0 x0 x2 x7 H0 H =
 Z0 (Zu x7) fun y=>
 Z0 (Z7 0 y) fun z=>
 Z0 (Z3 false 1 z H) fun A=>
 Z0 (Ym 1 1 A x2 H) fun u=>
 Z0 (Zu x7) fun t37=>
 Z0 (Z7 0 t37) fun B=>
 Z0 (Zf 1 B u.1 u.2) fun j=>
 Z0 (Zu x0) fun C=>
 Z0 (Z7 1 C) fun D=>
 Z0 (Z3 false 1 D j.2) fun E=>
 Z0 (Zl .string x2) fun F=>
 Z0 (Z5 .add E F) fun I=>
 Z0 (Zu x0) fun J=>
 Z0 (Z7 1 J) fun K=>
 Z0 (Zf 1 K I j.2) fun g=>
 Z0 (Zu x0) fun L=>
 Z0 (Z7 2 L) fun M=>
 Z0 (Z3 false 1 M g.2) fun N=>
 Z0 (Zu x0) fun O=>
 Z0 (Z7 1 O) fun Q=>
 Z0 (Z3 false 1 Q g.2) fun R=>
 Z0 (Ki N R) fun S=>
 Z0 (Zu x0) fun T=>
 Z0 (Z7 2 T) fun U=>
 Z0 (Zf 1 U S g.2) fun w=>
 some ((.int .i64 0),w.2):=Za [4,6]
theorem G6:FZ x0 x2 x7 H0 H =
 Z0 (Zu x0) fun g=>
 Z0 (Z7 1 g) fun j=>
 Z0 (Z3 false 1 j H) fun u=>
 Z0 (Zl .string x2) fun w=>
 Z0 (Z5 .add u w) fun y=>
 Z0 (Zu x0) fun z=>
 Z0 (Z7 0 z) fun A=>
 Z0 (Z3 false 1 A H) fun B=>
 Z0 (Z5 .gtr y B) fun C=>
 Zk C
 (some ((.int .i64 12),H))
 (R0 x0 x2 x7 H0 H):=Za [4,6]
theorem C5:J2 [p0,p1,p2] H=Rl p0 p1 p2 H:=Be 60 [4,6] Tryz.func17
def Kd:Z4:=ZV 18 24 (sub (Z1 Tryz.f18) [1,1,1]) (Zi cfg 24 18 Tryz.f18 H0) [(6,x6)] H
def Nk:Z4:=
 Z0 (W4 [p0,p1] H) fun g=>
 Z0 (ZT g.1 0) fun w=>
 Z0 (ZT g.1 1) fun j=>
 Z0 (Z5 .eql j (.int .i64 0)) fun y=>
 Zk y
 (Z0 (Zu w) fun z=>
 Z0 (Z7 0 z) fun A=>
 Z0 (Z3 false 1 A g.2) fun B=>
 Z0 (Zl (.slice 5) B) fun C=>
 Z0 (Zu w) fun D=>
 Z0 (Z7 1 D) fun E=>
 Z0 (Zf 1 E C g.2) fun u=>
 Kd j H u.2)
 (Kd j H g.2)
theorem Qm:Kd x6 H0 H =
 some (x6,H):=Za [4]
theorem Io:KO [p0,p1] H=Nk p0 p1 H:=Be 24 [4] Tryz.func18
def TZ:Z4:=ZV 23 54 (sub (Z1 Tryz.f23) [1,1,1,1]) (Zi cfg 54 23 Tryz.f23 H0) [(2,x2),(3,x3),(10,x10)] H
def TY:Z4:=ZV 23 54 (sub (Z1 Tryz.f23) [1,1,1]) (Zi cfg 54 23 Tryz.f23 H0) [(2,x2),(3,x3),(10,x10)] H
def Nj:Z4:=
 Z0 (W4 [p0,p1] H) fun g=>
 Z0 (ZT g.1 0) fun u=>
 Z0 (ZT g.1 1) fun j=>
 Z0 (Z5 .neq j (.int .i64 0)) fun w=>
 Zk w
 (some ((.tuple [(.str []),j]),g.2))
 (TY p2 p3 u H g.2)
theorem AY:TZ x2 x3 x10 H0 H =
 Z0 (Zu x10) fun t37=>
 Z0 (Z7 0 t37) fun g=>
 Z0 (Z3 false 1 g H) fun j=>
 Z0 (Zu x10) fun u=>
 Z0 (Z7 0 u) fun w=>
 Z0 (Z3 false 1 w H) fun y=>
 Z0 (Zl (.slice 5) y) fun z=>
 Z0 (Z5 .sub z x2) fun A=>
 Z0 (UU x3 A) fun B=>
 Z0 (Z5 .add x2 B) fun C=>
 Z0 (Yk 1 j (some x2) (some C) none) fun D=>
 Z0 (BI D H) fun E=>
 some ((.tuple [E,(.int .i64 0)]),H):=Za [4,6]
theorem AX:TY x2 x3 x10 H0 H =
 Z0 (Z5 .lss x2 (.int .i64 0)) fun g=>
 Z0 (Z8 g false (.tuple []) (some x2)) fun u=>
 Z0 (Z8 g false (.tuple []) (some x10)) fun w=>
 Z0 (Z8 g false (.tuple []) (Zu w)) fun y=>
 Z0 (Z8 g false (.tuple []) (Z7 0 y)) fun z=>
 Z0 (Z8 g false (.tuple []) (Z3 false 1 z H)) fun A=>
 Z0 (Z8 g false (.tuple []) (Zl (.slice 5) A)) fun B=>
 Z0 (Z8 g false (.tuple []) (Z5 .gtr u B)) fun C=>
 Z0 (Zj g (.bool true) C) fun j=>
 Z0 (Z8 j false (.tuple []) (some x3)) fun D=>
 Z0 (Z8 j false (.tuple []) (Z5 .lss D (.int .i64 0))) fun E=>
 Z0 (Zj j (.bool true) E) fun F=>
 Zk F
 (some ((.tuple [(.str []),(.int .i64 2)]),H))
 (TZ x2 x3 x10 H0 H):=Za [4,6]
theorem Im:KN [p0,p1,p2,p3] H=Nj p0 p1 p2 p3 H:=Be 54 [4,6] Tryz.func23
def TU:Z4:=ZV 26 38 (sub (Z1 Tryz.f26) [1,1,1,1]) (Zi cfg 38 26 Tryz.f26 H0) [(3,x3)] H
def UA:KL:=Zc (LX 26 38 Tryz.f26 [1,1,1,1]) (Zi cfg 38 26 Tryz.f26 H0)
theorem SM:ZU 38 (UA H0):=Zx (C:=cfg) (kp:=cfg.keep 26) (sub (Z1 Tryz.f26) [1,1,1,1]) (ZB 26 Tryz.f26 H0)
def TX:Z4:=ZV 26 38 (sub (Z1 Tryz.f26) [1,1,1,0,1,0,0,1,1,1]) (Zc (J4 26 38 Tryz.f26 [1,1,1,0,1,0,0]) (Z6 0 (UA H0))) [(0,x0),(3,x3),(10,x10),(11,x11),(12,x12)] H
def TW:Z4:=ZV 26 38 (sub (Z1 Tryz.f26) [1,1,1,0,1,0,0,1,1]) (Zc (J4 26 38 Tryz.f26 [1,1,1,0,1,0,0]) (Z6 0 (UA H0))) [(0,x0),(3,x3),(10,x10),(11,x11),(12,x12),(13,x13)] H
def UB:Z4:=El 26 38 (sub (Z1 Tryz.f26) [1,1,1,0,1,0,0]) (Z6 0 (UA H0)) [(0,x0),(3,x3),(10,x10),(11,x11),(12,x12)] H
def TT:Z4:=ZV 26 38 (sub (Z1 Tryz.f26) [1,1]) (Zi cfg 38 26 Tryz.f26 H0) [(0,x0)] H
def Ni:Z4:=
 Z0 (Ys (.pointer 82) .eql p0 .nilp) fun g=>
 Zk g
 (some (.nils,H))
 (TT p0 H H)
theorem AS:TU x3 H0 H =
 some (x3,H):=Za [3,6,9,10]
theorem AW:TX x0 x3 x10 x11 x12 H0 H =
 Z0 (Z5 .add x12 (.int .i64 1)) fun g=>
 UB x0 x3 x10 x11 g H0 H:=Za [3,6,9,10]
theorem AU:TW x0 x3 x10 x11 x12 x13 H0 H =
 Z0 (Zn 1 x10 x12) fun w=>
 Z0 (Z3 false 1 w H) fun j=>
 Z0 (Zu x0) fun y=>
 Z0 (Z7 3 y) fun z=>
 Z0 (Z3 false 1 z H) fun A=>
 Z0 (Yc .string .nilp false A j H) fun u=>
 Z0 (Zu u) fun B=>
 Z0 (Z7 0 B) fun C=>
 Z0 (Z3 false 1 C H) fun D=>
 Z0 (Zl (.slice 5) D) fun E=>
 Z0 (Zu u) fun F=>
 Z0 (Z7 1 F) fun I=>
 Z0 (Z3 false 1 I H) fun J=>
 Z0 ((X5 [(0,1,j),(1,1,E),(2,1,J)] [(.str []),(.int .i64 0),(.int .i64 0)]).map .agg) fun K=>
 Z0 ((ZA 3 [(0,K)] [(.agg [(.str []),(.int .i64 0),(.int .i64 0)])]).map (.vs 3 .clip)) fun L=>
 Z0 (Ym 3 32 x3 L H) fun g=>
 TX x0 g.1 x10 x11 x12 H0 g.2:=Za [3,6,9,10]
theorem DF:UB x0 x3 x10 x11 x12 H0 H =
 Z0 (Z5 .lss x12 x11) fun g=>
 Zk g
 (TW x0 x3 x10 x11 x12 g H0 H)
 (TU x3 H0 H):=(ZD (C:=cfg) [3,6,9,10] (Zm 0 (SM H0)) _ _).trans (by kernel_rfl)
theorem AR:TT x0 H0 H =
 Z0 (namesE.run [x0] H) fun g=>
 Z0 (Zl (.slice 9) g.1) fun j=>
 UB x0 .nils g.1 j (.int .i64 0) H0 g.2:=Za [3,6,9,10]
theorem Il:V9 [p0] H=Ni p0 H:=Be 38 [3,6,9,10] Tryz.func26
def Ww:Z4:=ZV 39 37 (sub (Z1 Tryz.f39) [1,1]) (Zi cfg 37 39 Tryz.f39 H0) [(0,x0)] H
def Tr:Z4:=
 Z0 (Zu p0) fun t5=>
 Z0 (Z7 4 t5) fun S=>
 Z0 (Z3 false 1 S H) fun T=>
 Zk T
 (Ww p0 H H)
 (Z0 (Zu p0) fun w=>
 Z0 (Z7 5 w) fun y=>
 Z0 (Z3 false 1 y H) fun z=>
 Z0 (Z5 .eql z (.int .i64 1)) fun A=>
 Zk A
 (Z0 (Zu p0) fun B=>
 Z0 (Z7 4 B) fun C=>
 Z0 (Zf 1 C (.bool true) H) fun g=>
 Z0 (Zu p0) fun D=>
 Z0 (Z7 5 D) fun E=>
 Z0 (Zf 1 E (.int .i64 0) g.2) fun j=>
 Ww p0 H j.2)
 (Z0 (Zu p0) fun F=>
 Z0 (Z7 5 F) fun I=>
 Z0 (Z3 false 1 I H) fun J=>
 Z0 (Z5 .gtr J (.int .i64 1)) fun K=>
 Zk K
 (Z0 (Zu p0) fun L=>
 Z0 (Z7 5 L) fun M=>
 Z0 (Z3 false 1 M H) fun N=>
 Z0 (Z5 .sub N (.int .i64 1)) fun O=>
 Z0 (Zu p0) fun Q=>
 Z0 (Z7 5 Q) fun R=>
 Z0 (Zf 1 R O H) fun u=>
 Ww p0 H u.2)
 (Ww p0 H H)))
theorem WL:Ww x0 H0 H =
 Z0 (Zu x0) fun g=>
 Z0 (Z7 4 g) fun j=>
 Z0 (Z3 false 1 j H) fun u=>
 some (u,H):=Za [6]
theorem Af:Up [p0] H=Tr p0 H:=Be 37 [6] Tryz.func39
def BV:Z4:=ZV 40 58 (sub (Z1 Tryz.f40) [1,1]) (Zi cfg 58 40 Tryz.f40 H0) [(0,x0)] H
def Qy:KL:=Zc (LX 40 58 Tryz.f40 [1,1]) (Zi cfg 58 40 Tryz.f40 H0)
theorem I0:ZU 58 (Qy H0):=Zx (C:=cfg) (kp:=cfg.keep 40) (sub (Z1 Tryz.f40) [1,1]) (ZB 40 Tryz.f40 H0)
def BX:Z4:=ZV 40 58 (sub (Z1 Tryz.f40) [1,0,1,0,0,1,1,1]) (Zc (J4 40 58 Tryz.f40 [1,0,1,0,0]) (Z6 0 (Qy H0))) [(0,x0),(7,x7),(8,x8)] H
def BW:Z4:=ZV 40 58 (sub (Z1 Tryz.f40) [1,0,1,0,0,1,1]) (Zc (J4 40 58 Tryz.f40 [1,0,1,0,0]) (Z6 0 (Qy H0))) [(0,x0),(7,x7),(8,x8),(9,x9)] H
def Qz:Z4:=El 40 58 (sub (Z1 Tryz.f40) [1,0,1,0,0]) (Z6 0 (Qy H0)) [(0,x0),(7,x7),(8,x8)] H
def Ef:Z4:=
 Z0 (Zl .string p0) fun g=>
 Qz p0 g (.int .i64 0) H H
theorem Zaz:BV x0 H0 H =
 Z0 (Xb .neq x0 (.str [])) fun g=>
 Z0 (Z8 g true (.tuple []) (some x0)) fun j=>
 Z0 (Z8 g true (.tuple []) (Zl .string j)) fun u=>
 Z0 (Z8 g true (.tuple []) (Z5 .leq u (.int .i64 32))) fun w=>
 Z0 (Zj g w (.bool false)) fun y=>
 some (y,H):=Za [3,8,9]
theorem Ti:BX x0 x7 x8 H0 H =
 Z0 (Z5 .add x8 (.int .i64 1)) fun g=>
 Qz x0 x7 g H0 H:=Za [3,8,9]
theorem ZaA:BW x0 x7 x8 x9 H0 H =
 Z0 (Zz x0 x8) fun g=>
 Z0 (Z5 .geq g (.int .u8 97)) fun u=>
 Z0 (Z8 u true (.tuple []) (some g)) fun C=>
 Z0 (Z8 u true (.tuple []) (Z5 .leq C (.int .u8 122))) fun D=>
 Z0 (Zj u D (.bool false)) fun j=>
 Z0 (Z8 j false (.tuple []) (some g)) fun E=>
 Z0 (Z8 j false (.tuple []) (Z5 .geq E (.int .u8 65))) fun F=>
 Z0 (Z8 j false (.tuple []) (some F)) fun w=>
 Z0 (Z8 w true (.tuple []) (some g)) fun I=>
 Z0 (Z8 w true (.tuple []) (Z5 .leq I (.int .u8 90))) fun J=>
 Z0 (Z8 j false (.tuple []) (Zj w J (.bool false))) fun K=>
 Z0 (Zj j (.bool true) K) fun y=>
 Z0 (Z8 y false (.tuple []) (some g)) fun L=>
 Z0 (Z8 y false (.tuple []) (Z5 .eql L (.int .u8 95))) fun M=>
 Z0 (Zj y (.bool true) M) fun z=>
 Z0 (Z8 z false (.tuple []) (some g)) fun N=>
 Z0 (Z8 z false (.tuple []) (Z5 .eql N (.int .u8 46))) fun O=>
 Z0 (Zj z (.bool true) O) fun Q=>
 Z0 (Xv .not Q) fun t37=>
 Z0 (Z8 t37 true (.tuple []) (some x8)) fun R=>
 Z0 (Z8 t37 true (.tuple []) (Z5 .eql R (.int .i64 0))) fun S=>
 Z0 (Z8 t37 true (.tuple []) (some S)) fun A=>
 Z0 (Z8 A false (.tuple []) (some g)) fun T=>
 Z0 (Z8 A false (.tuple []) (Z5 .lss T (.int .u8 48))) fun U=>
 Z0 (Z8 t37 true (.tuple []) (Zj A (.bool true) U)) fun V=>
 Z0 (Z8 t37 true (.tuple []) (some V)) fun B=>
 Z0 (Z8 B false (.tuple []) (some g)) fun W=>
 Z0 (Z8 B false (.tuple []) (Z5 .gtr W (.int .u8 57))) fun X=>
 Z0 (Z8 t37 true (.tuple []) (Zj B (.bool true) X)) fun Y=>
 Z0 (Zj t37 Y (.bool false)) fun Z=>
 Zk Z
 (some ((.bool false),H))
 (BX x0 x7 x8 H0 H):=Za [3,8,9]
theorem VQ:Qz x0 x7 x8 H0 H =
 Z0 (Z5 .lss x8 x7) fun t9=>
 Zk t9
 (BW x0 x7 x8 t9 H0 H)
 (BV x0 H0 H):=(ZD (C:=cfg) [3,8,9] (Zm 0 (I0 H0)) _ _).trans (by kernel_rfl)
theorem Zbn:F9 [p0] H=Ef p0 H:=Be 58 [3,8,9] Tryz.func40
def P3:Z4:=ZV 41 20 (sub (Z1 Tryz.f41) [1,1,1,1,1]) (Zi cfg 20 41 Tryz.f41 H0) [(6,x6)] H
def P2:Z4:=ZV 41 20 (sub (Z1 Tryz.f41) [1,1,1]) (Zi cfg 20 41 Tryz.f41 H0) [(0,x0),(1,x1)] H
def P1:Z4:=ZV 41 20 (sub (Z1 Tryz.f41) [1,1]) (Zi cfg 20 41 Tryz.f41 H0) [(0,x0),(1,x1)] H
def Nn:Z4:=
 Z0 (Ys (.pointer 82) .eql p0 .nilp) fun g=>
 Zk g
 (some ((.tuple [.nilp,(.int .i64 5)]),H))
 (P1 p0 p1 H H)
theorem AZ:P3 x6 H0 H =
 some ((.tuple [x6,(.int .i64 0)]),H):=Za [3,5,8]
theorem DG:P2 x0 x1 H0 H =
 Z0 (Zu x0) fun j=>
 Z0 (Z7 3 j) fun u=>
 Z0 (Z3 false 1 u H) fun w=>
 Z0 (Yc .string .nilp false w x1 H) fun g=>
 Z0 (Ys (.pointer 86) .eql g .nilp) fun y=>
 Zk y
 (some ((.tuple [.nilp,(.int .i64 5)]),H))
 (P3 g H0 H):=Za [3,5,8]
theorem Qn:P1 x0 x1 H0 H =
 Z0 (Up [x0] H) fun g=>
 Zk g.1
 (some ((.tuple [.nilp,(.int .i64 19)]),g.2))
 (P2 x0 x1 H0 g.2):=Za [3,5,8]
theorem Iq:W4 [p0,p1] H=Nn p0 p1 H:=Be 20 [3,5,8] Tryz.func41
def SV:Z4:=ZV 43 39 (sub (Z1 Tryz.f43) [1,1,1,1]) (Zi cfg 39 43 Tryz.f43 H0) [(0,x0),(1,x1),(2,x2)] H
def Fx:KL:=Zc (LX 43 39 Tryz.f43 [1,1,1,1]) (Zi cfg 39 43 Tryz.f43 H0)
theorem Og:ZU 39 (Fx H0):=Zx (C:=cfg) (kp:=cfg.keep 43) (sub (Z1 Tryz.f43) [1,1,1,1]) (ZB 43 Tryz.f43 H0)
def ZgQ:Z4:=ZV 43 39 (sub (Z1 Tryz.f43) [1,1,1,0,1,0,0,1,1]) (Zc (J4 43 39 Tryz.f43 [1,1,1,0,1,0,0]) (Z6 0 (Fx H0))) [(0,x0),(1,x1),(2,x2),(18,x18),(19,x19),(20,x20),(21,x21)] H
def SW:Z4:=El 43 39 (sub (Z1 Tryz.f43) [1,1,1,0,1,0,0]) (Z6 0 (Fx H0)) [(0,x0),(1,x1),(2,x2),(18,x18),(19,x19),(20,x20)] H
def SU:Z4:=ZV 43 39 (sub (Z1 Tryz.f43) [1,1,1]) (Zi cfg 39 43 Tryz.f43 H0) [(0,x0),(1,x1),(2,x2)] H
def SR:Z4:=ZV 43 39 (sub (Z1 Tryz.f43) [1,1]) (Zi cfg 39 43 Tryz.f43 H0) [(0,x0),(1,x1),(2,x2)] H
def CE:Z4:=
 Z0 (Ys (.pointer 82) .eql p0 .nilp) fun g=>
 Zk g
 (some ((.tuple [.nilp,(.int .i64 5)]),H))
 (SR p0 p1 p2 H H)
theorem Zca:SV x0 x1 x2 H0 H =
 Z0 (some ((.map H.length),H++[.map [] 0])) fun g=>
 Z0 ((X5 [(0,1,x0),(1,1,x1),(3,1,g.1)] [.nilp,(.str []),.nils,.nilm]).map .agg) fun u=>
 Z0 (Ki (.int .i64 0) x2) fun w=>
 Z0 ((X5 [(0,4,u),(4,1,w)] [.nilp,(.str []),.nils,.nilm,(.int .i64 0),(.int .i64 0),(.bool false)]).map .agg) fun t37=>
 Z0 (ZO t37 g.2) fun j=>
 some ((.tuple [j.1,(.int .i64 0)]),j.2):=Za [3,5,7,11,12]
theorem Zcb:SW x0 x1 x2 x18 x19 x20 H0 H =
 Z0 (Z5 .lss x20 x19) fun g=>
 Zk g
 (ZgQ x0 x1 x2 x18 x19 x20 g H0 H)
 (SV x0 x1 x2 H0 H):=(ZD (C:=cfg) [3,5,7,11,12] (Zm 0 (Og H0)) _ _).trans (by kernel_rfl)
theorem Zc9:SU x0 x1 x2 H0 H =
 Z0 (QW Ri [x0,x1] H) fun g=>
 Z0 (Zl (.slice 9) g.1) fun j=>
 SW x0 x1 x2 g.1 j (.int .i64 0) H0 g.2:=Za [3,5,7,11,12]
theorem Zc8:SR x0 x1 x2 H0 H =
 Z0 (Ze U8 [x1] H) fun g=>
 Z0 (Xv .not g.1) fun j=>
 Zk j
 (some ((.tuple [.nilp,(.int .i64 4)]),g.2))
 (SU x0 x1 x2 H0 g.2):=Za [3,5,7,11,12]
theorem Zcw:UT [p0,p1,p2] H=CE p0 p1 p2 H:=Be 39 [3,5,7,11,12] Tryz.func43
def Bp:Z4:=ZV 45 47 (sub (Z1 Tryz.f45) [1,1,1,1]) (Zi cfg 47 45 Tryz.f45 H0) [(0,x0)] H
def WM:KL:=Zc (LX 45 47 Tryz.f45 [1,1,1,1]) (Zi cfg 47 45 Tryz.f45 H0)
theorem PR:ZU 47 (WM H0):=Zx (C:=cfg) (kp:=cfg.keep 45) (sub (Z1 Tryz.f45) [1,1,1,1]) (ZB 45 Tryz.f45 H0)
def Br:Z4:=ZV 45 47 (sub (Z1 Tryz.f45) [1,1,1,0,0,0,1,0,1,1]) (Z6 1 (Zc (J4 45 47 Tryz.f45 [1,1,1,0,0,0]) (Z6 0 (WM H0)))) [(0,x0),(3,x3)] H
def Bq:Z4:=ZV 45 47 (sub (Z1 Tryz.f45) [1,1,1,0,0,0,1]) (Zc (J4 45 47 Tryz.f45 [1,1,1,0,0,0]) (Z6 0 (WM H0))) [(0,x0)] H
def WN:Z4:=El 45 47 (sub (Z1 Tryz.f45) [1,1,1,0,0,0]) (Z6 0 (WM H0)) [(0,x0)] H
def Bo:Z4:=ZV 45 47 (sub (Z1 Tryz.f45) [1,1,1]) (Zi cfg 47 45 Tryz.f45 H0) [(0,x0)] H
def Bn:Z4:=ZV 45 47 (sub (Z1 Tryz.f45) [1,1]) (Zi cfg 47 45 Tryz.f45 H0) [(0,x0)] H
def D9:Z4:=
 Z0 (Ys (.pointer 124) .eql p0 .nilp) fun g=>
 Zk g
 (some ((.int .i64 5),H))
 (Bn p0 H H)
theorem My:Bp x0 H0 H =
 Z0 (Zu x0) fun j=>
 Z0 (Z7 6 j) fun u=>
 Z0 (Zf 1 u (.bool true) H) fun g=>
 some ((.int .i64 0),g.2):=Za [3,5,6,10,11]
theorem MA:Br x0 x3 H0 H =
 Z0 (Zu x0) fun j=>
 Z0 (Z7 0 j) fun u=>
 Z0 (forgetE.run [u,x3] H) fun g=>
 WN x0 H0 g.2:=Za [3,5,6,10,11]
theorem Mz:Bq x0 H0 H =
 Z0 (Zu x0) fun w=>
 Z0 (Z7 0 w) fun y=>
 Z0 (Z7 2 y) fun z=>
 Z0 (Z3 false 1 z H) fun A=>
 Z0 (Zn 1 A (.int .i64 0)) fun B=>
 Z0 (Z3 false 1 B H) fun u=>
 Z0 (Zu x0) fun C=>
 Z0 (Z7 0 C) fun D=>
 Z0 (Z7 0 D) fun E=>
 Z0 (Z3 false 1 E H) fun F=>
 Z0 (VD [F,u] H) fun g=>
 Z0 (Z5 .neq g.1 (.int .i64 0)) fun j=>
 Z0 (Z8 j true (.tuple []) (some g.1)) fun I=>
 Z0 (Z8 j true (.tuple []) (Z5 .neq I (.int .i64 5))) fun J=>
 Z0 (Zj j J (.bool false)) fun t37=>
 Zk t37
 (some (g.1,g.2))
 (Br x0 u H0 g.2):=Za [3,5,6,10,11]
theorem JW:WN x0 H0 H =
 Z0 (Zu x0) fun g=>
 Z0 (Z7 0 g) fun j=>
 Z0 (Z7 2 j) fun u=>
 Z0 (Z3 false 1 u H) fun w=>
 Z0 (Zl (.slice 9) w) fun y=>
 Z0 (Z5 .gtr y (.int .i64 0)) fun z=>
 Zk z
 (Bq x0 H0 H)
 (Bp x0 H0 H):=(ZD (C:=cfg) [3,5,6,10,11] (Zm 0 (PR H0)) _ _).trans (by kernel_rfl)
theorem Mx:Bo x0 H0 H =
 WN x0 H0 H:=Za [3,5,6,10,11]
theorem Mw:Bn x0 H0 H =
 Z0 (Zu x0) fun j=>
 Z0 (Z7 6 j) fun t9=>
 Z0 (Z3 false 1 t9 H) fun g=>
 Zk g
 (some ((.int .i64 8),H))
 (Bo x0 H0 H):=Za [3,5,6,10,11]
theorem Lf:WZ [p0] H=D9 p0 H:=Be 47 [3,5,6,10,11] Tryz.func45
def SO:Z4:=ZV 50 56 (sub (Z1 Tryz.f50) [1,1,1,1,1]) (Zi cfg 56 50 Tryz.f50 H0) [(5,x5)] H
def Fw:KL:=Zc (LX 50 56 Tryz.f50 [1,1,1,1,1]) (Zi cfg 56 50 Tryz.f50 H0)
theorem Of:ZU 56 (Fw H0):=Zx (C:=cfg) (kp:=cfg.keep 50) (sub (Z1 Tryz.f50) [1,1,1,1,1]) (ZB 50 Tryz.f50 H0)
def ZgP:Z4:=ZV 50 56 (sub (Z1 Tryz.f50) [1,1,1,1,0,1,0,0,1,1]) (Zc (J4 50 56 Tryz.f50 [1,1,1,1,0,1,0,0]) (Z6 0 (Fw H0))) [(5,x5),(6,x6),(21,x21),(22,x22),(23,x23),(24,x24)] H
def SP:Z4:=El 50 56 (sub (Z1 Tryz.f50) [1,1,1,1,0,1,0,0]) (Z6 0 (Fw H0)) [(5,x5),(6,x6),(21,x21),(22,x22),(23,x23)] H
def SN:Z4:=ZV 50 56 (sub (Z1 Tryz.f50) [1,1,1]) (Zi cfg 56 50 Tryz.f50 H0) [(0,x0),(1,x1),(5,x5)] H
def CD:Z4:=
 Z0 (Ys (.pointer 82) .eql p0 .nilp) fun g=>
 Z0 (Z8 g false (.tuple []) (some p1)) fun u=>
 Z0 (Z8 g false ((.tuple []),H) (Ze U8 [u] H)) fun j=>
 Z0 (Z8 g false (.tuple []) (Xv .not j.1)) fun w=>
 Z0 (Zj g (.bool true) w) fun y=>
 Zk y
 (some (.nils,j.2))
 (SN p0 p1 .nils H j.2)
theorem Zc6:SO x5 H0 H =
 some (x5,H):=Za [4,7,11,12]
theorem Zc7:SP x5 x6 x21 x22 x23 H0 H =
 Z0 (Z5 .lss x23 x22) fun g=>
 Zk g
 (ZgP x5 x6 x21 x22 x23 g H0 H)
 (SO x5 H0 H):=(ZD (C:=cfg) [4,7,11,12] (Zm 0 (Of H0)) _ _).trans (by kernel_rfl)
theorem Zc5:SN x0 x1 x5 H0 H =
 Z0 (Ze Qp [x1] H) fun j=>
 Z0 (QW V9 [x0] j.2) fun g=>
 Z0 (Zl (.slice 108) g.1) fun u=>
 SP x5 j.1 g.1 u (.int .i64 0) H0 g.2:=Za [4,7,11,12]
theorem Zcv:Ri [p0,p1] H=CD p0 p1 H:=Be 56 [4,7,11,12] Tryz.func50
def QQ:Z4:=ZV 51 19 (sub (Z1 Tryz.f51) [1,1,1]) (Zi cfg 19 51 Tryz.f51 H0) [(6,x6)] H
def Rn:Z4:=
 Z0 (W4 [p0,p1] H) fun g=>
 Z0 (ZT g.1 0) fun y=>
 Z0 (ZT g.1 1) fun j=>
 Z0 (Z5 .eql j (.int .i64 0)) fun w=>
 Zk w
 (Z0 (KP [p0,p1] g.2) fun u=>
 QQ j H u.2)
 (QQ j H g.2)
theorem Ui:QQ x6 H0 H =
 some (x6,H):=Za [4]
theorem C7:VD [p0,p1] H=Rn p0 p1 H:=Be 19 [4] Tryz.func51
def BY:Z4:=ZV 72 54 (sub (Z1 Tryz.f72) [1,1]) (Zi cfg 54 72 Tryz.f72 H0) [(0,x0)] H
def QA:KL:=Zc (LX 72 54 Tryz.f72 [1,1]) (Zi cfg 54 72 Tryz.f72 H0)
theorem I2:ZU 54 (QA H0):=Zx (C:=cfg) (kp:=cfg.keep 72) (sub (Z1 Tryz.f72) [1,1]) (ZB 72 Tryz.f72 H0)
def D2:Z4:=ZV 72 54 (sub (Z1 Tryz.f72) [1,0,1,0,0,1,1,1]) (Zc (J4 72 54 Tryz.f72 [1,0,1,0,0]) (Z6 0 (QA H0))) [(0,x0),(7,x7),(8,x8)] H
def BZ:Z4:=ZV 72 54 (sub (Z1 Tryz.f72) [1,0,1,0,0,1,1]) (Zc (J4 72 54 Tryz.f72 [1,0,1,0,0]) (Z6 0 (QA H0))) [(0,x0),(7,x7),(8,x8),(9,x9)] H
def QB:Z4:=El 72 54 (sub (Z1 Tryz.f72) [1,0,1,0,0]) (Z6 0 (QA H0)) [(0,x0),(7,x7),(8,x8)] H
def Ej:Z4:=
 Z0 (Zl .string p0) fun g=>
 QB p0 g (.int .i64 0) H H
theorem ZaD:BY x0 H0 H =
 Z0 (Xb .neq x0 (.str [])) fun g=>
 Z0 (Z8 g true (.tuple []) (some x0)) fun j=>
 Z0 (Z8 g true (.tuple []) (Zl .string j)) fun u=>
 Z0 (Z8 g true (.tuple []) (Z5 .leq u (.int .i64 16))) fun w=>
 Z0 (Zj g w (.bool false)) fun y=>
 some (y,H):=Za [3,8,9]
theorem Tk:D2 x0 x7 x8 H0 H =
 Z0 (Z5 .add x8 (.int .i64 1)) fun g=>
 QB x0 x7 g H0 H:=Za [3,8,9]
theorem ZaE:BZ x0 x7 x8 x9 H0 H =
 Z0 (Zz x0 x8) fun g=>
 Z0 (Z5 .eql g (.int .u8 95)) fun u=>
 Z0 (Z8 u false (.tuple []) (some g)) fun B=>
 Z0 (Z8 u false (.tuple []) (Z5 .geq B (.int .u8 97))) fun C=>
 Z0 (Z8 u false (.tuple []) (some C)) fun y=>
 Z0 (Z8 y true (.tuple []) (some g)) fun D=>
 Z0 (Z8 y true (.tuple []) (Z5 .leq D (.int .u8 122))) fun E=>
 Z0 (Z8 u false (.tuple []) (Zj y E (.bool false))) fun F=>
 Z0 (Zj u (.bool true) F) fun w=>
 Z0 (Z8 w false (.tuple []) (some g)) fun I=>
 Z0 (Z8 w false (.tuple []) (Z5 .geq I (.int .u8 65))) fun J=>
 Z0 (Z8 w false (.tuple []) (some J)) fun z=>
 Z0 (Z8 z true (.tuple []) (some g)) fun K=>
 Z0 (Z8 z true (.tuple []) (Z5 .leq K (.int .u8 90))) fun L=>
 Z0 (Z8 w false (.tuple []) (Zj z L (.bool false))) fun M=>
 Z0 (Zj w (.bool true) M) fun N=>
 Z0 (Xv .not N) fun j=>
 Z0 (Z8 j true (.tuple []) (some x8)) fun O=>
 Z0 (Z8 j true (.tuple []) (Z5 .eql O (.int .i64 0))) fun Q=>
 Z0 (Z8 j true (.tuple []) (some Q)) fun t37=>
 Z0 (Z8 t37 false (.tuple []) (some g)) fun R=>
 Z0 (Z8 t37 false (.tuple []) (Z5 .lss R (.int .u8 48))) fun S=>
 Z0 (Z8 j true (.tuple []) (Zj t37 (.bool true) S)) fun T=>
 Z0 (Z8 j true (.tuple []) (some T)) fun A=>
 Z0 (Z8 A false (.tuple []) (some g)) fun U=>
 Z0 (Z8 A false (.tuple []) (Z5 .gtr U (.int .u8 57))) fun V=>
 Z0 (Z8 j true (.tuple []) (Zj A (.bool true) V)) fun W=>
 Z0 (Zj j W (.bool false)) fun X=>
 Zk X
 (some ((.bool false),H))
 (D2 x0 x7 x8 H0 H):=Za [3,8,9]
theorem VR:QB x0 x7 x8 H0 H =
 Z0 (Z5 .lss x8 x7) fun t9=>
 Zk t9
 (BZ x0 x7 x8 t9 H0 H)
 (BY x0 H0 H):=(ZD (C:=cfg) [3,8,9] (Zm 0 (I2 H0)) _ _).trans (by kernel_rfl)
theorem Zbo:U8 [p0] H=Ej p0 H:=Be 54 [3,8,9] Tryz.func72
def MR:Z4:=
 Z0 (Xb .add (.str [46,116,109,112,46]) p0) fun t4=>
 Z0 (Xb .add t4 (.str [46])) fun t5=>
 some (t5,H)
theorem Ot:Qp [p0] H=MR p0 H:=Be 6 [] Tryz.func83
def Nl:Z4:=
 Z0 (Zu p0) fun N=>
 Z0 (Z7 3 N) fun O=>
 Z0 (Z3 false 1 O H) fun Q=>
 Z0 (Yc .string .nilp false Q p1 H) fun u=>
 Z0 (Ys (.pointer 86) .neq u .nilp) fun w=>
 Zk w
 (Z0 (Zu p0) fun y=>
 Z0 (Z7 1 y) fun z=>
 Z0 (Z3 false 1 z H) fun A=>
 Z0 (Zu u) fun B=>
 Z0 (Z7 0 B) fun C=>
 Z0 (Z3 false 1 C H) fun D=>
 Z0 (Zl (.slice 5) D) fun E=>
 Z0 (Z5 .sub A E) fun F=>
 Z0 (Zu p0) fun I=>
 Z0 (Z7 1 I) fun J=>
 Z0 (Zf 1 J F H) fun g=>
 Z0 (Zu p0) fun K=>
 Z0 (Z7 3 K) fun L=>
 Z0 (Z3 false 1 L g.2) fun M=>
 Z0 (QI .string M p1 g.2) fun j=>
 some ((.tuple []),j.2))
 (some ((.tuple []),H))
theorem Ip:KP [p0,p1] H=Nl p0 p1 H:=Be 30 [] Tryz.func85
def R4:Z4:=ZV 97 63 (sub (Z1 Tryz.f97) [1,1,1,1,1]) (Zi cfg 63 97 Tryz.f97 H0) [(0,x0),(4,x4)] H
def R3:Z4:=ZV 97 63 (sub (Z1 Tryz.f97) [1,1,1]) (Zi cfg 63 97 Tryz.f97 H0) [(0,x0)] H
def R2:Z4:=ZV 97 63 (sub (Z1 Tryz.f97) [1,1]) (Zi cfg 63 97 Tryz.f97 H0) [(0,x0)] H
def Ro:Z4:=
 Z0 (Ys (.pointer 124) .eql p0 .nilp) fun g=>
 Zk g
 (some ((.tuple [(.str []),(.int .i64 5)]),H))
 (R2 p0 H H)
theorem SX:R4 x0 x4 H0 H =
 Z0 (Zu x0) fun w=>
 Z0 (Z7 5 w) fun y=>
 Z0 (Z3 false 1 y H) fun z=>
 Z0 (Z5 .add z (.int .i64 1)) fun A=>
 Z0 (Zu x0) fun B=>
 Z0 (Z7 5 B) fun C=>
 Z0 (Zf 1 C A H) fun g=>
 Z0 (Zu x0) fun D=>
 Z0 (Z7 0 D) fun E=>
 Z0 (Z7 2 E) fun F=>
 Z0 (Z3 false 1 F g.2) fun I=>
 Z0 ((ZA 1 [(0,x4)] [(.str [])]).map (.vs 1 .clip)) fun J=>
 Z0 (Ym 1 16 I J g.2) fun j=>
 Z0 (Zu x0) fun K=>
 Z0 (Z7 0 K) fun L=>
 Z0 (Z7 2 L) fun M=>
 Z0 (Zf 1 M j.1 j.2) fun u=>
 some ((.tuple [x4,(.int .i64 0)]),u.2):=Za [3,5,9]
theorem G7:R3 x0 H0 H =
 Z0 (Zu x0) fun y=>
 Z0 (Z7 0 y) fun z=>
 Z0 (Z7 1 z) fun A=>
 Z0 (Z3 false 1 A H) fun B=>
 Z0 (Ze Qp [B] H) fun j=>
 Z0 (Zu x0) fun C=>
 Z0 (Z7 5 C) fun D=>
 Z0 (Z3 false 1 D j.2) fun E=>
 Z0 (Z5 .add E (.int .i64 1)) fun F=>
 Z0 (Ze E5 [F] j.2) fun u=>
 Z0 (Xb .add j.1 u.1) fun w=>
 Z0 (Zu x0) fun I=>
 Z0 (Z7 0 I) fun J=>
 Z0 (Z7 0 J) fun K=>
 Z0 (Z3 false 1 K u.2) fun t37=>
 Z0 (J3 [t37,w] u.2) fun g=>
 Z0 (Z5 .neq g.1 (.int .i64 0)) fun L=>
 Zk L
 (some ((.tuple [(.str []),g.1]),g.2))
 (R4 x0 w H0 g.2):=Za [3,5,9]
theorem Uj:R2 x0 H0 H =
 Z0 (Zu x0) fun t9=>
 Z0 (Z7 6 t9) fun j=>
 Z0 (Z3 false 1 j H) fun g=>
 Z0 (Z8 g false (.tuple []) (some x0)) fun u=>
 Z0 (Z8 g false (.tuple []) (Zu u)) fun w=>
 Z0 (Z8 g false (.tuple []) (Z7 0 w)) fun y=>
 Z0 (Z8 g false (.tuple []) (Z7 0 y)) fun z=>
 Z0 (Z8 g false (.tuple []) (Z3 false 1 z H)) fun A=>
 Z0 (Z8 g false (.tuple []) (Ys (.pointer 82) .eql A .nilp)) fun B=>
 Z0 (Zj g (.bool true) B) fun C=>
 Zk C
 (some ((.tuple [(.str []),(.int .i64 8)]),H))
 (R3 x0 H0 H):=Za [3,5,9]
theorem C8:VE [p0] H=Ro p0 H:=Be 63 [3,5,9] Tryz.func97
def Bw:Z4:=ZV 98 51 (sub (Z1 Tryz.f98) [1,1,1,1,1,1]) (Zi cfg 51 98 Tryz.f98 H0) [(0,x0),(1,x1),(8,x8)] H
def Bv:Z4:=ZV 98 51 (sub (Z1 Tryz.f98) [1,1,1,1,1]) (Zi cfg 51 98 Tryz.f98 H0) [(0,x0),(1,x1),(8,x8)] H
def Bu:Z4:=ZV 98 51 (sub (Z1 Tryz.f98) [1,1,1]) (Zi cfg 51 98 Tryz.f98 H0) [(0,x0),(1,x1),(2,x2)] H
def Bt:Z4:=ZV 98 51 (sub (Z1 Tryz.f98) [1,1]) (Zi cfg 51 98 Tryz.f98 H0) [(0,x0),(1,x1),(2,x2)] H
def Da:Z4:=
 Z0 (Xh [p0,p1] H) fun g=>
 Z0 (Z5 .neq g.1 (.int .i64 0)) fun j=>
 Zk j
 (some (g.1,g.2))
 (Bt p0 p1 p2 H g.2)
theorem MB:Bw x0 x1 x8 H0 H =
 Z0 (Zu x0) fun j=>
 Z0 (Z7 0 j) fun u=>
 Z0 (Z7 0 u) fun w=>
 Z0 (Z3 false 1 w H) fun y=>
 Z0 (J2 [y,x1,x8] H) fun g=>
 some (g.1,g.2):=Za [4,6,9,11]
theorem JX:Bv x0 x1 x8 H0 H =
 Z0 (Zl .string x8) fun j=>
 Z0 (Zu x0) fun u=>
 Z0 (Z7 4 u) fun w=>
 Z0 (Z3 false 1 w H) fun y=>
 Z0 (Zu x0) fun z=>
 Z0 (Z7 0 z) fun A=>
 Z0 (QW XD [A] H) fun g=>
 Z0 (Z5 .sub y g.1) fun B=>
 Z0 (Z5 .gtr j B) fun C=>
 Zk C
 (some ((.int .i64 11),g.2))
 (Bw x0 x1 x8 H0 g.2):=Za [4,6,9,11]
theorem Vw:Bu x0 x1 x2 H0 H =
 Z0 (Ze P9 [x2] H) fun g=>
 Z0 (ZT g.1 0) fun u=>
 Z0 (ZT g.1 1) fun j=>
 Z0 (Z5 .neq j (.int .i64 0)) fun w=>
 Zk w
 (some (j,g.2))
 (Bv x0 x1 u H0 g.2):=Za [4,6,9,11]
theorem XW:Bt x0 x1 x2 H0 H =
 Z0 (Zu x0) fun g=>
 Z0 (Z7 0 g) fun j=>
 Z0 (Z7 3 j) fun u=>
 Z0 (Z3 false 1 u H) fun w=>
 Z0 (Yc .string (.bool false) false w x1 H) fun y=>
 Zk y
 (some ((.int .i64 8),H))
 (Bu x0 x1 x2 H0 H):=Za [4,6,9,11]
theorem Lg:V0 [p0,p1,p2] H=Da p0 p1 p2 H:=Be 51 [4,6,9,11] Tryz.func98
def DN:Z4:=ZV 99 29 (sub (Z1 Tryz.f99) [1,1,1]) (Zi cfg 29 99 Tryz.f99 H0) [(0,x0),(1,x1)] H
def DM:Z4:=ZV 99 29 (sub (Z1 Tryz.f99) [1,1]) (Zi cfg 29 99 Tryz.f99 H0) [(0,x0),(1,x1)] H
def FL:Z4:=
 Z0 (Xh [p0,p1] H) fun g=>
 Z0 (Z5 .neq g.1 (.int .i64 0)) fun j=>
 Zk j
 (some (g.1,g.2))
 (DM p0 p1 H g.2)
theorem LQ:DN x0 x1 H0 H =
 Z0 (Zu x0) fun j=>
 Z0 (Z7 0 j) fun u=>
 Z0 (Z7 3 u) fun w=>
 Z0 (Z3 false 1 w H) fun y=>
 Z0 (Xs .string y x1 (.bool true) H) fun g=>
 some ((.int .i64 0),g.2):=Za [4,7]
theorem KE:DM x0 x1 H0 H =
 Z0 (Zu x0) fun j=>
 Z0 (Z7 0 j) fun u=>
 Z0 (Z7 0 u) fun w=>
 Z0 (Z3 false 1 w H) fun y=>
 Z0 (KO [y,x1] H) fun g=>
 Z0 (Z5 .neq g.1 (.int .i64 0)) fun z=>
 Zk z
 (some (g.1,g.2))
 (DN x0 x1 H0 g.2):=Za [4,7]
theorem Eg:Vi [p0,p1] H=FL p0 p1 H:=Be 29 [4,7] Tryz.func99
def DO:Z4:=ZV 100 23 (sub (Z1 Tryz.f100) [1,1]) (Zi cfg 23 100 Tryz.f100 H0) [(0,x0)] H
def FM:Z4:=
 Z0 (Ys (.pointer 124) .eql p0 .nilp) fun t4=>
 Z0 (Z8 t4 false (.tuple []) (some p0)) fun C=>
 Z0 (Z8 t4 false (.tuple []) (Zu C)) fun D=>
 Z0 (Z8 t4 false (.tuple []) (Z7 6 D)) fun E=>
 Z0 (Z8 t4 false (.tuple []) (Z3 false 1 E H)) fun t9=>
 Z0 (Zj t4 (.bool true) t9) fun g=>
 Z0 (Z8 g false (.tuple []) (some p0)) fun j=>
 Z0 (Z8 g false (.tuple []) (Zu j)) fun u=>
 Z0 (Z8 g false (.tuple []) (Z7 0 u)) fun w=>
 Z0 (Z8 g false (.tuple []) (Z7 0 w)) fun y=>
 Z0 (Z8 g false (.tuple []) (Z3 false 1 y H)) fun z=>
 Z0 (Z8 g false (.tuple []) (Ys (.pointer 82) .eql z .nilp)) fun A=>
 Z0 (Zj g (.bool true) A) fun B=>
 Zk B
 (some ((.int .i64 0),H))
 (DO p0 H H)
theorem LR:DO x0 H0 H =
 Z0 (Zu x0) fun j=>
 Z0 (Z7 0 j) fun u=>
 Z0 (QW XD [u] H) fun g=>
 some (g.1,g.2):=Za [3]
theorem Eh:QF [p0] H=FM p0 H:=Be 23 [3] Tryz.func100
def G9:Z4:=ZV 102 28 (sub (Z1 Tryz.f102) [1,1,1]) (Zi cfg 28 102 Tryz.f102 H0) [(0,x0),(1,x1)] H
def G8:Z4:=ZV 102 28 (sub (Z1 Tryz.f102) [1,1]) (Zi cfg 28 102 Tryz.f102 H0) [(0,x0),(1,x1)] H
def GR:Z4:=
 Z0 (Xh [p0,p1] H) fun g=>
 Z0 (Z5 .neq g.1 (.int .i64 0)) fun j=>
 Zk j
 (some (g.1,g.2))
 (G8 p0 p1 H g.2)
theorem NS:G9 x0 x1 H0 H =
 Z0 (Zu x0) fun j=>
 Z0 (Z7 0 j) fun u=>
 Z0 (forgetE.run [u,x1] H) fun g=>
 some ((.int .i64 0),g.2):=Za [4,7]
theorem NR:G8 x0 x1 H0 H =
 Z0 (Zu x0) fun j=>
 Z0 (Z7 0 j) fun u=>
 Z0 (Z7 0 u) fun w=>
 Z0 (Z3 false 1 w H) fun y=>
 Z0 (VD [y,x1] H) fun g=>
 Z0 (Z5 .neq g.1 (.int .i64 0)) fun z=>
 Zk z
 (some (g.1,g.2))
 (G9 x0 x1 H0 g.2):=Za [4,7]
theorem M0:UG [p0,p1] H=GR p0 p1 H:=Be 28 [4,7] Tryz.func102
def Zcn:Z4:=
 Z0 (I1 Zev [p0] H) fun g=>
 some (g.1,g.2)
theorem Zh0:E5 [p0] H=Zcn p0 H:=Be 5 [] Tryz.func124
def DP:Z4:=ZV 125 22 (sub (Z1 Tryz.f125) [1,1]) (Zi cfg 22 125 Tryz.f125 H0) [] H
def FN:Z4:=
 Z0 (Ys (.pointer 124) .eql p0 .nilp) fun D=>
 Zk D
 (some ((.int .i64 5),H))
 (Z0 (Zu p0) fun j=>
 Z0 (Z7 6 j) fun u=>
 Z0 (Z3 false 1 u H) fun w=>
 Zk w
 (some ((.int .i64 8),H))
 (Z0 (Zu p0) fun y=>
 Z0 (Z7 0 y) fun z=>
 Z0 (Z7 2 z) fun A=>
 Z0 (Z3 false 1 A H) fun B=>
 Z0 (Ze YQ [B,p1] H) fun g=>
 Z0 (Xv .not g.1) fun C=>
 Zk C
 (some ((.int .i64 5),g.2))
 (DP H g.2)))
theorem LS:DP H0 H =
 some ((.int .i64 0),H):=Za [7]
theorem Ei:Xh [p0,p1] H=FN p0 p1 H:=Be 22 [7] Tryz.func125
def Ho:Z4:=ZV 126 27 (sub (Z1 Tryz.f126) [1,1,1]) (Zi cfg 27 126 Tryz.f126 H0) [(4,x4)] H
def Q0:KL:=Zc (LX 126 27 Tryz.f126 [1,1,1]) (Zi cfg 27 126 Tryz.f126 H0)
theorem Za5:ZU 27 (Q0 H0):=Zx (C:=cfg) (kp:=cfg.keep 126) (sub (Z1 Tryz.f126) [1,1,1]) (ZB 126 Tryz.f126 H0)
def Hr:Z4:=ZV 126 27 (sub (Z1 Tryz.f126) [1,1,0,1,0,0,1,1,1]) (Zc (J4 126 27 Tryz.f126 [1,1,0,1,0,0]) (Z6 0 (Q0 H0))) [(4,x4),(9,x9),(10,x10),(11,x11)] H
def Zi4:KL:=Zc (LX 126 27 Tryz.f126 [1,1,0,1,0,0,1,1,1]) (Zc (J4 126 27 Tryz.f126 [1,1,0,1,0,0]) (Z6 0 (Q0 H0)))
def Hs:Z4:=ZV 126 27 (sub (Z1 Tryz.f126) [1,1,0,1,0,0,1,1,0,0,1,1,1]) (Z6 1 (Zi4 H0)) [(4,x4),(7,x7),(9,x9),(10,x10),(11,x11)] H
def Hq:Z4:=ZV 126 27 (sub (Z1 Tryz.f126) [1,1,0,1,0,0,1,1]) (Zc (J4 126 27 Tryz.f126 [1,1,0,1,0,0]) (Z6 0 (Q0 H0))) [(4,x4),(9,x9),(10,x10),(11,x11),(12,x12)] H
def Ks:Z4:=El 126 27 (sub (Z1 Tryz.f126) [1,1,0,1,0,0]) (Z6 0 (Q0 H0)) [(4,x4),(9,x9),(10,x10),(11,x11)] H
def I9:Z4:=
 Z0 (some ((.ptr H.length 0),H++[.bld 201 5 []])) fun j=>
 Z0 (Zl (.slice 9) p0) fun g=>
 Ks j.1 p0 g (.int .i64 0) H j.2
theorem ZdE:Ho x4 H0 H =
 Z0 (stringE.run [x4] H) fun g=>
 some ((.tuple [g.1,(.int .i64 0)]),g.2):=Za [4,8,9,10]
theorem ZdF:Hr x4 x9 x10 x11 H0 H =
 Z0 (Z5 .add x11 (.int .i64 1)) fun g=>
 Ks x4 x9 x10 g H0 H:=Za [4,8,9,10]
theorem ZdG:Hs x4 x7 x9 x10 x11 H0 H =
 Z0 (textE.run [x4,x7] H) fun g=>
 Hr x4 x9 x10 x11 H0 g.2:=Za [4,8,9,10]
theorem Nz:Hq x4 x9 x10 x11 x12 H0 H =
 Z0 (Zn 1 x9 x11) fun u=>
 Z0 (Z3 false 1 u H) fun w=>
 Z0 (Ze Pa [w] H) fun g=>
 Z0 (ZT g.1 0) fun y=>
 Z0 (ZT g.1 1) fun j=>
 Z0 (Z5 .neq j (.int .i64 0)) fun z=>
 Zk z
 (some ((.tuple [(.str []),j]),g.2))
 (Hs x4 y x9 x10 x11 H0 g.2):=Za [4,8,9,10]
theorem NA:Ks x4 x9 x10 x11 H0 H =
 Z0 (Z5 .lss x11 x10) fun g=>
 Zk g
 (Hq x4 x9 x10 x11 g H0 H)
 (Ho x4 H0 H):=(ZD (C:=cfg) [4,8,9,10] (Zm 0 (Za5 H0)) _ _).trans (by kernel_rfl)
theorem ZeE:P9 [p0] H=I9 p0 H:=Be 27 [4,8,9,10] Tryz.func126
def By:Z4:=ZV 127 29 (sub (Z1 Tryz.f127) [1,1,1]) (Zi cfg 29 127 Tryz.f127 H0) [(3,x3)] H
def WO:KL:=Zc (LX 127 29 Tryz.f127 [1,1,1]) (Zi cfg 29 127 Tryz.f127 H0)
theorem PS:ZU 29 (WO H0):=Zx (C:=cfg) (kp:=cfg.keep 127) (sub (Z1 Tryz.f127) [1,1,1]) (ZB 127 Tryz.f127 H0)
def UL:Z4:=ZV 127 29 (sub (Z1 Tryz.f127) [1,1,0,1,0,0,1,1,1]) (Zc (J4 127 29 Tryz.f127 [1,1,0,1,0,0]) (Z6 0 (WO H0))) [(0,x0),(3,x3),(10,x10),(11,x11),(12,x12)] H
def Bz:Z4:=ZV 127 29 (sub (Z1 Tryz.f127) [1,1,0,1,0,0,1,1]) (Zc (J4 127 29 Tryz.f127 [1,1,0,1,0,0]) (Z6 0 (WO H0))) [(0,x0),(3,x3),(10,x10),(11,x11),(12,x12),(13,x13)] H
def WP:Z4:=El 127 29 (sub (Z1 Tryz.f127) [1,1,0,1,0,0]) (Z6 0 (WO H0)) [(0,x0),(3,x3),(10,x10),(11,x11),(12,x12)] H
def Db:Z4:=
 Z0 (Zu p0) fun u=>
 Z0 (Z7 0 u) fun w=>
 Z0 (Z3 false 1 w H) fun t9=>
 Z0 (QW V9 [t9] H) fun g=>
 Z0 (Zl (.slice 108) g.1) fun j=>
 WP p0 (.int .i64 0) g.1 j (.int .i64 0) H g.2
theorem MC:By x3 H0 H =
 some (x3,H):=Za [4,7,8]
theorem JY:UL x0 x3 x10 x11 x12 H0 H =
 Z0 (Z5 .add x12 (.int .i64 1)) fun g=>
 WP x0 x3 x10 x11 g H0 H:=Za [4,7,8]
theorem MD:Bz x0 x3 x10 x11 x12 x13 H0 H =
 Z0 (Zn 3 x10 x12) fun w=>
 Z0 (Z3 true 3 w H) fun y=>
 Z0 (some ((.ptr H.length 0),H++[.cells [(.str []),(.int .i64 0),(.int .i64 0)]])) fun u=>
 Z0 (Zf 3 u.1 y u.2) fun g=>
 Z0 (Zu x0) fun z=>
 Z0 (Z7 2 z) fun A=>
 Z0 (Z3 false 1 A g.2) fun B=>
 Z0 (Z7 0 u.1) fun C=>
 Z0 (Z3 false 1 C g.2) fun D=>
 Z0 (Ze YQ [B,D] g.2) fun j=>
 Zk j.1
 (Z0 (Z7 1 u.1) fun E=>
 Z0 (Z3 false 1 E j.2) fun F=>
 Z0 (Z5 .add x3 F) fun I=>
 UL x0 I x10 x11 x12 H0 j.2)
 (UL x0 x3 x10 x11 x12 H0 j.2):=Za [4,7,8]
theorem JZ:WP x0 x3 x10 x11 x12 H0 H =
 Z0 (Z5 .lss x12 x11) fun g=>
 Zk g
 (Bz x0 x3 x10 x11 x12 g H0 H)
 (By x3 H0 H):=(ZD (C:=cfg) [4,7,8] (Zm 0 (PS H0)) _ _).trans (by kernel_rfl)
theorem Lh:XD [p0] H=Db p0 H:=Be 29 [4,7,8] Tryz.func127
def Vx:Z4:=
 Z0 (Ze We [p0,p1] H) fun g=>
 Z0 (Z5 .geq g.1 (.int .i64 0)) fun j=>
 some (j,g.2)
theorem KF:YQ [p0,p1] H=Vx p0 p1 H:=Be 9 [] Tryz.func163
def Ht:Z4:=ZV 164 23 (sub (Z1 Tryz.f164) [1,1]) (Zi cfg 23 164 Tryz.f164 H0) [(0,x0)] H
def Ia:Z4:=
 Z0 (Zl .string p0) fun g=>
 Z0 (Z5 .gtr g (.int .i64 4096)) fun j=>
 Zk j
 (some ((.tuple [(.str []),(.int .i64 3)]),H))
 (Ht p0 H H)
theorem ZdH:Ht x0 H0 H =
 Z0 (Zl .string x0) fun t9=>
 Z0 (Z5 .shr t9 (.int .u64 8)) fun u=>
 Z0 (Wl .u8 u) fun w=>
 Z0 (Zl .string x0) fun y=>
 Z0 (Wl .u8 y) fun z=>
 Z0 ((ZA 1 [(0,w),(1,z)] [(.int .u8 0),(.int .u8 0)]).map (.vs 1 .clip)) fun A=>
 Z0 (BI A H) fun B=>
 Z0 (Xb .add B x0) fun j=>
 Z0 (Ze PX [j] H) fun g=>
 Z0 (Xb .add j g.1) fun C=>
 some ((.tuple [C,(.int .i64 0)]),g.2):=Za [3]
theorem ZeF:Pa [p0] H=Ia p0 H:=Be 23 [3] Tryz.func164
def DL:Z4:=ZV 166 49 (sub (Z1 Tryz.f166) [1,1,1,1,1,1,1]) (Zi cfg 49 166 Tryz.f166 H0) [(2,x2),(12,x12),(13,x13)] H
def DK:Z4:=ZV 166 49 (sub (Z1 Tryz.f166) [1,1,1,1,1]) (Zi cfg 49 166 Tryz.f166 H0) [(2,x2),(10,x10)] H
def DJ:Z4:=ZV 166 49 (sub (Z1 Tryz.f166) [1,1,1,1]) (Zi cfg 49 166 Tryz.f166 H0) [(2,x2),(10,x10)] H
def DI:Z4:=ZV 166 49 (sub (Z1 Tryz.f166) [1,1]) (Zi cfg 49 166 Tryz.f166 H0) [(0,x0),(1,x1),(2,x2)] H
def QH:Z4:=
 Z0 (Xh [p0,p1] H) fun g=>
 Z0 (Z5 .neq g.1 (.int .i64 0)) fun j=>
 Zk j
 (some ((.tuple [(.str []),(.int .i64 0),g.1]),g.2))
 (DI p0 p1 p2 H g.2)
theorem LO:DL x2 x12 x13 H0 H =
 Z0 (Z5 .add x2 x13) fun g=>
 some ((.tuple [x12,g,(.int .i64 0)]),H):=Za [4,7,9,12]
theorem LN:DK x2 x10 H0 H =
 Z0 (Ze E0 [x10,(.int .i64 0)] H) fun g=>
 Z0 (ZT g.1 0) fun u=>
 Z0 (ZT g.1 1) fun w=>
 Z0 (ZT g.1 2) fun j=>
 Z0 (Z5 .neq j (.int .i64 0)) fun y=>
 Zk y
 (some ((.tuple [(.str []),(.int .i64 0),j]),g.2))
 (DL x2 u w H0 g.2):=Za [4,7,9,12]
theorem KD:DJ x2 x10 H0 H =
 Z0 (Xb .eql x10 (.str [])) fun g=>
 Zk g
 (some ((.tuple [(.str []),(.int .i64 0),(.int .i64 5)]),H))
 (DK x2 x10 H0 H):=Za [4,7,9,12]
theorem KC:DI x0 x1 x2 H0 H =
 Z0 (Zu x0) fun u=>
 Z0 (Z7 0 u) fun w=>
 Z0 (Z7 0 w) fun y=>
 Z0 (Z3 false 1 y H) fun z=>
 Z0 (KN [z,x1,x2,(.int .i64 4102)] H) fun g=>
 Z0 (ZT g.1 0) fun A=>
 Z0 (ZT g.1 1) fun j=>
 Z0 (Z5 .neq j (.int .i64 0)) fun B=>
 Zk B
 (some ((.tuple [(.str []),(.int .i64 0),j]),g.2))
 (DJ x2 A H0 g.2):=Za [4,7,9,12]
theorem KT:Vh [p0,p1,p2] H=QH p0 p1 p2 H:=Be 49 [4,7,9,12] Tryz.func166
def Ue:Z4:=ZV 194 19 (sub (Z1 Tryz.f194) [1,1]) (Zi cfg 19 194 Tryz.f194 H0) [] H
def X1:KL:=Zc (LX 194 19 Tryz.f194 [1,1]) (Zi cfg 19 194 Tryz.f194 H0)
theorem KG:ZU 19 (X1 H0):=Zx (C:=cfg) (kp:=cfg.keep 194) (sub (Z1 Tryz.f194) [1,1]) (ZB 194 Tryz.f194 H0)
def Ug:Z4:=ZV 194 19 (sub (Z1 Tryz.f194) [1,0,1,0,0,1,1,1]) (Zc (J4 194 19 Tryz.f194 [1,0,1,0,0]) (Z6 0 (X1 H0))) [(0,x0),(1,x1),(7,x7),(8,x8)] H
def Uf:Z4:=ZV 194 19 (sub (Z1 Tryz.f194) [1,0,1,0,0,1,1]) (Zc (J4 194 19 Tryz.f194 [1,0,1,0,0]) (Z6 0 (X1 H0))) [(0,x0),(1,x1),(7,x7),(8,x8),(9,x9)] H
def X2:Z4:=El 194 19 (sub (Z1 Tryz.f194) [1,0,1,0,0]) (Z6 0 (X1 H0)) [(0,x0),(1,x1),(7,x7),(8,x8)] H
def UF:Z4:=
 Z0 (Zl (.slice 9) p0) fun g=>
 X2 p0 p1 g (.int .i64 0) H H
theorem GJ:Ue H0 H =
 some ((.int .i64 (-1)),H):=Za [3,6,7]
theorem GL:Ug x0 x1 x7 x8 H0 H =
 Z0 (Z5 .add x8 (.int .i64 1)) fun g=>
 X2 x0 x1 x7 g H0 H:=Za [3,6,7]
theorem GK:Uf x0 x1 x7 x8 x9 H0 H =
 Z0 (Zn 1 x0 x8) fun g=>
 Z0 (Z3 false 1 g H) fun j=>
 Z0 (Xb .eql x1 j) fun u=>
 Zk u
 (some (x8,H))
 (Ug x0 x1 x7 x8 H0 H):=Za [3,6,7]
theorem Vo:X2 x0 x1 x7 x8 H0 H =
 Z0 (Z5 .lss x8 x7) fun t9=>
 Zk t9
 (Uf x0 x1 x7 x8 t9 H0 H)
 (Ue H0 H):=(ZD (C:=cfg) [3,6,7] (Zm 0 (KG H0)) _ _).trans (by kernel_rfl)
theorem BF:We [p0,p1] H=UF p0 p1 H:=Be 19 [3,6,7] Tryz.func194
def Zfj:Z4:=
 Z0 (Ze A9 [p0] H) fun g=>
 Z0 (Wl .u8 g.1) fun C=>
 Z0 (Z5 .shr g.1 (.int .u64 8)) fun t9=>
 Z0 (Wl .u8 t9) fun j=>
 Z0 (Z5 .shr g.1 (.int .u64 16)) fun u=>
 Z0 (Wl .u8 u) fun w=>
 Z0 (Z5 .shr g.1 (.int .u64 24)) fun y=>
 Z0 (Wl .u8 y) fun z=>
 Z0 ((ZA 1 [(0,C),(1,j),(2,w),(3,z)] [(.int .u8 0),(.int .u8 0),(.int .u8 0),(.int .u8 0)]).map (.vs 1 .clip)) fun A=>
 Z0 (BI A g.2) fun B=>
 some (B,g.2)
theorem Zj2:PX [p0] H=Zfj p0 H:=Be 19 [] Tryz.func195
def Zb3:Z4:=ZV 196 58 (sub (Z1 Tryz.f196) [1,1,1,1,1,1,1,1]) (Zi cfg 58 196 Tryz.f196 H0) [(1,x1),(7,x7),(8,x8)] H
def Zb2:Z4:=ZV 196 58 (sub (Z1 Tryz.f196) [1,1,1,1,1,1,1]) (Zi cfg 58 196 Tryz.f196 H0) [(1,x1),(7,x7),(8,x8)] H
def Zb1:Z4:=ZV 196 58 (sub (Z1 Tryz.f196) [1,1,1,1,1,1]) (Zi cfg 58 196 Tryz.f196 H0) [(1,x1),(7,x7),(8,x8)] H
def Zb0:Z4:=ZV 196 58 (sub (Z1 Tryz.f196) [1,1,1,1]) (Zi cfg 58 196 Tryz.f196 H0) [(1,x1),(7,x7)] H
def ZaZ:Z4:=ZV 196 58 (sub (Z1 Tryz.f196) [1,1]) (Zi cfg 58 196 Tryz.f196 H0) [(0,x0),(1,x1)] H
def Zci:Z4:=
 Z0 (Z5 .lss p1 (.int .i64 0)) fun g=>
 Z0 (Z8 g false (.tuple []) (some p1)) fun j=>
 Z0 (Z8 g false (.tuple []) (some p0)) fun u=>
 Z0 (Z8 g false (.tuple []) (Zl .string u)) fun w=>
 Z0 (Z8 g false (.tuple []) (Z5 .gtr j w)) fun y=>
 Z0 (Zj g (.bool true) y) fun z=>
 Zk z
 (some ((.tuple [(.str []),(.int .i64 0),(.int .i64 2)]),H))
 (ZaZ p0 p1 H H)
theorem Zgf:Zb3 x1 x7 x8 H0 H =
 Z0 (Z5 .add x8 (.int .i64 2)) fun g=>
 Z0 (Yj x7 (some (.int .i64 2)) (some g) none) fun j=>
 Z0 (Z5 .add x1 x8) fun u=>
 Z0 (Z5 .add u (.int .i64 6)) fun w=>
 some ((.tuple [j,w,(.int .i64 0)]),H):=Za [3,6,9,11,13]
theorem Zge:Zb2 x1 x7 x8 H0 H =
 Z0 (Z5 .add x8 (.int .i64 2)) fun j=>
 Z0 (Z5 .add x8 (.int .i64 6)) fun u=>
 Z0 (Yj x7 (some j) (some u) none) fun w=>
 Z0 (Z5 .add x8 (.int .i64 2)) fun y=>
 Z0 (Yj x7 none (some y) none) fun z=>
 Z0 (Ze PX [z] H) fun g=>
 Z0 (Xb .neq w g.1) fun A=>
 Zk A
 (some ((.tuple [(.str []),(.int .i64 0),(.int .i64 13)]),g.2))
 (Zb3 x1 x7 x8 H0 g.2):=Za [3,6,9,11,13]
theorem Zgd:Zb1 x1 x7 x8 H0 H =
 Z0 (Zl .string x7) fun g=>
 Z0 (Z5 .add x8 (.int .i64 6)) fun j=>
 Z0 (Z5 .lss g j) fun t37=>
 Zk t37
 (some ((.tuple [(.str []),(.int .i64 0),(.int .i64 14)]),H))
 (Zb2 x1 x7 x8 H0 H):=Za [3,6,9,11,13]
theorem Zgc:Zb0 x1 x7 H0 H =
 Z0 (Zz x7 (.int .i64 0)) fun j=>
 Z0 (Wl .i64 j) fun u=>
 Z0 (Z5 .shl u (.int .u64 8)) fun w=>
 Z0 (Zz x7 (.int .i64 1)) fun y=>
 Z0 (Wl .i64 y) fun z=>
 Z0 (Z5 .or w z) fun g=>
 Z0 (Z5 .gtr g (.int .i64 4096)) fun A=>
 Zk A
 (some ((.tuple [(.str []),(.int .i64 0),(.int .i64 13)]),H))
 (Zb1 x1 x7 g H0 H):=Za [3,6,9,11,13]
theorem Zgb:ZaZ x0 x1 H0 H =
 Z0 (Yj x0 (some x1) none none) fun g=>
 Z0 (Zl .string g) fun j=>
 Z0 (Z5 .lss j (.int .i64 2)) fun u=>
 Zk u
 (some ((.tuple [(.str []),(.int .i64 0),(.int .i64 14)]),H))
 (Zb0 x1 g H0 H):=Za [3,6,9,11,13]
theorem ZgY:E0 [p0,p1] H=Zci p0 p1 H:=Be 58 [3,6,9,11,13] Tryz.func196
def ZdB:Z4:=ZV 209 33 (sub (Z1 Tryz.f209) [1,1,1]) (Zi cfg 33 209 Tryz.f209 H0) [(3,x3)] H
def RT:KL:=Zc (LX 209 33 Tryz.f209 [1,1,1]) (Zi cfg 33 209 Tryz.f209 H0)
theorem ZeU:ZU 33 (RT H0):=Zx (C:=cfg) (kp:=cfg.keep 209) (sub (Z1 Tryz.f209) [1,1,1]) (ZB 209 Tryz.f209 H0)
def ZdD:Z4:=ZV 209 33 (sub (Z1 Tryz.f209) [1,1,0,1,0,0,1,1,1]) (Zc (J4 209 33 Tryz.f209 [1,1,0,1,0,0]) (Z6 0 (RT H0))) [(0,x0),(3,x3),(6,x6),(7,x7)] H
def ZdC:Z4:=ZV 209 33 (sub (Z1 Tryz.f209) [1,1,0,1,0,0,1,1]) (Zc (J4 209 33 Tryz.f209 [1,1,0,1,0,0]) (Z6 0 (RT H0))) [(0,x0),(3,x3),(6,x6),(7,x7),(8,x8)] H
def RU:Z4:=El 209 33 (sub (Z1 Tryz.f209) [1,1,0,1,0,0]) (Z6 0 (RT H0)) [(0,x0),(3,x3),(6,x6),(7,x7)] H
def Zfi:Z4:=
 Z0 (Zl .string p0) fun g=>
 RU p0 (.int .u32 4294967295) g (.int .i64 0) H H
theorem Zi1:ZdB x3 H0 H =
 Z0 (Xv .xor x3) fun g=>
 some (g,H):=Za [4,8,9]
theorem Zi3:ZdD x0 x3 x6 x7 H0 H =
 Z0 (Z5 .add x7 (.int .i64 1)) fun g=>
 RU x0 x3 x6 g H0 H:=Za [4,8,9]
theorem Zi2:ZdC x0 x3 x6 x7 x8 H0 H =
 Z0 (Zz x0 x7) fun u=>
 Z0 (Wl .u32 u) fun w=>
 Z0 (Z5 .xor x3 w) fun g=>
 Z0 (Z5 .and g (.int .u32 15)) fun y=>
 Z0 (Gj 16 1 Zqj y) fun z=>
 Z0 (Z3 false 1 z H) fun A=>
 Z0 (Z5 .shr g (.int .u64 4)) fun B=>
 Z0 (Z5 .xor A B) fun j=>
 Z0 (Z5 .and j (.int .u32 15)) fun C=>
 Z0 (Gj 16 1 Zqj C) fun D=>
 Z0 (Z3 false 1 D H) fun E=>
 Z0 (Z5 .shr j (.int .u64 4)) fun F=>
 Z0 (Z5 .xor E F) fun I=>
 ZdD x0 I x6 x7 H0 H:=Za [4,8,9]
theorem Hn:RU x0 x3 x6 x7 H0 H =
 Z0 (Z5 .lss x7 x6) fun g=>
 Zk g
 (ZdC x0 x3 x6 x7 g H0 H)
 (ZdB x3 H0 H):=(ZD (C:=cfg) [4,8,9] (Zm 0 (ZeU H0)) _ _).trans (by kernel_rfl)
theorem Zj1:A9 [p0] H=Zfi p0 H:=Be 33 [4,8,9] Tryz.func209
end
end Go.Am
