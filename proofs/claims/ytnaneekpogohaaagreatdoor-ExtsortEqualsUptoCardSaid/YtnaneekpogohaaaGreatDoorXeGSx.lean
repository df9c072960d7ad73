/- The functions of the translation over the abstract machine -/
import Derived.Test.YtnaneekpogohaaaGreatDoorXeGx
namespace Go.Am
open Go.Proofs
set_option maxRecDepth 100000
noncomputable abbrev ZP (f n:Nat):=Y9 cfg (Z9 cfg) (Y6 cfg (cfg.keep f) n) (cfg.keep f) n Zc Z7
noncomputable abbrev Nr (f n:Nat):=Y6 cfg (cfg.keep f) n
noncomputable section
abbrev Nn (f n:Nat)(F:Func)(p:List Nat):KL->AL->Hp->Z3:=fun k g H=>ZP f n (sub (Z1 F) p) k (ZU (cfg.keep f) (sub (Z1 F) p) g) H
abbrev U5 (f n:Nat)(F:Func)(p:List Nat):KL->AL->Hp->Z3:=fun k g H=>Nr f n (sub (Z1 F) p) k (ZU (cfg.keep f) (sub (Z1 F) p) g) H
variable (p0 p1 p2 p3 x0 x1 x2 x3 x4 x5 x6 x7 x8 x9 x10 x11 x12 x13 x18 x19 x20 x21 x22 x23 x24:AV)(H0 H:Hp)
def Zej:Z3:=
 Z0 (Kd p0 (.int .i64 0)) fun t4=>
 Z0 (UO t4 (.int .i64 262144)) fun t5=>
 Z0 (some ((.map H.length),H++[.map [] 0])) fun g=>
 Z0 ((Xh [(0,1,t5),(3,1,g.1)] [(.int .i64 0),(.int .i64 0),(.int .i64 0),.nilm,(.bool false),(.int .i64 0)]).map .agg) fun u=>
 Z0 (ZM u g.2) fun j=>
 some (j.1,j.2)
theorem Zi8:Hg [p0] H=Zej p0 H:=Be 9 [] Tryz.func15
def QP:Z3:=ZP 16 46 (sub (Z1 Tryz.f16) [1,1,1]) (Zh cfg 46 16 Tryz.f16 H0) [(0,x0),(1,x1)] H
def Ft:Z3:=ZP 16 46 (sub (Z1 Tryz.f16) [1,1]) (Zh cfg 46 16 Tryz.f16 H0) [(0,x0),(1,x1)] H
def FN:Z3:=
 Z0 (YC (.pointer 82) .eql p0 .nilp) fun J=>
 Zl J
 (some ((.int .i64 5),H))
 (Z0 (Uk [p0] H) fun j=>
 Zl j.1
 (some ((.int .i64 19),j.2))
 (Z0 (Zf DN [p1] j.2) fun g=>
 Z0 (Xo .not g.1) fun u=>
 Zl u
 (some ((.int .i64 4),g.2))
 (Z0 (Zu p0) fun w=>
 Z0 (Z6 3 w) fun y=>
 Z0 (Z4 false 1 y g.2) fun z=>
 Z0 (Yd .string .nilp false z p1 g.2) fun A=>
 Z0 (YC (.pointer 86) .neq A .nilp) fun B=>
 Zl B
 (some ((.int .i64 6),g.2))
 (Z0 (Zu p0) fun C=>
 Z0 (Z6 3 C) fun D=>
 Z0 (Z4 false 1 D g.2) fun E=>
 Z0 (J1 E g.2) fun F=>
 Z0 (Z5 .geq F (.int .i64 64)) fun I=>
 Zl I
 (some ((.int .i64 3),g.2))
 (Ft p0 p1 H g.2)))))
theorem ET:QP x0 x1 H0 H =
 Z0 (Zu x0) fun u=>
 Z0 (Z6 3 u) fun w=>
 Z0 (Z4 false 1 w H) fun y=>
 Z0 (some (.agg [.nils,(.int .i64 0)])) fun z=>
 Z0 (ZM z H) fun g=>
 Z0 (Xp .string y x1 g.1 g.2) fun j=>
 some ((.int .i64 0),j.2):=Za [11,13]
theorem ES:Ft x0 x1 H0 H =
 Z0 (Zu x0) fun u=>
 Z0 (Z6 3 u) fun w=>
 Z0 (Z4 false 1 w H) fun y=>
 Z0 (YC (.map 9 84) .eql y .nilm) fun z=>
 Zl z
 (Z0 (some ((.map H.length),H++[.map [] 0])) fun g=>
 Z0 (Zu x0) fun t37=>
 Z0 (Z6 3 t37) fun A=>
 Z0 (Ze 1 A g.1 g.2) fun j=>
 QP x0 x1 H0 j.2)
 (QP x0 x1 H0 H):=Za [11,13]
theorem Sf:Wc [p0,p1] H=FN p0 p1 H:=Be 46 [11,13] Tryz.func16
def Fr:Z3:=ZP 17 60 (sub (Z1 Tryz.f17) [1,1,1,1]) (Zh cfg 60 17 Tryz.f17 H0) [(0,x0),(2,x2),(7,x7)] H
def Fq:Z3:=ZP 17 60 (sub (Z1 Tryz.f17) [1,1,1]) (Zh cfg 60 17 Tryz.f17 H0) [(0,x0),(2,x2),(7,x7)] H
def FM:Z3:=
 Z0 (XW [p0,p1] H) fun g=>
 Z0 (ZQ g.1 0) fun u=>
 Z0 (ZQ g.1 1) fun j=>
 Z0 (Z5 .neq j (.int .i64 0)) fun w=>
 Zl w
 (some (j,g.2))
 (Fq p0 p2 u H g.2)
theorem ER:Fr x0 x2 x7 H0 H =
 Z0 (Zu x7) fun y=>
 Z0 (Z6 0 y) fun z=>
 Z0 (Z4 false 1 z H) fun A=>
 Z0 (Yl 1 1 A x2 H) fun u=>
 Z0 (Zu x7) fun t37=>
 Z0 (Z6 0 t37) fun B=>
 Z0 (Ze 1 B u.1 u.2) fun j=>
 Z0 (Zu x0) fun C=>
 Z0 (Z6 1 C) fun D=>
 Z0 (Z4 false 1 D j.2) fun E=>
 Z0 (Zk .string x2) fun F=>
 Z0 (Z5 .add E F) fun I=>
 Z0 (Zu x0) fun J=>
 Z0 (Z6 1 J) fun K=>
 Z0 (Ze 1 K I j.2) fun g=>
 Z0 (Zu x0) fun L=>
 Z0 (Z6 2 L) fun M=>
 Z0 (Z4 false 1 M g.2) fun N=>
 Z0 (Zu x0) fun O=>
 Z0 (Z6 1 O) fun Q=>
 Z0 (Z4 false 1 Q g.2) fun R=>
 Z0 (Kd N R) fun S=>
 Z0 (Zu x0) fun T=>
 Z0 (Z6 2 T) fun U=>
 Z0 (Ze 1 U S g.2) fun w=>
 some ((.int .i64 0),w.2):=Za [4,6]
theorem KY:Fq x0 x2 x7 H0 H =
 Z0 (Zu x0) fun g=>
 Z0 (Z6 1 g) fun j=>
 Z0 (Z4 false 1 j H) fun u=>
 Z0 (Zk .string x2) fun w=>
 Z0 (Z5 .add u w) fun y=>
 Z0 (Zu x0) fun z=>
 Z0 (Z6 0 z) fun A=>
 Z0 (Z4 false 1 A H) fun B=>
 Z0 (Z5 .gtr y B) fun C=>
 Zl C
 (some ((.int .i64 12),H))
 (Fr x0 x2 x7 H0 H):=Za [4,6]
theorem Se:Wb [p0,p1,p2] H=FM p0 p1 p2 H:=Be 60 [4,6] Tryz.func17
def K7:Z3:=ZP 18 24 (sub (Z1 Tryz.f18) [1,1,1]) (Zh cfg 24 18 Tryz.f18 H0) [(6,x6)] H
def PN:Z3:=
 Z0 (XW [p0,p1] H) fun g=>
 Z0 (ZQ g.1 0) fun w=>
 Z0 (ZQ g.1 1) fun j=>
 Z0 (Z5 .eql j (.int .i64 0)) fun y=>
 Zl y
 (Z0 (Zu w) fun z=>
 Z0 (Z6 0 z) fun A=>
 Z0 (Z4 false 1 A g.2) fun B=>
 Z0 (Zk (.slice 5) B) fun C=>
 Z0 (Zu w) fun D=>
 Z0 (Z6 1 D) fun E=>
 Z0 (Ze 1 E C g.2) fun u=>
 K7 j H u.2)
 (K7 j H g.2)
theorem Qh:K7 x6 H0 H =
 some (x6,H):=Za [4]
theorem Ay:KG [p0,p1] H=PN p0 p1 H:=Be 24 [4] Tryz.func18
def Tq:Z3:=ZP 23 54 (sub (Z1 Tryz.f23) [1,1,1,1]) (Zh cfg 54 23 Tryz.f23 H0) [(2,x2),(3,x3),(10,x10)] H
def Tp:Z3:=ZP 23 54 (sub (Z1 Tryz.f23) [1,1,1]) (Zh cfg 54 23 Tryz.f23 H0) [(2,x2),(3,x3),(10,x10)] H
def PM:Z3:=
 Z0 (XW [p0,p1] H) fun g=>
 Z0 (ZQ g.1 0) fun u=>
 Z0 (ZQ g.1 1) fun j=>
 Z0 (Z5 .neq j (.int .i64 0)) fun w=>
 Zl w
 (some ((.tuple [(.str []),j]),g.2))
 (Tp p2 p3 u H g.2)
theorem Ab:Tq x2 x3 x10 H0 H =
 Z0 (Zu x10) fun t37=>
 Z0 (Z6 0 t37) fun g=>
 Z0 (Z4 false 1 g H) fun j=>
 Z0 (Zu x10) fun u=>
 Z0 (Z6 0 u) fun w=>
 Z0 (Z4 false 1 w H) fun y=>
 Z0 (Zk (.slice 5) y) fun z=>
 Z0 (Z5 .sub z x2) fun A=>
 Z0 (UO x3 A) fun B=>
 Z0 (Z5 .add x2 B) fun C=>
 Z0 (Yn 1 j (some x2) (some C) none) fun D=>
 Z0 (Br D H) fun E=>
 some ((.tuple [E,(.int .i64 0)]),H):=Za [4,6]
theorem Aa:Tp x2 x3 x10 H0 H =
 Z0 (Z5 .lss x2 (.int .i64 0)) fun g=>
 Z0 (Z8 g false (.tuple []) (some x2)) fun u=>
 Z0 (Z8 g false (.tuple []) (some x10)) fun w=>
 Z0 (Z8 g false (.tuple []) (Zu w)) fun y=>
 Z0 (Z8 g false (.tuple []) (Z6 0 y)) fun z=>
 Z0 (Z8 g false (.tuple []) (Z4 false 1 z H)) fun A=>
 Z0 (Z8 g false (.tuple []) (Zk (.slice 5) A)) fun B=>
 Z0 (Z8 g false (.tuple []) (Z5 .gtr u B)) fun C=>
 Z0 (Zi g (.bool true) C) fun j=>
 Z0 (Z8 j false (.tuple []) (some x3)) fun D=>
 Z0 (Z8 j false (.tuple []) (Z5 .lss D (.int .i64 0))) fun E=>
 Z0 (Zi j (.bool true) E) fun F=>
 Zl F
 (some ((.tuple [(.str []),(.int .i64 2)]),H))
 (Tq x2 x3 x10 H0 H):=Za [4,6]
theorem Ax:V5 [p0,p1,p2,p3] H=PM p0 p1 p2 p3 H:=Be 54 [4,6] Tryz.func23
def Tm:Z3:=ZP 26 38 (sub (Z1 Tryz.f26) [1,1,1,1]) (Zh cfg 38 26 Tryz.f26 H0) [(3,x3)] H
def Uu:KL:=Zc (Nn 26 38 Tryz.f26 [1,1,1,1]) (Zh cfg 38 26 Tryz.f26 H0)
theorem EU:ZW 38 (Uu H0):=Zy (C:=cfg) (kp:=cfg.keep 26) (sub (Z1 Tryz.f26) [1,1,1,1]) (ZB 26 Tryz.f26 H0)
def To:Z3:=ZP 26 38 (sub (Z1 Tryz.f26) [1,1,1,0,1,0,0,1,1,1]) (Zc (U5 26 38 Tryz.f26 [1,1,1,0,1,0,0]) (Z7 0 (Uu H0))) [(0,x0),(3,x3),(10,x10),(11,x11),(12,x12)] H
def Tn:Z3:=ZP 26 38 (sub (Z1 Tryz.f26) [1,1,1,0,1,0,0,1,1]) (Zc (U5 26 38 Tryz.f26 [1,1,1,0,1,0,0]) (Z7 0 (Uu H0))) [(0,x0),(3,x3),(10,x10),(11,x11),(12,x12),(13,x13)] H
def Uv:Z3:=Nr 26 38 (sub (Z1 Tryz.f26) [1,1,1,0,1,0,0]) (Z7 0 (Uu H0)) [(0,x0),(3,x3),(10,x10),(11,x11),(12,x12)] H
def Tl:Z3:=ZP 26 38 (sub (Z1 Tryz.f26) [1,1]) (Zh cfg 38 26 Tryz.f26 H0) [(0,x0)] H
def PL:Z3:=
 Z0 (YC (.pointer 82) .eql p0 .nilp) fun g=>
 Zl g
 (some (.nils,H))
 (Tl p0 H H)
theorem A0:Tm x3 H0 H =
 some (x3,H):=Za [3,6,9,10]
theorem A9:To x0 x3 x10 x11 x12 H0 H =
 Z0 (Z5 .add x12 (.int .i64 1)) fun g=>
 Uv x0 x3 x10 x11 g H0 H:=Za [3,6,9,10]
theorem A8:Tn x0 x3 x10 x11 x12 x13 H0 H =
 Z0 (Zo 1 x10 x12) fun w=>
 Z0 (Z4 false 1 w H) fun j=>
 Z0 (Zu x0) fun y=>
 Z0 (Z6 3 y) fun z=>
 Z0 (Z4 false 1 z H) fun A=>
 Z0 (Yd .string .nilp false A j H) fun u=>
 Z0 (Zu u) fun B=>
 Z0 (Z6 0 B) fun C=>
 Z0 (Z4 false 1 C H) fun D=>
 Z0 (Zk (.slice 5) D) fun E=>
 Z0 (Zu u) fun F=>
 Z0 (Z6 1 F) fun I=>
 Z0 (Z4 false 1 I H) fun J=>
 Z0 ((Xh [(0,1,j),(1,1,E),(2,1,J)] [(.str []),(.int .i64 0),(.int .i64 0)]).map .agg) fun K=>
 Z0 ((ZE 3 [(0,K)] [(.agg [(.str []),(.int .i64 0),(.int .i64 0)])]).map (.vs 3 .clip)) fun L=>
 Z0 (Yl 3 32 x3 L H) fun g=>
 To x0 g.1 x10 x11 x12 H0 g.2:=Za [3,6,9,10]
theorem Dm:Uv x0 x3 x10 x11 x12 H0 H =
 Z0 (Z5 .lss x12 x11) fun g=>
 Zl g
 (Tn x0 x3 x10 x11 x12 g H0 H)
 (Tm x3 H0 H):=(ZD (C:=cfg) [3,6,9,10] (Zn 0 (EU H0)) _ _).trans (by kernel_rfl)
theorem HZ:Tl x0 H0 H =
 Z0 (namesE.run [x0] H) fun g=>
 Z0 (Zk (.slice 9) g.1) fun j=>
 Uv x0 .nils g.1 j (.int .i64 0) H0 g.2:=Za [3,6,9,10]
theorem Aw:XV [p0] H=PL p0 H:=Be 38 [3,6,9,10] Tryz.func26
def Ws:Z3:=ZP 39 37 (sub (Z1 Tryz.f39) [1,1]) (Zh cfg 37 39 Tryz.f39 H0) [(0,x0)] H
def RW:Z3:=
 Z0 (Zu p0) fun t5=>
 Z0 (Z6 4 t5) fun S=>
 Z0 (Z4 false 1 S H) fun T=>
 Zl T
 (Ws p0 H H)
 (Z0 (Zu p0) fun w=>
 Z0 (Z6 5 w) fun y=>
 Z0 (Z4 false 1 y H) fun z=>
 Z0 (Z5 .eql z (.int .i64 1)) fun A=>
 Zl A
 (Z0 (Zu p0) fun B=>
 Z0 (Z6 4 B) fun C=>
 Z0 (Ze 1 C (.bool true) H) fun g=>
 Z0 (Zu p0) fun D=>
 Z0 (Z6 5 D) fun E=>
 Z0 (Ze 1 E (.int .i64 0) g.2) fun j=>
 Ws p0 H j.2)
 (Z0 (Zu p0) fun F=>
 Z0 (Z6 5 F) fun I=>
 Z0 (Z4 false 1 I H) fun J=>
 Z0 (Z5 .gtr J (.int .i64 1)) fun K=>
 Zl K
 (Z0 (Zu p0) fun L=>
 Z0 (Z6 5 L) fun M=>
 Z0 (Z4 false 1 M H) fun N=>
 Z0 (Z5 .sub N (.int .i64 1)) fun O=>
 Z0 (Zu p0) fun Q=>
 Z0 (Z6 5 Q) fun R=>
 Z0 (Ze 1 R O H) fun u=>
 Ws p0 H u.2)
 (Ws p0 H H)))
theorem WI:Ws x0 H0 H =
 Z0 (Zu x0) fun g=>
 Z0 (Z6 4 g) fun j=>
 Z0 (Z4 false 1 j H) fun u=>
 some (u,H):=Za [6]
theorem Hn:Uk [p0] H=RW p0 H:=Be 37 [6] Tryz.func39
def BF:Z3:=ZP 40 58 (sub (Z1 Tryz.f40) [1,1]) (Zh cfg 58 40 Tryz.f40 H0) [(0,x0)] H
def Qv:KL:=Zc (Nn 40 58 Tryz.f40 [1,1]) (Zh cfg 58 40 Tryz.f40 H0)
theorem Ad:ZW 58 (Qv H0):=Zy (C:=cfg) (kp:=cfg.keep 40) (sub (Z1 Tryz.f40) [1,1]) (ZB 40 Tryz.f40 H0)
def BH:Z3:=ZP 40 58 (sub (Z1 Tryz.f40) [1,0,1,0,0,1,1,1]) (Zc (U5 40 58 Tryz.f40 [1,0,1,0,0]) (Z7 0 (Qv H0))) [(0,x0),(7,x7),(8,x8)] H
def BG:Z3:=ZP 40 58 (sub (Z1 Tryz.f40) [1,0,1,0,0,1,1]) (Zc (U5 40 58 Tryz.f40 [1,0,1,0,0]) (Z7 0 (Qv H0))) [(0,x0),(7,x7),(8,x8),(9,x9)] H
def Qw:Z3:=Nr 40 58 (sub (Z1 Tryz.f40) [1,0,1,0,0]) (Z7 0 (Qv H0)) [(0,x0),(7,x7),(8,x8)] H
def LE:Z3:=
 Z0 (Zk .string p0) fun g=>
 Qw p0 g (.int .i64 0) H H
theorem OJ:BF x0 H0 H =
 Z0 (YK .neq x0 (.str [])) fun g=>
 Z0 (Z8 g true (.tuple []) (some x0)) fun j=>
 Z0 (Z8 g true (.tuple []) (Zk .string j)) fun u=>
 Z0 (Z8 g true (.tuple []) (Z5 .leq u (.int .i64 32))) fun w=>
 Z0 (Zi g w (.bool false)) fun y=>
 some (y,H):=Za [3,8,9]
theorem RJ:BH x0 x7 x8 H0 H =
 Z0 (Z5 .add x8 (.int .i64 1)) fun g=>
 Qw x0 x7 g H0 H:=Za [3,8,9]
theorem OK:BG x0 x7 x8 x9 H0 H =
 Z0 (Zw x0 x8) fun g=>
 Z0 (Z5 .geq g (.int .u8 97)) fun u=>
 Z0 (Z8 u true (.tuple []) (some g)) fun C=>
 Z0 (Z8 u true (.tuple []) (Z5 .leq C (.int .u8 122))) fun D=>
 Z0 (Zi u D (.bool false)) fun j=>
 Z0 (Z8 j false (.tuple []) (some g)) fun E=>
 Z0 (Z8 j false (.tuple []) (Z5 .geq E (.int .u8 65))) fun F=>
 Z0 (Z8 j false (.tuple []) (some F)) fun w=>
 Z0 (Z8 w true (.tuple []) (some g)) fun I=>
 Z0 (Z8 w true (.tuple []) (Z5 .leq I (.int .u8 90))) fun J=>
 Z0 (Z8 j false (.tuple []) (Zi w J (.bool false))) fun K=>
 Z0 (Zi j (.bool true) K) fun y=>
 Z0 (Z8 y false (.tuple []) (some g)) fun L=>
 Z0 (Z8 y false (.tuple []) (Z5 .eql L (.int .u8 95))) fun M=>
 Z0 (Zi y (.bool true) M) fun z=>
 Z0 (Z8 z false (.tuple []) (some g)) fun N=>
 Z0 (Z8 z false (.tuple []) (Z5 .eql N (.int .u8 46))) fun O=>
 Z0 (Zi z (.bool true) O) fun Q=>
 Z0 (Xo .not Q) fun t37=>
 Z0 (Z8 t37 true (.tuple []) (some x8)) fun R=>
 Z0 (Z8 t37 true (.tuple []) (Z5 .eql R (.int .i64 0))) fun S=>
 Z0 (Z8 t37 true (.tuple []) (some S)) fun A=>
 Z0 (Z8 A false (.tuple []) (some g)) fun T=>
 Z0 (Z8 A false (.tuple []) (Z5 .lss T (.int .u8 48))) fun U=>
 Z0 (Z8 t37 true (.tuple []) (Zi A (.bool true) U)) fun V=>
 Z0 (Z8 t37 true (.tuple []) (some V)) fun B=>
 Z0 (Z8 B false (.tuple []) (some g)) fun W=>
 Z0 (Z8 B false (.tuple []) (Z5 .gtr W (.int .u8 57))) fun X=>
 Z0 (Z8 t37 true (.tuple []) (Zi B (.bool true) X)) fun Y=>
 Z0 (Zi t37 Y (.bool false)) fun Z=>
 Zl Z
 (some ((.bool false),H))
 (BH x0 x7 x8 H0 H):=Za [3,8,9]
theorem VI:Qw x0 x7 x8 H0 H =
 Z0 (Z5 .lss x8 x7) fun t9=>
 Zl t9
 (BG x0 x7 x8 t9 H0 H)
 (BF x0 H0 H):=(ZD (C:=cfg) [3,8,9] (Zn 0 (Ad H0)) _ _).trans (by kernel_rfl)
theorem Zax:DN [p0] H=LE p0 H:=Be 58 [3,8,9] Tryz.func40
def Tt:Z3:=ZP 41 20 (sub (Z1 Tryz.f41) [1,1,1,1,1]) (Zh cfg 20 41 Tryz.f41 H0) [(6,x6)] H
def Ts:Z3:=ZP 41 20 (sub (Z1 Tryz.f41) [1,1,1]) (Zh cfg 20 41 Tryz.f41 H0) [(0,x0),(1,x1)] H
def Tr:Z3:=ZP 41 20 (sub (Z1 Tryz.f41) [1,1]) (Zh cfg 20 41 Tryz.f41 H0) [(0,x0),(1,x1)] H
def PP:Z3:=
 Z0 (YC (.pointer 82) .eql p0 .nilp) fun g=>
 Zl g
 (some ((.tuple [.nilp,(.int .i64 5)]),H))
 (Tr p0 p1 H H)
theorem Ac:Tt x6 H0 H =
 some ((.tuple [x6,(.int .i64 0)]),H):=Za [3,5,8]
theorem Dn:Ts x0 x1 H0 H =
 Z0 (Zu x0) fun j=>
 Z0 (Z6 3 j) fun u=>
 Z0 (Z4 false 1 u H) fun w=>
 Z0 (Yd .string .nilp false w x1 H) fun g=>
 Z0 (YC (.pointer 86) .eql g .nilp) fun y=>
 Zl y
 (some ((.tuple [.nilp,(.int .i64 5)]),H))
 (Tt g H0 H):=Za [3,5,8]
theorem Qi:Tr x0 x1 H0 H =
 Z0 (Uk [x0] H) fun g=>
 Zl g.1
 (some ((.tuple [.nilp,(.int .i64 19)]),g.2))
 (Ts x0 x1 H0 g.2):=Za [3,5,8]
theorem AA:XW [p0,p1] H=PP p0 p1 H:=Be 20 [3,5,8] Tryz.func41
def Jx:Z3:=ZP 43 39 (sub (Z1 Tryz.f43) [1,1,1,1]) (Zh cfg 39 43 Tryz.f43 H0) [(0,x0),(1,x1),(2,x2)] H
def Jy:KL:=Zc (Nn 43 39 Tryz.f43 [1,1,1,1]) (Zh cfg 39 43 Tryz.f43 H0)
theorem Ir:ZW 39 (Jy H0):=Zy (C:=cfg) (kp:=cfg.keep 43) (sub (Z1 Tryz.f43) [1,1,1,1]) (ZB 43 Tryz.f43 H0)
def S5:Z3:=ZP 43 39 (sub (Z1 Tryz.f43) [1,1,1,0,1,0,0,1,1,1]) (Zc (U5 43 39 Tryz.f43 [1,1,1,0,1,0,0]) (Z7 0 (Jy H0))) [(0,x0),(1,x1),(2,x2),(18,x18),(19,x19),(20,x20)] H
def S4:Z3:=ZP 43 39 (sub (Z1 Tryz.f43) [1,1,1,0,1,0,0,1,1]) (Zc (U5 43 39 Tryz.f43 [1,1,1,0,1,0,0]) (Z7 0 (Jy H0))) [(0,x0),(1,x1),(2,x2),(18,x18),(19,x19),(20,x20),(21,x21)] H
def Jz:Z3:=Nr 43 39 (sub (Z1 Tryz.f43) [1,1,1,0,1,0,0]) (Z7 0 (Jy H0)) [(0,x0),(1,x1),(2,x2),(18,x18),(19,x19),(20,x20)] H
def EZ:Z3:=ZP 43 39 (sub (Z1 Tryz.f43) [1,1,1]) (Zh cfg 39 43 Tryz.f43 H0) [(0,x0),(1,x1),(2,x2)] H
def EY:Z3:=ZP 43 39 (sub (Z1 Tryz.f43) [1,1]) (Zh cfg 39 43 Tryz.f43 H0) [(0,x0),(1,x1),(2,x2)] H
def SP:Z3:=
 Z0 (YC (.pointer 82) .eql p0 .nilp) fun g=>
 Zl g
 (some ((.tuple [.nilp,(.int .i64 5)]),H))
 (EY p0 p1 p2 H H)
theorem Zba:Jx x0 x1 x2 H0 H =
 Z0 (some ((.map H.length),H++[.map [] 0])) fun g=>
 Z0 ((Xh [(0,1,x0),(1,1,x1),(3,1,g.1)] [.nilp,(.str []),.nils,.nilm]).map .agg) fun u=>
 Z0 (Kd (.int .i64 0) x2) fun w=>
 Z0 ((Xh [(0,4,u),(4,1,w)] [.nilp,(.str []),.nils,.nilm,(.int .i64 0),(.int .i64 0),(.bool false)]).map .agg) fun t37=>
 Z0 (ZM t37 g.2) fun j=>
 some ((.tuple [j.1,(.int .i64 0)]),j.2):=Za [3,5,7,11,12]
theorem Zbb:S5 x0 x1 x2 x18 x19 x20 H0 H =
 Z0 (Z5 .add x20 (.int .i64 1)) fun g=>
 Jz x0 x1 x2 x18 x19 g H0 H:=Za [3,5,7,11,12]
theorem Tw:S4 x0 x1 x2 x18 x19 x20 x21 H0 H =
 Z0 (Zo 1 x18 x20) fun j=>
 Z0 (Z4 false 1 j H) fun u=>
 Z0 (Wd [x0,u] H) fun g=>
 Z0 (Z5 .neq g.1 (.int .i64 0)) fun w=>
 Zl w
 (some ((.tuple [.nilp,g.1]),g.2))
 (S5 x0 x1 x2 x18 x19 x20 H0 g.2):=Za [3,5,7,11,12]
theorem Tx:Jz x0 x1 x2 x18 x19 x20 H0 H =
 Z0 (Z5 .lss x20 x19) fun g=>
 Zl g
 (S4 x0 x1 x2 x18 x19 x20 g H0 H)
 (Jx x0 x1 x2 H0 H):=(ZD (C:=cfg) [3,5,7,11,12] (Zn 0 (Ir H0)) _ _).trans (by kernel_rfl)
theorem Tv:EZ x0 x1 x2 H0 H =
 Z0 (QN Kb [x0,x1] H) fun g=>
 Z0 (Zk (.slice 9) g.1) fun j=>
 Jz x0 x1 x2 g.1 j (.int .i64 0) H0 g.2:=Za [3,5,7,11,12]
theorem K8:EY x0 x1 x2 H0 H =
 Z0 (Zf U3 [x1] H) fun g=>
 Z0 (Xo .not g.1) fun j=>
 Zl j
 (some ((.tuple [.nilp,(.int .i64 4)]),g.2))
 (EZ x0 x1 x2 H0 g.2):=Za [3,5,7,11,12]
theorem Zbu:UN [p0,p1,p2] H=SP p0 p1 p2 H:=Be 39 [3,5,7,11,12] Tryz.func43
def B7:Z3:=ZP 45 47 (sub (Z1 Tryz.f45) [1,1,1,1]) (Zh cfg 47 45 Tryz.f45 H0) [(0,x0)] H
def WJ:KL:=Zc (Nn 45 47 Tryz.f45 [1,1,1,1]) (Zh cfg 47 45 Tryz.f45 H0)
theorem Pi:ZW 47 (WJ H0):=Zy (C:=cfg) (kp:=cfg.keep 45) (sub (Z1 Tryz.f45) [1,1,1,1]) (ZB 45 Tryz.f45 H0)
def B9:Z3:=ZP 45 47 (sub (Z1 Tryz.f45) [1,1,1,0,0,0,1,0,1,1]) (Z7 1 (Zc (U5 45 47 Tryz.f45 [1,1,1,0,0,0]) (Z7 0 (WJ H0)))) [(0,x0),(3,x3)] H
def B8:Z3:=ZP 45 47 (sub (Z1 Tryz.f45) [1,1,1,0,0,0,1]) (Zc (U5 45 47 Tryz.f45 [1,1,1,0,0,0]) (Z7 0 (WJ H0))) [(0,x0)] H
def WK:Z3:=Nr 45 47 (sub (Z1 Tryz.f45) [1,1,1,0,0,0]) (Z7 0 (WJ H0)) [(0,x0)] H
def B6:Z3:=ZP 45 47 (sub (Z1 Tryz.f45) [1,1,1]) (Zh cfg 47 45 Tryz.f45 H0) [(0,x0)] H
def B5:Z3:=ZP 45 47 (sub (Z1 Tryz.f45) [1,1]) (Zh cfg 47 45 Tryz.f45 H0) [(0,x0)] H
def BS:Z3:=
 Z0 (YC (.pointer 124) .eql p0 .nilp) fun g=>
 Zl g
 (some ((.int .i64 5),H))
 (B5 p0 H H)
theorem NY:B7 x0 H0 H =
 Z0 (Zu x0) fun j=>
 Z0 (Z6 6 j) fun u=>
 Z0 (Ze 1 u (.bool true) H) fun g=>
 some ((.int .i64 0),g.2):=Za [3,5,6,10,11]
theorem M0:B9 x0 x3 H0 H =
 Z0 (Zu x0) fun j=>
 Z0 (Z6 0 j) fun u=>
 Z0 (forgetE.run [u,x3] H) fun g=>
 WK x0 H0 g.2:=Za [3,5,6,10,11]
theorem NZ:B8 x0 H0 H =
 Z0 (Zu x0) fun w=>
 Z0 (Z6 0 w) fun y=>
 Z0 (Z6 2 y) fun z=>
 Z0 (Z4 false 1 z H) fun A=>
 Z0 (Zo 1 A (.int .i64 0)) fun B=>
 Z0 (Z4 false 1 B H) fun u=>
 Z0 (Zu x0) fun C=>
 Z0 (Z6 0 C) fun D=>
 Z0 (Z6 0 D) fun E=>
 Z0 (Z4 false 1 E H) fun F=>
 Z0 (Wd [F,u] H) fun g=>
 Z0 (Z5 .neq g.1 (.int .i64 0)) fun j=>
 Z0 (Z8 j true (.tuple []) (some g.1)) fun I=>
 Z0 (Z8 j true (.tuple []) (Z5 .neq I (.int .i64 5))) fun J=>
 Z0 (Zi j J (.bool false)) fun t37=>
 Zl t37
 (some (g.1,g.2))
 (B9 x0 u H0 g.2):=Za [3,5,6,10,11]
theorem JP:WK x0 H0 H =
 Z0 (Zu x0) fun g=>
 Z0 (Z6 0 g) fun j=>
 Z0 (Z6 2 j) fun u=>
 Z0 (Z4 false 1 u H) fun w=>
 Z0 (Zk (.slice 9) w) fun y=>
 Z0 (Z5 .gtr y (.int .i64 0)) fun z=>
 Zl z
 (B8 x0 H0 H)
 (B7 x0 H0 H):=(ZD (C:=cfg) [3,5,6,10,11] (Zn 0 (Pi H0)) _ _).trans (by kernel_rfl)
theorem NX:B6 x0 H0 H =
 WK x0 H0 H:=Za [3,5,6,10,11]
theorem NW:B5 x0 H0 H =
 Z0 (Zu x0) fun j=>
 Z0 (Z6 6 j) fun t9=>
 Z0 (Z4 false 1 t9 H) fun g=>
 Zl g
 (some ((.int .i64 8),H))
 (B6 x0 H0 H):=Za [3,5,6,10,11]
theorem Mz:WW [p0] H=BS p0 H:=Be 47 [3,5,6,10,11] Tryz.func45
def EW:Z3:=ZP 50 56 (sub (Z1 Tryz.f50) [1,1,1,1,1]) (Zh cfg 56 50 Tryz.f50 H0) [(5,x5)] H
def Jv:KL:=Zc (Nn 50 56 Tryz.f50 [1,1,1,1,1]) (Zh cfg 56 50 Tryz.f50 H0)
theorem Iq:ZW 56 (Jv H0):=Zy (C:=cfg) (kp:=cfg.keep 50) (sub (Z1 Tryz.f50) [1,1,1,1,1]) (ZB 50 Tryz.f50 H0)
def F6:Z3:=ZP 50 56 (sub (Z1 Tryz.f50) [1,1,1,1,0,1,0,0,1,1,1]) (Zc (U5 50 56 Tryz.f50 [1,1,1,1,0,1,0,0]) (Z7 0 (Jv H0))) [(5,x5),(6,x6),(21,x21),(22,x22),(23,x23)] H
def EX:Z3:=ZP 50 56 (sub (Z1 Tryz.f50) [1,1,1,1,0,1,0,0,1,1]) (Zc (U5 50 56 Tryz.f50 [1,1,1,1,0,1,0,0]) (Z7 0 (Jv H0))) [(5,x5),(6,x6),(21,x21),(22,x22),(23,x23),(24,x24)] H
def Jw:Z3:=Nr 50 56 (sub (Z1 Tryz.f50) [1,1,1,1,0,1,0,0]) (Z7 0 (Jv H0)) [(5,x5),(6,x6),(21,x21),(22,x22),(23,x23)] H
def EV:Z3:=ZP 50 56 (sub (Z1 Tryz.f50) [1,1,1]) (Zh cfg 56 50 Tryz.f50 H0) [(0,x0),(1,x1),(5,x5)] H
def FS:Z3:=
 Z0 (YC (.pointer 82) .eql p0 .nilp) fun g=>
 Z0 (Z8 g false (.tuple []) (some p1)) fun u=>
 Z0 (Z8 g false ((.tuple []),H) (Zf U3 [u] H)) fun j=>
 Z0 (Z8 g false (.tuple []) (Xo .not j.1)) fun w=>
 Z0 (Zi g (.bool true) w) fun y=>
 Zl y
 (some (.nils,j.2))
 (EV p0 p1 .nils H j.2)
theorem Zb8:EW x5 H0 H =
 some (x5,H):=Za [4,7,11,12]
theorem Uw:F6 x5 x6 x21 x22 x23 H0 H =
 Z0 (Z5 .add x23 (.int .i64 1)) fun g=>
 Jw x5 x6 x21 x22 g H0 H:=Za [4,7,11,12]
theorem Zb9:EX x5 x6 x21 x22 x23 x24 H0 H =
 Z0 (Zo 3 x21 x23) fun B=>
 Z0 (Z4 true 3 B H) fun C=>
 Z0 (some ((.ptr H.length 0),H++[.cells [(.str []),(.int .i64 0),(.int .i64 0)]])) fun z=>
 Z0 (Ze 3 z.1 C z.2) fun u=>
 Z0 (Zk .string x6) fun y=>
 Z0 (Z6 0 z.1) fun D=>
 Z0 (Z4 false 1 D u.2) fun E=>
 Z0 (Zk .string E) fun F=>
 Z0 (Z5 .gtr F y) fun g=>
 Z0 (Z8 g true (.tuple []) (Z6 0 z.1)) fun I=>
 Z0 (Z8 g true (.tuple []) (Z4 false 1 I u.2)) fun J=>
 Z0 (Z8 g true (.tuple []) (some y)) fun t37=>
 Z0 (Z8 g true (.tuple []) (Y8 J none (some t37) none)) fun K=>
 Z0 (Z8 g true (.tuple []) (some x6)) fun L=>
 Z0 (Z8 g true (.tuple []) (YK .eql K L)) fun M=>
 Z0 (Zi g M (.bool false)) fun j=>
 Z0 (Z8 j true (.tuple []) (Z6 0 z.1)) fun N=>
 Z0 (Z8 j true (.tuple []) (Z4 false 1 N u.2)) fun O=>
 Z0 (Z8 j true (.tuple []) (some y)) fun Q=>
 Z0 (Z8 j true (.tuple []) (Y8 O (some Q) none none)) fun R=>
 Z0 (Z8 j true ((.tuple []),u.2) (Zf K2 [R] u.2)) fun w=>
 Z0 (Zi j w.1 (.bool false)) fun S=>
 Zl S
 (Z0 (Z6 0 z.1) fun T=>
 Z0 (Z4 false 1 T w.2) fun U=>
 Z0 ((ZE 1 [(0,U)] [(.str [])]).map (.vs 1 .clip)) fun V=>
 Z0 (Yl 1 16 x5 V w.2) fun A=>
 F6 A.1 x6 x21 x22 x23 H0 A.2)
 (F6 x5 x6 x21 x22 x23 H0 w.2):=Za [4,7,11,12]
theorem Tu:Jw x5 x6 x21 x22 x23 H0 H =
 Z0 (Z5 .lss x23 x22) fun g=>
 Zl g
 (EX x5 x6 x21 x22 x23 g H0 H)
 (EW x5 H0 H):=(ZD (C:=cfg) [4,7,11,12] (Zn 0 (Iq H0)) _ _).trans (by kernel_rfl)
theorem Zb7:EV x0 x1 x5 H0 H =
 Z0 (Zf Qk [x1] H) fun j=>
 Z0 (QN XV [x0] j.2) fun g=>
 Z0 (Zk (.slice 108) g.1) fun u=>
 Jw x5 j.1 g.1 u (.int .i64 0) H0 g.2:=Za [4,7,11,12]
theorem PQ:Kb [p0,p1] H=FS p0 p1 H:=Be 56 [4,7,11,12] Tryz.func50
def QQ:Z3:=ZP 51 19 (sub (Z1 Tryz.f51) [1,1,1]) (Zh cfg 19 51 Tryz.f51 H0) [(6,x6)] H
def FQ:Z3:=
 Z0 (XW [p0,p1] H) fun g=>
 Z0 (ZQ g.1 0) fun y=>
 Z0 (ZQ g.1 1) fun j=>
 Z0 (Z5 .eql j (.int .i64 0)) fun w=>
 Zl w
 (Z0 (KH [p0,p1] g.2) fun u=>
 QQ j H u.2)
 (QQ j H g.2)
theorem Ue:QQ x6 H0 H =
 some (x6,H):=Za [4]
theorem Sg:Wd [p0,p1] H=FQ p0 p1 H:=Be 19 [4] Tryz.func51
def BI:Z3:=ZP 72 54 (sub (Z1 Tryz.f72) [1,1]) (Zh cfg 54 72 Tryz.f72 H0) [(0,x0)] H
def Qx:KL:=Zc (Nn 72 54 Tryz.f72 [1,1]) (Zh cfg 54 72 Tryz.f72 H0)
theorem Af:ZW 54 (Qx H0):=Zy (C:=cfg) (kp:=cfg.keep 72) (sub (Z1 Tryz.f72) [1,1]) (ZB 72 Tryz.f72 H0)
def BK:Z3:=ZP 72 54 (sub (Z1 Tryz.f72) [1,0,1,0,0,1,1,1]) (Zc (U5 72 54 Tryz.f72 [1,0,1,0,0]) (Z7 0 (Qx H0))) [(0,x0),(7,x7),(8,x8)] H
def BJ:Z3:=ZP 72 54 (sub (Z1 Tryz.f72) [1,0,1,0,0,1,1]) (Zc (U5 72 54 Tryz.f72 [1,0,1,0,0]) (Z7 0 (Qx H0))) [(0,x0),(7,x7),(8,x8),(9,x9)] H
def Qy:Z3:=Nr 72 54 (sub (Z1 Tryz.f72) [1,0,1,0,0]) (Z7 0 (Qx H0)) [(0,x0),(7,x7),(8,x8)] H
def LI:Z3:=
 Z0 (Zk .string p0) fun g=>
 Qy p0 g (.int .i64 0) H H
theorem ON:BI x0 H0 H =
 Z0 (YK .neq x0 (.str [])) fun g=>
 Z0 (Z8 g true (.tuple []) (some x0)) fun j=>
 Z0 (Z8 g true (.tuple []) (Zk .string j)) fun u=>
 Z0 (Z8 g true (.tuple []) (Z5 .leq u (.int .i64 16))) fun w=>
 Z0 (Zi g w (.bool false)) fun y=>
 some (y,H):=Za [3,8,9]
theorem RN:BK x0 x7 x8 H0 H =
 Z0 (Z5 .add x8 (.int .i64 1)) fun g=>
 Qy x0 x7 g H0 H:=Za [3,8,9]
theorem OO:BJ x0 x7 x8 x9 H0 H =
 Z0 (Zw x0 x8) fun g=>
 Z0 (Z5 .eql g (.int .u8 95)) fun u=>
 Z0 (Z8 u false (.tuple []) (some g)) fun B=>
 Z0 (Z8 u false (.tuple []) (Z5 .geq B (.int .u8 97))) fun C=>
 Z0 (Z8 u false (.tuple []) (some C)) fun y=>
 Z0 (Z8 y true (.tuple []) (some g)) fun D=>
 Z0 (Z8 y true (.tuple []) (Z5 .leq D (.int .u8 122))) fun E=>
 Z0 (Z8 u false (.tuple []) (Zi y E (.bool false))) fun F=>
 Z0 (Zi u (.bool true) F) fun w=>
 Z0 (Z8 w false (.tuple []) (some g)) fun I=>
 Z0 (Z8 w false (.tuple []) (Z5 .geq I (.int .u8 65))) fun J=>
 Z0 (Z8 w false (.tuple []) (some J)) fun z=>
 Z0 (Z8 z true (.tuple []) (some g)) fun K=>
 Z0 (Z8 z true (.tuple []) (Z5 .leq K (.int .u8 90))) fun L=>
 Z0 (Z8 w false (.tuple []) (Zi z L (.bool false))) fun M=>
 Z0 (Zi w (.bool true) M) fun N=>
 Z0 (Xo .not N) fun j=>
 Z0 (Z8 j true (.tuple []) (some x8)) fun O=>
 Z0 (Z8 j true (.tuple []) (Z5 .eql O (.int .i64 0))) fun Q=>
 Z0 (Z8 j true (.tuple []) (some Q)) fun t37=>
 Z0 (Z8 t37 false (.tuple []) (some g)) fun R=>
 Z0 (Z8 t37 false (.tuple []) (Z5 .lss R (.int .u8 48))) fun S=>
 Z0 (Z8 j true (.tuple []) (Zi t37 (.bool true) S)) fun T=>
 Z0 (Z8 j true (.tuple []) (some T)) fun A=>
 Z0 (Z8 A false (.tuple []) (some g)) fun U=>
 Z0 (Z8 A false (.tuple []) (Z5 .gtr U (.int .u8 57))) fun V=>
 Z0 (Z8 j true (.tuple []) (Zi A (.bool true) V)) fun W=>
 Z0 (Zi j W (.bool false)) fun X=>
 Zl X
 (some ((.bool false),H))
 (BK x0 x7 x8 H0 H):=Za [3,8,9]
theorem VL:Qy x0 x7 x8 H0 H =
 Z0 (Z5 .lss x8 x7) fun t9=>
 Zl t9
 (BJ x0 x7 x8 t9 H0 H)
 (BI x0 H0 H):=(ZD (C:=cfg) [3,8,9] (Zn 0 (Af H0)) _ _).trans (by kernel_rfl)
theorem Zay:U3 [p0] H=LI p0 H:=Be 54 [3,8,9] Tryz.func72
def Mc:Z3:=
 Z0 (YK .add (.str [46,116,109,112,46]) p0) fun t4=>
 Z0 (YK .add t4 (.str [46])) fun t5=>
 some (t5,H)
theorem IB:Qk [p0] H=Mc p0 H:=Be 6 [] Tryz.func83
def JA:Z3:=ZP 84 27 (sub (Z1 Tryz.f84) [1,1]) (Zh cfg 27 84 Tryz.f84 H0) [(0,x0)] H
def VJ:KL:=Zc (Nn 84 27 Tryz.f84 [1,1]) (Zh cfg 27 84 Tryz.f84 H0)
theorem Lh:ZW 27 (VJ H0):=Zy (C:=cfg) (kp:=cfg.keep 84) (sub (Z1 Tryz.f84) [1,1]) (ZB 84 Tryz.f84 H0)
def RM:Z3:=ZP 84 27 (sub (Z1 Tryz.f84) [1,0,1,0,0,1,1,1]) (Zc (U5 84 27 Tryz.f84 [1,0,1,0,0]) (Z7 0 (VJ H0))) [(0,x0),(5,x5),(6,x6)] H
def RL:Z3:=ZP 84 27 (sub (Z1 Tryz.f84) [1,0,1,0,0,1,1]) (Zc (U5 84 27 Tryz.f84 [1,0,1,0,0]) (Z7 0 (VJ H0))) [(0,x0),(5,x5),(6,x6),(7,x7)] H
def VK:Z3:=Nr 84 27 (sub (Z1 Tryz.f84) [1,0,1,0,0]) (Z7 0 (VJ H0)) [(0,x0),(5,x5),(6,x6)] H
def RY:Z3:=
 Z0 (Zk .string p0) fun t5=>
 VK p0 t5 (.int .i64 0) H H
theorem SC:JA x0 H0 H =
 Z0 (YK .neq x0 (.str [])) fun g=>
 Z0 (Z8 g true (.tuple []) (some x0)) fun j=>
 Z0 (Z8 g true (.tuple []) (Zw j (.int .i64 0))) fun u=>
 Z0 (Z8 g true (.tuple []) (Z5 .neq u (.int .u8 48))) fun w=>
 Z0 (Zi g w (.bool false)) fun y=>
 some (y,H):=Za [3,6,7]
theorem SE:RM x0 x5 x6 H0 H =
 Z0 (Z5 .add x6 (.int .i64 1)) fun g=>
 VK x0 x5 g H0 H:=Za [3,6,7]
theorem SD:RL x0 x5 x6 x7 H0 H =
 Z0 (Zw x0 x6) fun j=>
 Z0 (Z5 .lss j (.int .u8 48)) fun g=>
 Z0 (Z8 g false (.tuple []) (some x0)) fun u=>
 Z0 (Z8 g false (.tuple []) (some x6)) fun w=>
 Z0 (Z8 g false (.tuple []) (Zw u w)) fun y=>
 Z0 (Z8 g false (.tuple []) (Z5 .gtr y (.int .u8 57))) fun z=>
 Z0 (Zi g (.bool true) z) fun A=>
 Zl A
 (some ((.bool false),H))
 (RM x0 x5 x6 H0 H):=Za [3,6,7]
theorem Bg:VK x0 x5 x6 H0 H =
 Z0 (Z5 .lss x6 x5) fun g=>
 Zl g
 (RL x0 x5 x6 g H0 H)
 (JA x0 H0 H):=(ZD (C:=cfg) [3,6,7] (Zn 0 (Lh H0)) _ _).trans (by kernel_rfl)
theorem Hq:K2 [p0] H=RY p0 H:=Be 27 [3,6,7] Tryz.func84
def PO:Z3:=
 Z0 (Zu p0) fun N=>
 Z0 (Z6 3 N) fun O=>
 Z0 (Z4 false 1 O H) fun Q=>
 Z0 (Yd .string .nilp false Q p1 H) fun u=>
 Z0 (YC (.pointer 86) .neq u .nilp) fun w=>
 Zl w
 (Z0 (Zu p0) fun y=>
 Z0 (Z6 1 y) fun z=>
 Z0 (Z4 false 1 z H) fun A=>
 Z0 (Zu u) fun B=>
 Z0 (Z6 0 B) fun C=>
 Z0 (Z4 false 1 C H) fun D=>
 Z0 (Zk (.slice 5) D) fun E=>
 Z0 (Z5 .sub A E) fun F=>
 Z0 (Zu p0) fun I=>
 Z0 (Z6 1 I) fun J=>
 Z0 (Ze 1 J F H) fun g=>
 Z0 (Zu p0) fun K=>
 Z0 (Z6 3 K) fun L=>
 Z0 (Z4 false 1 L g.2) fun M=>
 Z0 (QH .string M p1 g.2) fun j=>
 some ((.tuple []),j.2))
 (some ((.tuple []),H))
theorem Az:KH [p0,p1] H=PO p0 p1 H:=Be 30 [] Tryz.func85
def Fx:Z3:=ZP 97 63 (sub (Z1 Tryz.f97) [1,1,1,1,1]) (Zh cfg 63 97 Tryz.f97 H0) [(0,x0),(4,x4)] H
def Fw:Z3:=ZP 97 63 (sub (Z1 Tryz.f97) [1,1,1]) (Zh cfg 63 97 Tryz.f97 H0) [(0,x0)] H
def Fu:Z3:=ZP 97 63 (sub (Z1 Tryz.f97) [1,1]) (Zh cfg 63 97 Tryz.f97 H0) [(0,x0)] H
def FT:Z3:=
 Z0 (YC (.pointer 124) .eql p0 .nilp) fun g=>
 Zl g
 (some ((.tuple [(.str []),(.int .i64 5)]),H))
 (Fu p0 H H)
theorem S9:Fx x0 x4 H0 H =
 Z0 (Zu x0) fun w=>
 Z0 (Z6 5 w) fun y=>
 Z0 (Z4 false 1 y H) fun z=>
 Z0 (Z5 .add z (.int .i64 1)) fun A=>
 Z0 (Zu x0) fun B=>
 Z0 (Z6 5 B) fun C=>
 Z0 (Ze 1 C A H) fun g=>
 Z0 (Zu x0) fun D=>
 Z0 (Z6 0 D) fun E=>
 Z0 (Z6 2 E) fun F=>
 Z0 (Z4 false 1 F g.2) fun I=>
 Z0 ((ZE 1 [(0,x4)] [(.str [])]).map (.vs 1 .clip)) fun J=>
 Z0 (Yl 1 16 I J g.2) fun j=>
 Z0 (Zu x0) fun K=>
 Z0 (Z6 0 K) fun L=>
 Z0 (Z6 2 L) fun M=>
 Z0 (Ze 1 M j.1 j.2) fun u=>
 some ((.tuple [x4,(.int .i64 0)]),u.2):=Za [3,5,9]
theorem KZ:Fw x0 H0 H =
 Z0 (Zu x0) fun y=>
 Z0 (Z6 0 y) fun z=>
 Z0 (Z6 1 z) fun A=>
 Z0 (Z4 false 1 A H) fun B=>
 Z0 (Zf Qk [B] H) fun j=>
 Z0 (Zu x0) fun C=>
 Z0 (Z6 5 C) fun D=>
 Z0 (Z4 false 1 D j.2) fun E=>
 Z0 (Z5 .add E (.int .i64 1)) fun F=>
 Z0 (Zf Ls [F] j.2) fun u=>
 Z0 (YK .add j.1 u.1) fun w=>
 Z0 (Zu x0) fun I=>
 Z0 (Z6 0 I) fun J=>
 Z0 (Z6 0 J) fun K=>
 Z0 (Z4 false 1 K u.2) fun t37=>
 Z0 (Wc [t37,w] u.2) fun g=>
 Z0 (Z5 .neq g.1 (.int .i64 0)) fun L=>
 Zl L
 (some ((.tuple [(.str []),g.1]),g.2))
 (Fx x0 w H0 g.2):=Za [3,5,9]
theorem Uf:Fu x0 H0 H =
 Z0 (Zu x0) fun t9=>
 Z0 (Z6 6 t9) fun j=>
 Z0 (Z4 false 1 j H) fun g=>
 Z0 (Z8 g false (.tuple []) (some x0)) fun u=>
 Z0 (Z8 g false (.tuple []) (Zu u)) fun w=>
 Z0 (Z8 g false (.tuple []) (Z6 0 w)) fun y=>
 Z0 (Z8 g false (.tuple []) (Z6 0 y)) fun z=>
 Z0 (Z8 g false (.tuple []) (Z4 false 1 z H)) fun A=>
 Z0 (Z8 g false (.tuple []) (YC (.pointer 82) .eql A .nilp)) fun B=>
 Z0 (Zi g (.bool true) B) fun C=>
 Zl C
 (some ((.tuple [(.str []),(.int .i64 8)]),H))
 (Fw x0 H0 H):=Za [3,5,9]
theorem Sh:Vx [p0] H=FT p0 H:=Be 63 [3,5,9] Tryz.func97
def Bf:Z3:=ZP 98 51 (sub (Z1 Tryz.f98) [1,1,1,1,1,1]) (Zh cfg 51 98 Tryz.f98 H0) [(0,x0),(1,x1),(8,x8)] H
def Bc:Z3:=ZP 98 51 (sub (Z1 Tryz.f98) [1,1,1,1,1]) (Zh cfg 51 98 Tryz.f98 H0) [(0,x0),(1,x1),(8,x8)] H
def Bb:Z3:=ZP 98 51 (sub (Z1 Tryz.f98) [1,1,1]) (Zh cfg 51 98 Tryz.f98 H0) [(0,x0),(1,x1),(2,x2)] H
def Ba:Z3:=ZP 98 51 (sub (Z1 Tryz.f98) [1,1]) (Zh cfg 51 98 Tryz.f98 H0) [(0,x0),(1,x1),(2,x2)] H
def BT:Z3:=
 Z0 (Xd [p0,p1] H) fun g=>
 Z0 (Z5 .neq g.1 (.int .i64 0)) fun j=>
 Zl j
 (some (g.1,g.2))
 (Ba p0 p1 p2 H g.2)
theorem M1:Bf x0 x1 x8 H0 H =
 Z0 (Zu x0) fun j=>
 Z0 (Z6 0 j) fun u=>
 Z0 (Z6 0 u) fun w=>
 Z0 (Z4 false 1 w H) fun y=>
 Z0 (Wb [y,x1,x8] H) fun g=>
 some (g.1,g.2):=Za [4,6,9,11]
theorem JQ:Bc x0 x1 x8 H0 H =
 Z0 (Zk .string x8) fun j=>
 Z0 (Zu x0) fun u=>
 Z0 (Z6 4 u) fun w=>
 Z0 (Z4 false 1 w H) fun y=>
 Z0 (Zu x0) fun z=>
 Z0 (Z6 0 z) fun A=>
 Z0 (QN XA [A] H) fun g=>
 Z0 (Z5 .sub y g.1) fun B=>
 Z0 (Z5 .gtr j B) fun C=>
 Zl C
 (some ((.int .i64 11),g.2))
 (Bf x0 x1 x8 H0 g.2):=Za [4,6,9,11]
theorem Vq:Bb x0 x1 x2 H0 H =
 Z0 (Zf TA [x2] H) fun g=>
 Z0 (ZQ g.1 0) fun u=>
 Z0 (ZQ g.1 1) fun j=>
 Z0 (Z5 .neq j (.int .i64 0)) fun w=>
 Zl w
 (some (j,g.2))
 (Bc x0 x1 u H0 g.2):=Za [4,6,9,11]
theorem XN:Ba x0 x1 x2 H0 H =
 Z0 (Zu x0) fun g=>
 Z0 (Z6 0 g) fun j=>
 Z0 (Z6 3 j) fun u=>
 Z0 (Z4 false 1 u H) fun w=>
 Z0 (Yd .string (.bool false) false w x1 H) fun y=>
 Zl y
 (some ((.int .i64 8),H))
 (Bb x0 x1 x2 H0 H):=Za [4,6,9,11]
theorem MA:WX [p0,p1,p2] H=BT p0 p1 p2 H:=Be 51 [4,6,9,11] Tryz.func98
def Dt:Z3:=ZP 99 29 (sub (Z1 Tryz.f99) [1,1,1]) (Zh cfg 29 99 Tryz.f99 H0) [(0,x0),(1,x1)] H
def Ds:Z3:=ZP 99 29 (sub (Z1 Tryz.f99) [1,1]) (Zh cfg 29 99 Tryz.f99 H0) [(0,x0),(1,x1)] H
def Fd:Z3:=
 Z0 (Xd [p0,p1] H) fun g=>
 Z0 (Z5 .neq g.1 (.int .i64 0)) fun j=>
 Zl j
 (some (g.1,g.2))
 (Ds p0 p1 H g.2)
theorem Ld:Dt x0 x1 H0 H =
 Z0 (Zu x0) fun j=>
 Z0 (Z6 0 j) fun u=>
 Z0 (Z6 3 u) fun w=>
 Z0 (Z4 false 1 w H) fun y=>
 Z0 (Xp .string y x1 (.bool true) H) fun g=>
 some ((.int .i64 0),g.2):=Za [4,7]
theorem KA:Ds x0 x1 H0 H =
 Z0 (Zu x0) fun j=>
 Z0 (Z6 0 j) fun u=>
 Z0 (Z6 0 u) fun w=>
 Z0 (Z4 false 1 w H) fun y=>
 Z0 (KG [y,x1] H) fun g=>
 Z0 (Z5 .neq g.1 (.int .i64 0)) fun z=>
 Zl z
 (some (g.1,g.2))
 (Dt x0 x1 H0 g.2):=Za [4,7]
theorem LF:Vf [p0,p1] H=Fd p0 p1 H:=Be 29 [4,7] Tryz.func99
def Du:Z3:=ZP 100 23 (sub (Z1 Tryz.f100) [1,1]) (Zh cfg 23 100 Tryz.f100 H0) [(0,x0)] H
def Fe:Z3:=
 Z0 (YC (.pointer 124) .eql p0 .nilp) fun t4=>
 Z0 (Z8 t4 false (.tuple []) (some p0)) fun C=>
 Z0 (Z8 t4 false (.tuple []) (Zu C)) fun D=>
 Z0 (Z8 t4 false (.tuple []) (Z6 6 D)) fun E=>
 Z0 (Z8 t4 false (.tuple []) (Z4 false 1 E H)) fun t9=>
 Z0 (Zi t4 (.bool true) t9) fun g=>
 Z0 (Z8 g false (.tuple []) (some p0)) fun j=>
 Z0 (Z8 g false (.tuple []) (Zu j)) fun u=>
 Z0 (Z8 g false (.tuple []) (Z6 0 u)) fun w=>
 Z0 (Z8 g false (.tuple []) (Z6 0 w)) fun y=>
 Z0 (Z8 g false (.tuple []) (Z4 false 1 y H)) fun z=>
 Z0 (Z8 g false (.tuple []) (YC (.pointer 82) .eql z .nilp)) fun A=>
 Z0 (Zi g (.bool true) A) fun B=>
 Zl B
 (some ((.int .i64 0),H))
 (Du p0 H H)
theorem Lf:Du x0 H0 H =
 Z0 (Zu x0) fun j=>
 Z0 (Z6 0 j) fun u=>
 Z0 (QN XA [u] H) fun g=>
 some (g.1,g.2):=Za [3]
theorem LG:QC [p0] H=Fe p0 H:=Be 23 [3] Tryz.func100
def G1:Z3:=ZP 102 28 (sub (Z1 Tryz.f102) [1,1,1]) (Zh cfg 28 102 Tryz.f102 H0) [(0,x0),(1,x1)] H
def G0:Z3:=ZP 102 28 (sub (Z1 Tryz.f102) [1,1]) (Zh cfg 28 102 Tryz.f102 H0) [(0,x0),(1,x1)] H
def GC:Z3:=
 Z0 (Xd [p0,p1] H) fun g=>
 Z0 (Z5 .neq g.1 (.int .i64 0)) fun j=>
 Zl j
 (some (g.1,g.2))
 (G0 p0 p1 H g.2)
theorem Nl:G1 x0 x1 H0 H =
 Z0 (Zu x0) fun j=>
 Z0 (Z6 0 j) fun u=>
 Z0 (forgetE.run [u,x1] H) fun g=>
 some ((.int .i64 0),g.2):=Za [4,7]
theorem Nk:G0 x0 x1 H0 H =
 Z0 (Zu x0) fun j=>
 Z0 (Z6 0 j) fun u=>
 Z0 (Z6 0 u) fun w=>
 Z0 (Z4 false 1 w H) fun y=>
 Z0 (Wd [y,x1] H) fun g=>
 Z0 (Z5 .neq g.1 (.int .i64 0)) fun z=>
 Zl z
 (some (g.1,g.2))
 (G1 x0 x1 H0 g.2):=Za [4,7]
theorem Nq:Uz [p0,p1] H=GC p0 p1 H:=Be 28 [4,7] Tryz.func102
def Zbm:Z3:=
 Z0 (Ae Zdt [p0] H) fun g=>
 some (g.1,g.2)
theorem ZfY:Ls [p0] H=Zbm p0 H:=Be 5 [] Tryz.func124
def Dv:Z3:=ZP 125 22 (sub (Z1 Tryz.f125) [1,1]) (Zh cfg 22 125 Tryz.f125 H0) [] H
def Ff:Z3:=
 Z0 (YC (.pointer 124) .eql p0 .nilp) fun D=>
 Zl D
 (some ((.int .i64 5),H))
 (Z0 (Zu p0) fun j=>
 Z0 (Z6 6 j) fun u=>
 Z0 (Z4 false 1 u H) fun w=>
 Zl w
 (some ((.int .i64 8),H))
 (Z0 (Zu p0) fun y=>
 Z0 (Z6 0 y) fun z=>
 Z0 (Z6 2 z) fun A=>
 Z0 (Z4 false 1 A H) fun B=>
 Z0 (Zf YQ [B,p1] H) fun g=>
 Z0 (Xo .not g.1) fun C=>
 Zl C
 (some ((.int .i64 5),g.2))
 (Dv H g.2)))
theorem Lg:Dv H0 H =
 some ((.int .i64 0),H):=Za [7]
theorem LH:Xd [p0,p1] H=Ff p0 p1 H:=Be 22 [7] Tryz.func125
def Cs:Z3:=ZP 126 27 (sub (Z1 Tryz.f126) [1,1,1]) (Zh cfg 27 126 Tryz.f126 H0) [(4,x4)] H
def UV:KL:=Zc (Nn 126 27 Tryz.f126 [1,1,1]) (Zh cfg 27 126 Tryz.f126 H0)
theorem Oe:ZW 27 (UV H0):=Zy (C:=cfg) (kp:=cfg.keep 126) (sub (Z1 Tryz.f126) [1,1,1]) (ZB 126 Tryz.f126 H0)
def Cu:Z3:=ZP 126 27 (sub (Z1 Tryz.f126) [1,1,0,1,0,0,1,1,1]) (Zc (U5 126 27 Tryz.f126 [1,1,0,1,0,0]) (Z7 0 (UV H0))) [(4,x4),(9,x9),(10,x10),(11,x11)] H
def Zh5:KL:=Zc (Nn 126 27 Tryz.f126 [1,1,0,1,0,0,1,1,1]) (Zc (U5 126 27 Tryz.f126 [1,1,0,1,0,0]) (Z7 0 (UV H0)))
def Cv:Z3:=ZP 126 27 (sub (Z1 Tryz.f126) [1,1,0,1,0,0,1,1,0,0,1,1,1]) (Z7 1 (Zh5 H0)) [(4,x4),(7,x7),(9,x9),(10,x10),(11,x11)] H
def Ct:Z3:=ZP 126 27 (sub (Z1 Tryz.f126) [1,1,0,1,0,0,1,1]) (Zc (U5 126 27 Tryz.f126 [1,1,0,1,0,0]) (Z7 0 (UV H0))) [(4,x4),(9,x9),(10,x10),(11,x11),(12,x12)] H
def Ko:Z3:=Nr 126 27 (sub (Z1 Tryz.f126) [1,1,0,1,0,0]) (Z7 0 (UV H0)) [(4,x4),(9,x9),(10,x10),(11,x11)] H
def Al:Z3:=
 Z0 (some ((.ptr H.length 0),H++[.bld 201 5 []])) fun j=>
 Z0 (Zk (.slice 9) p0) fun g=>
 Ko j.1 p0 g (.int .i64 0) H j.2
theorem ZcB:Cs x4 H0 H =
 Z0 (stringE.run [x4] H) fun g=>
 some ((.tuple [g.1,(.int .i64 0)]),g.2):=Za [4,8,9,10]
theorem ZcC:Cu x4 x9 x10 x11 H0 H =
 Z0 (Z5 .add x11 (.int .i64 1)) fun g=>
 Ko x4 x9 x10 g H0 H:=Za [4,8,9,10]
theorem ZcD:Cv x4 x7 x9 x10 x11 H0 H =
 Z0 (textE.run [x4,x7] H) fun g=>
 Cu x4 x9 x10 x11 H0 g.2:=Za [4,8,9,10]
theorem N1:Ct x4 x9 x10 x11 x12 H0 H =
 Z0 (Zo 1 x9 x11) fun u=>
 Z0 (Z4 false 1 u H) fun w=>
 Z0 (Zf TB [w] H) fun g=>
 Z0 (ZQ g.1 0) fun y=>
 Z0 (ZQ g.1 1) fun j=>
 Z0 (Z5 .neq j (.int .i64 0)) fun z=>
 Zl z
 (some ((.tuple [(.str []),j]),g.2))
 (Cv x4 y x9 x10 x11 H0 g.2):=Za [4,8,9,10]
theorem N3:Ko x4 x9 x10 x11 H0 H =
 Z0 (Z5 .lss x11 x10) fun g=>
 Zl g
 (Ct x4 x9 x10 x11 g H0 H)
 (Cs x4 H0 H):=(ZD (C:=cfg) [4,8,9,10] (Zn 0 (Oe H0)) _ _).trans (by kernel_rfl)
theorem ZdC:TA [p0] H=Al p0 H:=Be 27 [4,8,9,10] Tryz.func126
def Bh:Z3:=ZP 127 29 (sub (Z1 Tryz.f127) [1,1,1]) (Zh cfg 29 127 Tryz.f127 H0) [(3,x3)] H
def WL:KL:=Zc (Nn 127 29 Tryz.f127 [1,1,1]) (Zh cfg 29 127 Tryz.f127 H0)
theorem Pj:ZW 29 (WL H0):=Zy (C:=cfg) (kp:=cfg.keep 127) (sub (Z1 Tryz.f127) [1,1,1]) (ZB 127 Tryz.f127 H0)
def UE:Z3:=ZP 127 29 (sub (Z1 Tryz.f127) [1,1,0,1,0,0,1,1,1]) (Zc (U5 127 29 Tryz.f127 [1,1,0,1,0,0]) (Z7 0 (WL H0))) [(0,x0),(3,x3),(10,x10),(11,x11),(12,x12)] H
def Bi:Z3:=ZP 127 29 (sub (Z1 Tryz.f127) [1,1,0,1,0,0,1,1]) (Zc (U5 127 29 Tryz.f127 [1,1,0,1,0,0]) (Z7 0 (WL H0))) [(0,x0),(3,x3),(10,x10),(11,x11),(12,x12),(13,x13)] H
def WM:Z3:=Nr 127 29 (sub (Z1 Tryz.f127) [1,1,0,1,0,0]) (Z7 0 (WL H0)) [(0,x0),(3,x3),(10,x10),(11,x11),(12,x12)] H
def BU:Z3:=
 Z0 (Zu p0) fun u=>
 Z0 (Z6 0 u) fun w=>
 Z0 (Z4 false 1 w H) fun t9=>
 Z0 (QN XV [t9] H) fun g=>
 Z0 (Zk (.slice 108) g.1) fun j=>
 WM p0 (.int .i64 0) g.1 j (.int .i64 0) H g.2
theorem M2:Bh x3 H0 H =
 some (x3,H):=Za [4,7,8]
theorem JR:UE x0 x3 x10 x11 x12 H0 H =
 Z0 (Z5 .add x12 (.int .i64 1)) fun g=>
 WM x0 x3 x10 x11 g H0 H:=Za [4,7,8]
theorem M3:Bi x0 x3 x10 x11 x12 x13 H0 H =
 Z0 (Zo 3 x10 x12) fun w=>
 Z0 (Z4 true 3 w H) fun y=>
 Z0 (some ((.ptr H.length 0),H++[.cells [(.str []),(.int .i64 0),(.int .i64 0)]])) fun u=>
 Z0 (Ze 3 u.1 y u.2) fun g=>
 Z0 (Zu x0) fun z=>
 Z0 (Z6 2 z) fun A=>
 Z0 (Z4 false 1 A g.2) fun B=>
 Z0 (Z6 0 u.1) fun C=>
 Z0 (Z4 false 1 C g.2) fun D=>
 Z0 (Zf YQ [B,D] g.2) fun j=>
 Zl j.1
 (Z0 (Z6 1 u.1) fun E=>
 Z0 (Z4 false 1 E j.2) fun F=>
 Z0 (Z5 .add x3 F) fun I=>
 UE x0 I x10 x11 x12 H0 j.2)
 (UE x0 x3 x10 x11 x12 H0 j.2):=Za [4,7,8]
theorem JS:WM x0 x3 x10 x11 x12 H0 H =
 Z0 (Z5 .lss x12 x11) fun g=>
 Zl g
 (Bi x0 x3 x10 x11 x12 g H0 H)
 (Bh x3 H0 H):=(ZD (C:=cfg) [4,7,8] (Zn 0 (Pj H0)) _ _).trans (by kernel_rfl)
theorem MB:XA [p0] H=BU p0 H:=Be 29 [4,7,8] Tryz.func127
def Vr:Z3:=
 Z0 (Zf W9 [p0,p1] H) fun g=>
 Z0 (Z5 .geq g.1 (.int .i64 0)) fun j=>
 some (j,g.2)
theorem KB:YQ [p0,p1] H=Vr p0 p1 H:=Be 9 [] Tryz.func163
def Cw:Z3:=ZP 164 23 (sub (Z1 Tryz.f164) [1,1]) (Zh cfg 23 164 Tryz.f164 H0) [(0,x0)] H
def An:Z3:=
 Z0 (Zk .string p0) fun g=>
 Z0 (Z5 .gtr g (.int .i64 4096)) fun j=>
 Zl j
 (some ((.tuple [(.str []),(.int .i64 3)]),H))
 (Cw p0 H H)
theorem ZcE:Cw x0 H0 H =
 Z0 (Zk .string x0) fun t9=>
 Z0 (Z5 .shr t9 (.int .u64 8)) fun u=>
 Z0 (Wh .u8 u) fun w=>
 Z0 (Zk .string x0) fun y=>
 Z0 (Wh .u8 y) fun z=>
 Z0 ((ZE 1 [(0,w),(1,z)] [(.int .u8 0),(.int .u8 0)]).map (.vs 1 .clip)) fun A=>
 Z0 (Br A H) fun B=>
 Z0 (YK .add B x0) fun j=>
 Z0 (Zf Po [j] H) fun g=>
 Z0 (YK .add j g.1) fun C=>
 some ((.tuple [C,(.int .i64 0)]),g.2):=Za [3]
theorem ZdD:TB [p0] H=An p0 H:=Be 23 [3] Tryz.func164
def Dr:Z3:=ZP 166 49 (sub (Z1 Tryz.f166) [1,1,1,1,1,1,1]) (Zh cfg 49 166 Tryz.f166 H0) [(2,x2),(12,x12),(13,x13)] H
def Dq:Z3:=ZP 166 49 (sub (Z1 Tryz.f166) [1,1,1,1,1]) (Zh cfg 49 166 Tryz.f166 H0) [(2,x2),(10,x10)] H
def Dp:Z3:=ZP 166 49 (sub (Z1 Tryz.f166) [1,1,1,1]) (Zh cfg 49 166 Tryz.f166 H0) [(2,x2),(10,x10)] H
def Do:Z3:=ZP 166 49 (sub (Z1 Tryz.f166) [1,1]) (Zh cfg 49 166 Tryz.f166 H0) [(0,x0),(1,x1),(2,x2)] H
def QF:Z3:=
 Z0 (Xd [p0,p1] H) fun g=>
 Z0 (Z5 .neq g.1 (.int .i64 0)) fun j=>
 Zl j
 (some ((.tuple [(.str []),(.int .i64 0),g.1]),g.2))
 (Do p0 p1 p2 H g.2)
theorem Lc:Dr x2 x12 x13 H0 H =
 Z0 (Z5 .add x2 x13) fun g=>
 some ((.tuple [x12,g,(.int .i64 0)]),H):=Za [4,7,9,12]
theorem Lb:Dq x2 x10 H0 H =
 Z0 (Zf Ln [x10,(.int .i64 0)] H) fun g=>
 Z0 (ZQ g.1 0) fun u=>
 Z0 (ZQ g.1 1) fun w=>
 Z0 (ZQ g.1 2) fun j=>
 Z0 (Z5 .neq j (.int .i64 0)) fun y=>
 Zl y
 (some ((.tuple [(.str []),(.int .i64 0),j]),g.2))
 (Dr x2 u w H0 g.2):=Za [4,7,9,12]
theorem Kz:Dp x2 x10 H0 H =
 Z0 (YK .eql x10 (.str [])) fun g=>
 Zl g
 (some ((.tuple [(.str []),(.int .i64 0),(.int .i64 5)]),H))
 (Dq x2 x10 H0 H):=Za [4,7,9,12]
theorem Ky:Do x0 x1 x2 H0 H =
 Z0 (Zu x0) fun u=>
 Z0 (Z6 0 u) fun w=>
 Z0 (Z6 0 w) fun y=>
 Z0 (Z4 false 1 y H) fun z=>
 Z0 (V5 [z,x1,x2,(.int .i64 4102)] H) fun g=>
 Z0 (ZQ g.1 0) fun A=>
 Z0 (ZQ g.1 1) fun j=>
 Z0 (Z5 .neq j (.int .i64 0)) fun B=>
 Zl B
 (some ((.tuple [(.str []),(.int .i64 0),j]),g.2))
 (Dp x2 A H0 g.2):=Za [4,7,9,12]
theorem KM:Ve [p0,p1,p2] H=QF p0 p1 p2 H:=Be 49 [4,7,9,12] Tryz.func166
def Ua:Z3:=ZP 194 19 (sub (Z1 Tryz.f194) [1,1]) (Zh cfg 19 194 Tryz.f194 H0) [] H
def X2:KL:=Zc (Nn 194 19 Tryz.f194 [1,1]) (Zh cfg 19 194 Tryz.f194 H0)
theorem KC:ZW 19 (X2 H0):=Zy (C:=cfg) (kp:=cfg.keep 194) (sub (Z1 Tryz.f194) [1,1]) (ZB 194 Tryz.f194 H0)
def Uc:Z3:=ZP 194 19 (sub (Z1 Tryz.f194) [1,0,1,0,0,1,1,1]) (Zc (U5 194 19 Tryz.f194 [1,0,1,0,0]) (Z7 0 (X2 H0))) [(0,x0),(1,x1),(7,x7),(8,x8)] H
def Ub:Z3:=ZP 194 19 (sub (Z1 Tryz.f194) [1,0,1,0,0,1,1]) (Zc (U5 194 19 Tryz.f194 [1,0,1,0,0]) (Z7 0 (X2 H0))) [(0,x0),(1,x1),(7,x7),(8,x8),(9,x9)] H
def X3:Z3:=Nr 194 19 (sub (Z1 Tryz.f194) [1,0,1,0,0]) (Z7 0 (X2 H0)) [(0,x0),(1,x1),(7,x7),(8,x8)] H
def Uy:Z3:=
 Z0 (Zk (.slice 9) p0) fun g=>
 X3 p0 p1 g (.int .i64 0) H H
theorem Gu:Ua H0 H =
 some ((.int .i64 (-1)),H):=Za [3,6,7]
theorem Gw:Uc x0 x1 x7 x8 H0 H =
 Z0 (Z5 .add x8 (.int .i64 1)) fun g=>
 X3 x0 x1 x7 g H0 H:=Za [3,6,7]
theorem Gv:Ub x0 x1 x7 x8 x9 H0 H =
 Z0 (Zo 1 x0 x8) fun g=>
 Z0 (Z4 false 1 g H) fun j=>
 Z0 (YK .eql x1 j) fun u=>
 Zl u
 (some (x8,H))
 (Uc x0 x1 x7 x8 H0 H):=Za [3,6,7]
theorem Vk:X3 x0 x1 x7 x8 H0 H =
 Z0 (Z5 .lss x8 x7) fun t9=>
 Zl t9
 (Ub x0 x1 x7 x8 t9 H0 H)
 (Ua H0 H):=(ZD (C:=cfg) [3,6,7] (Zn 0 (KC H0)) _ _).trans (by kernel_rfl)
theorem Bo:W9 [p0,p1] H=Uy p0 p1 H:=Be 19 [3,6,7] Tryz.func194
def Zeg:Z3:=
 Z0 (Zf Hf [p0] H) fun g=>
 Z0 (Wh .u8 g.1) fun C=>
 Z0 (Z5 .shr g.1 (.int .u64 8)) fun t9=>
 Z0 (Wh .u8 t9) fun j=>
 Z0 (Z5 .shr g.1 (.int .u64 16)) fun u=>
 Z0 (Wh .u8 u) fun w=>
 Z0 (Z5 .shr g.1 (.int .u64 24)) fun y=>
 Z0 (Wh .u8 y) fun z=>
 Z0 ((ZE 1 [(0,C),(1,j),(2,w),(3,z)] [(.int .u8 0),(.int .u8 0),(.int .u8 0),(.int .u8 0)]).map (.vs 1 .clip)) fun A=>
 Z0 (Br A g.2) fun B=>
 some (B,g.2)
theorem Zi5:Po [p0] H=Zeg p0 H:=Be 19 [] Tryz.func195
def Zae:Z3:=ZP 196 58 (sub (Z1 Tryz.f196) [1,1,1,1,1,1,1,1]) (Zh cfg 58 196 Tryz.f196 H0) [(1,x1),(7,x7),(8,x8)] H
def Zad:Z3:=ZP 196 58 (sub (Z1 Tryz.f196) [1,1,1,1,1,1,1]) (Zh cfg 58 196 Tryz.f196 H0) [(1,x1),(7,x7),(8,x8)] H
def Zac:Z3:=ZP 196 58 (sub (Z1 Tryz.f196) [1,1,1,1,1,1]) (Zh cfg 58 196 Tryz.f196 H0) [(1,x1),(7,x7),(8,x8)] H
def Zab:Z3:=ZP 196 58 (sub (Z1 Tryz.f196) [1,1,1,1]) (Zh cfg 58 196 Tryz.f196 H0) [(1,x1),(7,x7)] H
def Zaa:Z3:=ZP 196 58 (sub (Z1 Tryz.f196) [1,1]) (Zh cfg 58 196 Tryz.f196 H0) [(0,x0),(1,x1)] H
def Zbj:Z3:=
 Z0 (Z5 .lss p1 (.int .i64 0)) fun g=>
 Z0 (Z8 g false (.tuple []) (some p1)) fun j=>
 Z0 (Z8 g false (.tuple []) (some p0)) fun u=>
 Z0 (Z8 g false (.tuple []) (Zk .string u)) fun w=>
 Z0 (Z8 g false (.tuple []) (Z5 .gtr j w)) fun y=>
 Z0 (Zi g (.bool true) y) fun z=>
 Zl z
 (some ((.tuple [(.str []),(.int .i64 0),(.int .i64 2)]),H))
 (Zaa p0 p1 H H)
theorem Zfg:Zae x1 x7 x8 H0 H =
 Z0 (Z5 .add x8 (.int .i64 2)) fun g=>
 Z0 (Y8 x7 (some (.int .i64 2)) (some g) none) fun j=>
 Z0 (Z5 .add x1 x8) fun u=>
 Z0 (Z5 .add u (.int .i64 6)) fun w=>
 some ((.tuple [j,w,(.int .i64 0)]),H):=Za [3,6,9,11,13]
theorem Zff:Zad x1 x7 x8 H0 H =
 Z0 (Z5 .add x8 (.int .i64 2)) fun j=>
 Z0 (Z5 .add x8 (.int .i64 6)) fun u=>
 Z0 (Y8 x7 (some j) (some u) none) fun w=>
 Z0 (Z5 .add x8 (.int .i64 2)) fun y=>
 Z0 (Y8 x7 none (some y) none) fun z=>
 Z0 (Zf Po [z] H) fun g=>
 Z0 (YK .neq w g.1) fun A=>
 Zl A
 (some ((.tuple [(.str []),(.int .i64 0),(.int .i64 13)]),g.2))
 (Zae x1 x7 x8 H0 g.2):=Za [3,6,9,11,13]
theorem Zfe:Zac x1 x7 x8 H0 H =
 Z0 (Zk .string x7) fun g=>
 Z0 (Z5 .add x8 (.int .i64 6)) fun j=>
 Z0 (Z5 .lss g j) fun t37=>
 Zl t37
 (some ((.tuple [(.str []),(.int .i64 0),(.int .i64 14)]),H))
 (Zad x1 x7 x8 H0 H):=Za [3,6,9,11,13]
theorem Zfd:Zab x1 x7 H0 H =
 Z0 (Zw x7 (.int .i64 0)) fun j=>
 Z0 (Wh .i64 j) fun u=>
 Z0 (Z5 .shl u (.int .u64 8)) fun w=>
 Z0 (Zw x7 (.int .i64 1)) fun y=>
 Z0 (Wh .i64 y) fun z=>
 Z0 (Z5 .or w z) fun g=>
 Z0 (Z5 .gtr g (.int .i64 4096)) fun A=>
 Zl A
 (some ((.tuple [(.str []),(.int .i64 0),(.int .i64 13)]),H))
 (Zac x1 x7 g H0 H):=Za [3,6,9,11,13]
theorem Zfc:Zaa x0 x1 H0 H =
 Z0 (Y8 x0 (some x1) none none) fun g=>
 Z0 (Zk .string g) fun j=>
 Z0 (Z5 .lss j (.int .i64 2)) fun u=>
 Zl u
 (some ((.tuple [(.str []),(.int .i64 0),(.int .i64 14)]),H))
 (Zab x1 g H0 H):=Za [3,6,9,11,13]
theorem ZfW:Ln [p0,p1] H=Zbj p0 p1 H:=Be 58 [3,6,9,11,13] Tryz.func196
def Zcy:Z3:=ZP 209 33 (sub (Z1 Tryz.f209) [1,1,1]) (Zh cfg 33 209 Tryz.f209 H0) [(3,x3)] H
def Rp:KL:=Zc (Nn 209 33 Tryz.f209 [1,1,1]) (Zh cfg 33 209 Tryz.f209 H0)
theorem ZdQ:ZW 33 (Rp H0):=Zy (C:=cfg) (kp:=cfg.keep 209) (sub (Z1 Tryz.f209) [1,1,1]) (ZB 209 Tryz.f209 H0)
def ZcA:Z3:=ZP 209 33 (sub (Z1 Tryz.f209) [1,1,0,1,0,0,1,1,1]) (Zc (U5 209 33 Tryz.f209 [1,1,0,1,0,0]) (Z7 0 (Rp H0))) [(0,x0),(3,x3),(6,x6),(7,x7)] H
def Zcz:Z3:=ZP 209 33 (sub (Z1 Tryz.f209) [1,1,0,1,0,0,1,1]) (Zc (U5 209 33 Tryz.f209 [1,1,0,1,0,0]) (Z7 0 (Rp H0))) [(0,x0),(3,x3),(6,x6),(7,x7),(8,x8)] H
def Rq:Z3:=Nr 209 33 (sub (Z1 Tryz.f209) [1,1,0,1,0,0]) (Z7 0 (Rp H0)) [(0,x0),(3,x3),(6,x6),(7,x7)] H
def Zef:Z3:=
 Z0 (Zk .string p0) fun g=>
 Rq p0 (.int .u32 4294967295) g (.int .i64 0) H H
theorem Zh2:Zcy x3 H0 H =
 Z0 (Xo .xor x3) fun g=>
 some (g,H):=Za [4,8,9]
theorem Zh4:ZcA x0 x3 x6 x7 H0 H =
 Z0 (Z5 .add x7 (.int .i64 1)) fun g=>
 Rq x0 x3 x6 g H0 H:=Za [4,8,9]
theorem Zh3:Zcz x0 x3 x6 x7 x8 H0 H =
 Z0 (Zw x0 x7) fun u=>
 Z0 (Wh .u32 u) fun w=>
 Z0 (Z5 .xor x3 w) fun g=>
 Z0 (Z5 .and g (.int .u32 15)) fun y=>
 Z0 (G6 16 1 ZpG y) fun z=>
 Z0 (Z4 false 1 z H) fun A=>
 Z0 (Z5 .shr g (.int .u64 4)) fun B=>
 Z0 (Z5 .xor A B) fun j=>
 Z0 (Z5 .and j (.int .u32 15)) fun C=>
 Z0 (G6 16 1 ZpG C) fun D=>
 Z0 (Z4 false 1 D H) fun E=>
 Z0 (Z5 .shr j (.int .u64 4)) fun F=>
 Z0 (Z5 .xor E F) fun I=>
 ZcA x0 I x6 x7 H0 H:=Za [4,8,9]
theorem Cr:Rq x0 x3 x6 x7 H0 H =
 Z0 (Z5 .lss x7 x6) fun g=>
 Zl g
 (Zcz x0 x3 x6 x7 g H0 H)
 (Zcy x3 H0 H):=(ZD (C:=cfg) [4,8,9] (Zn 0 (ZdQ H0)) _ _).trans (by kernel_rfl)
theorem Zi4:Hf [p0] H=Zef p0 H:=Be 33 [4,8,9] Tryz.func209
end
end Go.Am
