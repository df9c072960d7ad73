/- The functions of the translation over the abstract machine -/
import Derived.Test.YtnaneekpogohaaaGreatDoorXeGx
open Go.Am.AV renaming int->zA
open Go.IntKind renaming i64->J
namespace Go.Am
open Go.Proofs
set_option maxRecDepth 100000
noncomputable abbrev ZP (f n:Nat):=Yl cfg (Za cfg) (Y4 cfg (cfg.keep f) n) (cfg.keep f) n Zc Z6
noncomputable abbrev NA (f n:Nat):=Y4 cfg (cfg.keep f) n
noncomputable section
abbrev Ny (f n:Nat)(F:Func)(p:List Nat):KL->AL->Hp->Z4:=fun k g H=>ZP f n (sub (Z1 F) p) k (Y3 (cfg.keep f) (sub (Z1 F) p) g) H
abbrev Ue (f n:Nat)(F:Func)(p:List Nat):KL->AL->Hp->Z4:=fun k g H=>NA f n (sub (Z1 F) p) k (Y3 (cfg.keep f) (sub (Z1 F) p) g) H
variable (p0 p1 p2 p3 x0 x1 x2 x3 x4 x5 x6 x7 x8 x9 x10 x11 x12 x13 x18 x19 x20 x21 x22 x23 x24:AV)(H0 H:Hp)
abbrev b6:List Nat:=[3,5,7,11,12]
abbrev b7:List Nat:=[3,5,6,10,11]
abbrev b8:List Nat:=[3,6,9,11,13]
def Zez:Z4:=
 Z0 (KN p0 (zA J 0)) fun t4=>
 Z0 (UY t4 (zA J 262144)) fun t5=>
 Z0 (some ((.map H.length),H++[.map [] 0])) fun g=>
 Z0 ((YD [(0,1,t5),(3,1,g.1)] [(zA J 0),(zA J 0),(zA J 0),.nilm,(.bool false),(zA J 0)]).map .agg) fun j=>
 Z0 (ZN j g.2) fun h=>
 some (h.1,h.2)
theorem Zid:PG [p0] H=Zez p0 H:=Be 9 [] Tryz.func15
noncomputable abbrev ay (f n:Nat)(F:Func)(p:List Nat)(G:Hp):=fun k K=>ZP f n (sub (Z1 F) p) (Zg cfg n f F G) k K
def J8:Z4:=ay 16 46 Tryz.f16 [1,1,1] H0 [(0,x0),(1,x1)] H
def FR:Z4:=ay 16 46 Tryz.f16 [1,1] H0 [(0,x0),(1,x1)] H
def R2:Z4:=
 Z0 (Yy (.pointer 82) .eql p0 .nilp) fun K=>
 Zj K
 (some ((zA J 5),H))
 (Z0 (Ur [p0] H) fun h=>
 Zj h.1
 (some ((zA J 19),h.2))
 (Z0 (Zf Fa [p1] h.2) fun g=>
 Z0 (Xv .not g.1) fun j=>
 Zj j
 (some ((zA J 4),g.2))
 (Z0 (Zu p0) fun u=>
 Z0 (Z7 3 u) fun w=>
 Z0 (Z3 false 1 w g.2) fun y=>
 Z0 (Y9 .string .nilp false y p1 g.2) fun z=>
 Z0 (Yy (.pointer 86) .neq z .nilp) fun A=>
 Zj A
 (some ((zA J 6),g.2))
 (Z0 (Zu p0) fun B=>
 Z0 (Z7 3 B) fun C=>
 Z0 (Z3 false 1 C g.2) fun D=>
 Z0 (Jr D g.2) fun E=>
 Z0 (Z5 .geq E (zA J 64)) fun F=>
 Zj F
 (some ((zA J 3),g.2))
 (FR p0 p1 H g.2)))))
theorem EV:J8 x0 x1 H0 H =
 Z0 (Zu x0) fun j=>
 Z0 (Z7 3 j) fun u=>
 Z0 (Z3 false 1 u H) fun w=>
 Z0 (some (.agg [.nils,(zA J 0)])) fun y=>
 Z0 (ZN y H) fun g=>
 Z0 (Xq .string w x1 g.1 g.2) fun h=>
 some ((zA J 0),h.2):=Z9 [11,13]
theorem EU:FR x0 x1 H0 H =
 Z0 (Zu x0) fun j=>
 Z0 (Z7 3 j) fun u=>
 Z0 (Z3 false 1 u H) fun w=>
 Z0 (Yy (.map 9 84) .eql w .nilm) fun y=>
 Zj y
 (Z0 (some ((.map H.length),H++[.map [] 0])) fun g=>
 Z0 (Zu x0) fun t37=>
 Z0 (Z7 3 t37) fun z=>
 Z0 (Zb 1 z g.1 g.2) fun h=>
 J8 x0 x1 H0 h.2)
 (J8 x0 x1 H0 H):=Z9 [11,13]
theorem Sg:Jn [p0,p1] H=R2 p0 p1 H:=Be 46 [11,13] Tryz.func16
def FQ:Z4:=ay 17 60 Tryz.f17 [1,1,1,1] H0 [(0,x0),(2,x2),(7,x7)] H
def FP:Z4:=ay 17 60 Tryz.f17 [1,1,1] H0 [(0,x0),(2,x2),(7,x7)] H
def R1:Z4:=
 Z0 (W9 [p0,p1] H) fun g=>
 Z0 (ZO g.1 0) fun j=>
 Z0 (ZO g.1 1) fun h=>
 Z0 (Z5 .neq h (zA J 0)) fun u=>
 Zj u
 (some (h,g.2))
 (FP p0 p2 j H g.2)
theorem ET:FQ x0 x2 x7 H0 H =
 Z0 (Zu x7) fun w=>
 Z0 (Z7 0 w) fun y=>
 Z0 (Z3 false 1 y H) fun z=>
 Z0 (Y7 1 1 z x2 H) fun j=>
 Z0 (Zu x7) fun t37=>
 Z0 (Z7 0 t37) fun A=>
 Z0 (Zb 1 A j.1 j.2) fun h=>
 Z0 (Zu x0) fun B=>
 Z0 (Z7 1 B) fun C=>
 Z0 (Z3 false 1 C h.2) fun D=>
 Z0 (Zk .string x2) fun E=>
 Z0 (Z5 .add D E) fun F=>
 Z0 (Zu x0) fun K=>
 Z0 (Z7 1 K) fun L=>
 Z0 (Zb 1 L F h.2) fun g=>
 Z0 (Zu x0) fun M=>
 Z0 (Z7 2 M) fun N=>
 Z0 (Z3 false 1 N g.2) fun O=>
 Z0 (Zu x0) fun Q=>
 Z0 (Z7 1 Q) fun R=>
 Z0 (Z3 false 1 R g.2) fun S=>
 Z0 (KN O S) fun T=>
 Z0 (Zu x0) fun U=>
 Z0 (Z7 2 U) fun V=>
 Z0 (Zb 1 V T g.2) fun u=>
 some ((zA J 0),u.2):=Z9 [4,6]
theorem Gz:FP x0 x2 x7 H0 H =
 Z0 (Zu x0) fun g=>
 Z0 (Z7 1 g) fun h=>
 Z0 (Z3 false 1 h H) fun j=>
 Z0 (Zk .string x2) fun u=>
 Z0 (Z5 .add j u) fun w=>
 Z0 (Zu x0) fun y=>
 Z0 (Z7 0 y) fun z=>
 Z0 (Z3 false 1 z H) fun A=>
 Z0 (Z5 .gtr w A) fun B=>
 Zj B
 (some ((zA J 12),H))
 (FQ x0 x2 x7 H0 H):=Z9 [4,6]
theorem Sf:Jm [p0,p1,p2] H=R1 p0 p1 p2 H:=Be 60 [4,6] Tryz.func17
def KE:Z4:=ay 18 24 Tryz.f18 [1,1,1] H0 [(6,x6)] H
def PZ:Z4:=
 Z0 (W9 [p0,p1] H) fun g=>
 Z0 (ZO g.1 0) fun u=>
 Z0 (ZO g.1 1) fun h=>
 Z0 (Z5 .eql h (zA J 0)) fun w=>
 Zj w
 (Z0 (Zu u) fun y=>
 Z0 (Z7 0 y) fun z=>
 Z0 (Z3 false 1 z g.2) fun A=>
 Z0 (Zk (.slice 5) A) fun B=>
 Z0 (Zu u) fun C=>
 Z0 (Z7 1 C) fun D=>
 Z0 (Zb 1 D B g.2) fun j=>
 KE h H j.2)
 (KE h H g.2)
theorem Qv:KE x6 H0 H =
 some (x6,H):=Z9 [4]
theorem At:Gd [p0,p1] H=PZ p0 p1 H:=Be 24 [4] Tryz.func18
def TH:Z4:=ay 23 54 Tryz.f23 [1,1,1,1] H0 [(2,x2),(3,x3),(10,x10)] H
def TG:Z4:=ay 23 54 Tryz.f23 [1,1,1] H0 [(2,x2),(3,x3),(10,x10)] H
def PY:Z4:=
 Z0 (W9 [p0,p1] H) fun g=>
 Z0 (ZO g.1 0) fun j=>
 Z0 (ZO g.1 1) fun h=>
 Z0 (Z5 .neq h (zA J 0)) fun u=>
 Zj u
 (some ((.tuple [(.str []),h]),g.2))
 (TG p2 p3 j H g.2)
theorem HY:TH x2 x3 x10 H0 H =
 Z0 (Zu x10) fun t37=>
 Z0 (Z7 0 t37) fun g=>
 Z0 (Z3 false 1 g H) fun h=>
 Z0 (Zu x10) fun j=>
 Z0 (Z7 0 j) fun u=>
 Z0 (Z3 false 1 u H) fun w=>
 Z0 (Zk (.slice 5) w) fun y=>
 Z0 (Z5 .sub y x2) fun z=>
 Z0 (UY x3 z) fun A=>
 Z0 (Z5 .add x2 A) fun B=>
 Z0 (Yx 1 h (some x2) (some B) none) fun C=>
 Z0 (UG C H) fun D=>
 some ((.tuple [D,(zA J 0)]),H):=Z9 [4,6]
theorem HX:TG x2 x3 x10 H0 H =
 Z0 (Z5 .lss x2 (zA J 0)) fun g=>
 Z0 (Z8 g false ak (some x2)) fun j=>
 Z0 (Z8 g false ak (some x10)) fun u=>
 Z0 (Z8 g false ak (Zu u)) fun w=>
 Z0 (Z8 g false ak (Z7 0 w)) fun y=>
 Z0 (Z8 g false ak (Z3 false 1 y H)) fun z=>
 Z0 (Z8 g false ak (Zk (.slice 5) z)) fun A=>
 Z0 (Z8 g false ak (Z5 .gtr j A)) fun B=>
 Z0 (Zi g (.bool true) B) fun h=>
 Z0 (Z8 h false ak (some x3)) fun C=>
 Z0 (Z8 h false ak (Z5 .lss C (zA J 0))) fun D=>
 Z0 (Zi h (.bool true) D) fun E=>
 Zj E
 (some ((.tuple [(.str []),(zA J 2)]),H))
 (TH x2 x3 x10 H0 H):=Z9 [4,6]
theorem As:Gc [p0,p1,p2,p3] H=PY p0 p1 p2 p3 H:=Be 54 [4,6] Tryz.func23
def TD:Z4:=ay 26 38 Tryz.f26 [1,1,1,1] H0 [(3,x3)] H
def UA:KL:=Zc (Ny 26 38 Tryz.f26 [1,1,1,1]) (Zg cfg 38 26 Tryz.f26 H0)
theorem EW:ZR 38 (UA H0):=Zw (C:=cfg) (kp:=cfg.keep 26) (sub (Z1 Tryz.f26) [1,1,1,1]) (ZB 26 Tryz.f26 H0)
def TF:Z4:=ZP 26 38 (sub (Z1 Tryz.f26) [1,1,1,0,1,0,0,1,1,1]) (Zc (Ue 26 38 Tryz.f26 [1,1,1,0,1,0,0]) (Z6 0 (UA H0))) [(0,x0),(3,x3),(10,x10),(11,x11),(12,x12)] H
def TE:Z4:=ZP 26 38 (sub (Z1 Tryz.f26) [1,1,1,0,1,0,0,1,1]) (Zc (Ue 26 38 Tryz.f26 [1,1,1,0,1,0,0]) (Z6 0 (UA H0))) [(0,x0),(3,x3),(10,x10),(11,x11),(12,x12),(13,x13)] H
def UB:Z4:=NA 26 38 (sub (Z1 Tryz.f26) [1,1,1,0,1,0,0]) (Z6 0 (UA H0)) [(0,x0),(3,x3),(10,x10),(11,x11),(12,x12)] H
def TC:Z4:=ay 26 38 Tryz.f26 [1,1] H0 [(0,x0)] H
def PX:Z4:=
 Z0 (Yy (.pointer 82) .eql p0 .nilp) fun g=>
 Zj g
 (some (.nils,H))
 (TC p0 H H)
theorem HU:TD x3 H0 H =
 some (x3,H):=Z9 [3,6,9,10]
theorem HW:TF x0 x3 x10 x11 x12 H0 H =
 Z0 (Z5 .add x12 (zA J 1)) fun g=>
 UB x0 x3 x10 x11 g H0 H:=Z9 [3,6,9,10]
theorem HV:TE x0 x3 x10 x11 x12 x13 H0 H =
 Z0 (Zo 1 x10 x12) fun u=>
 Z0 (Z3 false 1 u H) fun h=>
 Z0 (Zu x0) fun w=>
 Z0 (Z7 3 w) fun y=>
 Z0 (Z3 false 1 y H) fun z=>
 Z0 (Y9 .string .nilp false z h H) fun j=>
 Z0 (Zu j) fun A=>
 Z0 (Z7 0 A) fun B=>
 Z0 (Z3 false 1 B H) fun C=>
 Z0 (Zk (.slice 5) C) fun D=>
 Z0 (Zu j) fun E=>
 Z0 (Z7 1 E) fun F=>
 Z0 (Z3 false 1 F H) fun K=>
 Z0 ((YD [(0,1,h),(1,1,D),(2,1,K)] [(.str []),(zA J 0),(zA J 0)]).map .agg) fun L=>
 Z0 ((ZA 3 [(0,L)] [(.agg [(.str []),(zA J 0),(zA J 0)])]).map (.vs 3 .clip)) fun M=>
 Z0 (Y7 3 32 x3 M H) fun g=>
 TF x0 g.1 x10 x11 x12 H0 g.2:=Z9 [3,6,9,10]
theorem DJ:UB x0 x3 x10 x11 x12 H0 H =
 Z0 (Z5 .lss x12 x11) fun g=>
 Zj g
 (TE x0 x3 x10 x11 x12 g H0 H)
 (TD x3 H0 H):=(ZC (C:=cfg) [3,6,9,10] (Zn 0 (EW H0)) _ _).trans (by kernel_rfl)
theorem HT:TC x0 H0 H =
 Z0 (namesE.run [x0] H) fun g=>
 Z0 (Zk (.slice 9) g.1) fun h=>
 UB x0 .nils g.1 h (zA J 0) H0 g.2:=Z9 [3,6,9,10]
theorem Ar:Xh [p0] H=PX p0 H:=Be 38 [3,6,9,10] Tryz.func26
def Wz:Z4:=ay 39 37 Tryz.f39 [1,1] H0 [(0,x0)] H
def Te:Z4:=
 Z0 (Zu p0) fun t5=>
 Z0 (Z7 4 t5) fun T=>
 Z0 (Z3 false 1 T H) fun U=>
 Zj U
 (Wz p0 H H)
 (Z0 (Zu p0) fun u=>
 Z0 (Z7 5 u) fun w=>
 Z0 (Z3 false 1 w H) fun y=>
 Z0 (Z5 .eql y (zA J 1)) fun z=>
 Zj z
 (Z0 (Zu p0) fun A=>
 Z0 (Z7 4 A) fun B=>
 Z0 (Zb 1 B (.bool true) H) fun g=>
 Z0 (Zu p0) fun C=>
 Z0 (Z7 5 C) fun D=>
 Z0 (Zb 1 D (zA J 0) g.2) fun h=>
 Wz p0 H h.2)
 (Z0 (Zu p0) fun E=>
 Z0 (Z7 5 E) fun F=>
 Z0 (Z3 false 1 F H) fun K=>
 Z0 (Z5 .gtr K (zA J 1)) fun L=>
 Zj L
 (Z0 (Zu p0) fun M=>
 Z0 (Z7 5 M) fun N=>
 Z0 (Z3 false 1 N H) fun O=>
 Z0 (Z5 .sub O (zA J 1)) fun Q=>
 Z0 (Zu p0) fun R=>
 Z0 (Z7 5 R) fun S=>
 Z0 (Zb 1 S Q H) fun j=>
 Wz p0 H j.2)
 (Wz p0 H H)))
theorem WQ:Wz x0 H0 H =
 Z0 (Zu x0) fun g=>
 Z0 (Z7 4 g) fun h=>
 Z0 (Z3 false 1 h H) fun j=>
 some (j,H):=Z9 [6]
theorem Hk:Ur [p0] H=Te p0 H:=Be 37 [6] Tryz.func39
def D7:Z4:=ay 40 58 Tryz.f40 [1,1] H0 [(0,x0)] H
def QN:KL:=Zc (Ny 40 58 Tryz.f40 [1,1]) (Zg cfg 58 40 Tryz.f40 H0)
theorem A0:ZR 58 (QN H0):=Zw (C:=cfg) (kp:=cfg.keep 40) (sub (Z1 Tryz.f40) [1,1]) (ZB 40 Tryz.f40 H0)
def D9:Z4:=ZP 40 58 (sub (Z1 Tryz.f40) [1,0,1,0,0,1,1,1]) (Zc (Ue 40 58 Tryz.f40 [1,0,1,0,0]) (Z6 0 (QN H0))) [(0,x0),(7,x7),(8,x8)] H
def D8:Z4:=ZP 40 58 (sub (Z1 Tryz.f40) [1,0,1,0,0,1,1]) (Zc (Ue 40 58 Tryz.f40 [1,0,1,0,0]) (Z6 0 (QN H0))) [(0,x0),(7,x7),(8,x8),(9,x9)] H
def QO:Z4:=NA 40 58 (sub (Z1 Tryz.f40) [1,0,1,0,0]) (Z6 0 (QN H0)) [(0,x0),(7,x7),(8,x8)] H
def LN:Z4:=
 Z0 (Zk .string p0) fun g=>
 QO p0 g (zA J 0) H H
theorem OQ:D7 x0 H0 H =
 Z0 (Yr .neq x0 (.str [])) fun g=>
 Z0 (Z8 g true ak (some x0)) fun h=>
 Z0 (Z8 g true ak (Zk .string h)) fun j=>
 Z0 (Z8 g true ak (Z5 .leq j (zA J 32))) fun u=>
 Z0 (Zi g u (.bool false)) fun w=>
 some (w,H):=Z9 [3,8,9]
theorem RZ:D9 x0 x7 x8 H0 H =
 Z0 (Z5 .add x8 (zA J 1)) fun g=>
 QO x0 x7 g H0 H:=Z9 [3,8,9]
theorem OR:D8 x0 x7 x8 x9 H0 H =
 Z0 (Zx x0 x8) fun g=>
 Z0 (Z5 .geq g (.int .u8 97)) fun j=>
 Z0 (Z8 j true ak (some g)) fun B=>
 Z0 (Z8 j true ak (Z5 .leq B (.int .u8 122))) fun C=>
 Z0 (Zi j C (.bool false)) fun h=>
 Z0 (Z8 h false ak (some g)) fun D=>
 Z0 (Z8 h false ak (Z5 .geq D (.int .u8 65))) fun E=>
 Z0 (Z8 h false ak (some E)) fun u=>
 Z0 (Z8 u true ak (some g)) fun F=>
 Z0 (Z8 u true ak (Z5 .leq F (.int .u8 90))) fun K=>
 Z0 (Z8 h false ak (Zi u K (.bool false))) fun L=>
 Z0 (Zi h (.bool true) L) fun w=>
 Z0 (Z8 w false ak (some g)) fun M=>
 Z0 (Z8 w false ak (Z5 .eql M (.int .u8 95))) fun N=>
 Z0 (Zi w (.bool true) N) fun y=>
 Z0 (Z8 y false ak (some g)) fun O=>
 Z0 (Z8 y false ak (Z5 .eql O (.int .u8 46))) fun Q=>
 Z0 (Zi y (.bool true) Q) fun R=>
 Z0 (Xv .not R) fun t37=>
 Z0 (Z8 t37 true ak (some x8)) fun S=>
 Z0 (Z8 t37 true ak (Z5 .eql S (zA J 0))) fun T=>
 Z0 (Z8 t37 true ak (some T)) fun z=>
 Z0 (Z8 z false ak (some g)) fun U=>
 Z0 (Z8 z false ak (Z5 .lss U (.int .u8 48))) fun V=>
 Z0 (Z8 t37 true ak (Zi z (.bool true) V)) fun W=>
 Z0 (Z8 t37 true ak (some W)) fun A=>
 Z0 (Z8 A false ak (some g)) fun X=>
 Z0 (Z8 A false ak (Z5 .gtr X (.int .u8 57))) fun Y=>
 Z0 (Z8 t37 true ak (Zi A (.bool true) Y)) fun Z=>
 Z0 (Zi t37 Z (.bool false)) fun aa=>
 Zj aa
 (some ((.bool false),H))
 (D9 x0 x7 x8 H0 H):=Z9 [3,8,9]
theorem VW:QO x0 x7 x8 H0 H =
 Z0 (Z5 .lss x8 x7) fun t9=>
 Zj t9
 (D8 x0 x7 x8 t9 H0 H)
 (D7 x0 H0 H):=(ZC (C:=cfg) [3,8,9] (Zn 0 (A0 H0)) _ _).trans (by kernel_rfl)
theorem ZaF:Fa [p0] H=LN p0 H:=Be 58 [3,8,9] Tryz.func40
def TK:Z4:=ay 41 20 Tryz.f41 [1,1,1,1,1] H0 [(6,x6)] H
def TJ:Z4:=ay 41 20 Tryz.f41 [1,1,1] H0 [(0,x0),(1,x1)] H
def TI:Z4:=ay 41 20 Tryz.f41 [1,1] H0 [(0,x0),(1,x1)] H
def N1:Z4:=
 Z0 (Yy (.pointer 82) .eql p0 .nilp) fun g=>
 Zj g
 (some ((.tuple [.nilp,(zA J 5)]),H))
 (TI p0 p1 H H)
theorem HZ:TK x6 H0 H =
 some ((.tuple [x6,(zA J 0)]),H):=Z9 [3,5,8]
theorem DK:TJ x0 x1 H0 H =
 Z0 (Zu x0) fun h=>
 Z0 (Z7 3 h) fun j=>
 Z0 (Z3 false 1 j H) fun u=>
 Z0 (Y9 .string .nilp false u x1 H) fun g=>
 Z0 (Yy (.pointer 86) .eql g .nilp) fun w=>
 Zj w
 (some ((.tuple [.nilp,(zA J 5)]),H))
 (TK g H0 H):=Z9 [3,5,8]
theorem Qw:TI x0 x1 H0 H =
 Z0 (Ur [x0] H) fun g=>
 Zj g.1
 (some ((.tuple [.nilp,(zA J 19)]),g.2))
 (TJ x0 x1 H0 g.2):=Z9 [3,5,8]
theorem Av:W9 [p0,p1] H=N1 p0 p1 H:=Be 20 [3,5,8] Tryz.func41
def K0:Z4:=ay 43 39 Tryz.f43 [1,1,1,1] H0 [(0,x0),(1,x1),(2,x2)] H
def K1:KL:=Zc (Ny 43 39 Tryz.f43 [1,1,1,1]) (Zg cfg 39 43 Tryz.f43 H0)
theorem Ij:ZR 39 (K1 H0):=Zw (C:=cfg) (kp:=cfg.keep 43) (sub (Z1 Tryz.f43) [1,1,1,1]) (ZB 43 Tryz.f43 H0)
def Sa:Z4:=ZP 43 39 (sub (Z1 Tryz.f43) [1,1,1,0,1,0,0,1,1,1]) (Zc (Ue 43 39 Tryz.f43 [1,1,1,0,1,0,0]) (Z6 0 (K1 H0))) [(0,x0),(1,x1),(2,x2),(18,x18),(19,x19),(20,x20)] H
def S9:Z4:=ZP 43 39 (sub (Z1 Tryz.f43) [1,1,1,0,1,0,0,1,1]) (Zc (Ue 43 39 Tryz.f43 [1,1,1,0,1,0,0]) (Z6 0 (K1 H0))) [(0,x0),(1,x1),(2,x2),(18,x18),(19,x19),(20,x20),(21,x21)] H
def K2:Z4:=NA 43 39 (sub (Z1 Tryz.f43) [1,1,1,0,1,0,0]) (Z6 0 (K1 H0)) [(0,x0),(1,x1),(2,x2),(18,x18),(19,x19),(20,x20)] H
def S5:Z4:=ay 43 39 Tryz.f43 [1,1,1] H0 [(0,x0),(1,x1),(2,x2)] H
def S4:Z4:=ay 43 39 Tryz.f43 [1,1] H0 [(0,x0),(1,x1),(2,x2)] H
def SP:Z4:=
 Z0 (Yy (.pointer 82) .eql p0 .nilp) fun g=>
 Zj g
 (some ((.tuple [.nilp,(zA J 5)]),H))
 (S4 p0 p1 p2 H H)
theorem Zbj:K0 x0 x1 x2 H0 H =
 Z0 (some ((.map H.length),H++[.map [] 0])) fun g=>
 Z0 ((YD [(0,1,x0),(1,1,x1),(3,1,g.1)] [.nilp,(.str []),.nils,.nilm]).map .agg) fun j=>
 Z0 (KN (zA J 0) x2) fun u=>
 Z0 ((YD [(0,4,j),(4,1,u)] [.nilp,(.str []),.nils,.nilm,(zA J 0),(zA J 0),(.bool false)]).map .agg) fun t37=>
 Z0 (ZN t37 g.2) fun h=>
 some ((.tuple [h.1,(zA J 0)]),h.2):=Z9 b6
theorem Zbk:Sa x0 x1 x2 x18 x19 x20 H0 H =
 Z0 (Z5 .add x20 (zA J 1)) fun g=>
 K2 x0 x1 x2 x18 x19 g H0 H:=Z9 b6
theorem TN:S9 x0 x1 x2 x18 x19 x20 x21 H0 H =
 Z0 (Zo 1 x18 x20) fun h=>
 Z0 (Z3 false 1 h H) fun j=>
 Z0 (Wm [x0,j] H) fun g=>
 Z0 (Z5 .neq g.1 (zA J 0)) fun u=>
 Zj u
 (some ((.tuple [.nilp,g.1]),g.2))
 (Sa x0 x1 x2 x18 x19 x20 H0 g.2):=Z9 b6
theorem TO:K2 x0 x1 x2 x18 x19 x20 H0 H =
 Z0 (Z5 .lss x20 x19) fun g=>
 Zj g
 (S9 x0 x1 x2 x18 x19 x20 g H0 H)
 (K0 x0 x1 x2 H0 H):=(ZC (C:=cfg) [3,5,7,11,12] (Zn 0 (Ij H0)) _ _).trans (by kernel_rfl)
theorem TM:S5 x0 x1 x2 H0 H =
 Z0 (G1 KJ [x0,x1] H) fun g=>
 Z0 (Zk (.slice 9) g.1) fun h=>
 K2 x0 x1 x2 g.1 h (zA J 0) H0 g.2:=Z9 b6
theorem KF:S4 x0 x1 x2 H0 H =
 Z0 (Zf Uc [x1] H) fun g=>
 Z0 (Xv .not g.1) fun h=>
 Zj h
 (some ((.tuple [.nilp,(zA J 4)]),g.2))
 (S5 x0 x1 x2 H0 g.2):=Z9 b6
theorem ZbD:Wn [p0,p1,p2] H=SP p0 p1 p2 H:=Be 39 [3,5,7,11,12] Tryz.func43
def BC:Z4:=ay 45 47 Tryz.f45 [1,1,1,1] H0 [(0,x0)] H
def WR:KL:=Zc (Ny 45 47 Tryz.f45 [1,1,1,1]) (Zg cfg 47 45 Tryz.f45 H0)
theorem Px:ZR 47 (WR H0):=Zw (C:=cfg) (kp:=cfg.keep 45) (sub (Z1 Tryz.f45) [1,1,1,1]) (ZB 45 Tryz.f45 H0)
def BE:Z4:=ZP 45 47 (sub (Z1 Tryz.f45) [1,1,1,0,0,0,1,0,1,1]) (Z6 1 (Zc (Ue 45 47 Tryz.f45 [1,1,1,0,0,0]) (Z6 0 (WR H0)))) [(0,x0),(3,x3)] H
def BD:Z4:=ZP 45 47 (sub (Z1 Tryz.f45) [1,1,1,0,0,0,1]) (Zc (Ue 45 47 Tryz.f45 [1,1,1,0,0,0]) (Z6 0 (WR H0))) [(0,x0)] H
def YY:Z4:=NA 45 47 (sub (Z1 Tryz.f45) [1,1,1,0,0,0]) (Z6 0 (WR H0)) [(0,x0)] H
def BB:Z4:=ay 45 47 Tryz.f45 [1,1,1] H0 [(0,x0)] H
def BA:Z4:=ay 45 47 Tryz.f45 [1,1] H0 [(0,x0)] H
def Di:Z4:=
 Z0 (Yy (.pointer 124) .eql p0 .nilp) fun g=>
 Zj g
 (some ((zA J 5),H))
 (BA p0 H H)
theorem M4:BC x0 H0 H =
 Z0 (Zu x0) fun h=>
 Z0 (Z7 6 h) fun j=>
 Z0 (Zb 1 j (.bool true) H) fun g=>
 some ((zA J 0),g.2):=Z9 b7
theorem Kj:BE x0 x3 H0 H =
 Z0 (Zu x0) fun h=>
 Z0 (Z7 0 h) fun j=>
 Z0 (forgetE.run [j,x3] H) fun g=>
 YY x0 H0 g.2:=Z9 b7
theorem VD:BD x0 H0 H =
 Z0 (Zu x0) fun u=>
 Z0 (Z7 0 u) fun w=>
 Z0 (Z7 2 w) fun y=>
 Z0 (Z3 false 1 y H) fun z=>
 Z0 (Zo 1 z (zA J 0)) fun A=>
 Z0 (Z3 false 1 A H) fun j=>
 Z0 (Zu x0) fun B=>
 Z0 (Z7 0 B) fun C=>
 Z0 (Z7 0 C) fun D=>
 Z0 (Z3 false 1 D H) fun E=>
 Z0 (Wm [E,j] H) fun g=>
 Z0 (Z5 .neq g.1 (zA J 0)) fun h=>
 Z0 (Z8 h true ak (some g.1)) fun F=>
 Z0 (Z8 h true ak (Z5 .neq F (zA J 5))) fun K=>
 Z0 (Zi h K (.bool false)) fun t37=>
 Zj t37
 (some (g.1,g.2))
 (BE x0 j H0 g.2):=Z9 b7
theorem VE:YY x0 H0 H =
 Z0 (Zu x0) fun g=>
 Z0 (Z7 0 g) fun h=>
 Z0 (Z7 2 h) fun j=>
 Z0 (Z3 false 1 j H) fun u=>
 Z0 (Zk (.slice 9) u) fun w=>
 Z0 (Z5 .gtr w (zA J 0)) fun y=>
 Zj y
 (BD x0 H0 H)
 (BC x0 H0 H):=(ZC (C:=cfg) [3,5,6,10,11] (Zn 0 (Px H0)) _ _).trans (by kernel_rfl)
theorem M3:BB x0 H0 H =
 YY x0 H0 H:=Z9 b7
theorem M2:BA x0 H0 H =
 Z0 (Zu x0) fun h=>
 Z0 (Z7 6 h) fun t9=>
 Z0 (Z3 false 1 t9 H) fun g=>
 Zj g
 (some ((zA J 8),H))
 (BB x0 H0 H):=Z9 b7
theorem MM:V7 [p0] H=Di p0 H:=Be 47 [3,5,6,10,11] Tryz.func45
def EY:Z4:=ay 50 56 Tryz.f50 [1,1,1,1,1] H0 [(5,x5)] H
def JY:KL:=Zc (Ny 50 56 Tryz.f50 [1,1,1,1,1]) (Zg cfg 56 50 Tryz.f50 H0)
theorem Ii:ZR 56 (JY H0):=Zw (C:=cfg) (kp:=cfg.keep 50) (sub (Z1 Tryz.f50) [1,1,1,1,1]) (ZB 50 Tryz.f50 H0)
def Fw:Z4:=ZP 50 56 (sub (Z1 Tryz.f50) [1,1,1,1,0,1,0,0,1,1,1]) (Zc (Ue 50 56 Tryz.f50 [1,1,1,1,0,1,0,0]) (Z6 0 (JY H0))) [(5,x5),(6,x6),(21,x21),(22,x22),(23,x23)] H
def EZ:Z4:=ZP 50 56 (sub (Z1 Tryz.f50) [1,1,1,1,0,1,0,0,1,1]) (Zc (Ue 50 56 Tryz.f50 [1,1,1,1,0,1,0,0]) (Z6 0 (JY H0))) [(5,x5),(6,x6),(21,x21),(22,x22),(23,x23),(24,x24)] H
def JZ:Z4:=NA 50 56 (sub (Z1 Tryz.f50) [1,1,1,1,0,1,0,0]) (Z6 0 (JY H0)) [(5,x5),(6,x6),(21,x21),(22,x22),(23,x23)] H
def EX:Z4:=ay 50 56 Tryz.f50 [1,1,1] H0 [(0,x0),(1,x1),(5,x5)] H
def R4:Z4:=
 Z0 (Yy (.pointer 82) .eql p0 .nilp) fun g=>
 Z0 (Z8 g false ak (some p1)) fun j=>
 Z0 (Z8 g false (ak,H) (Zf Uc [j] H)) fun h=>
 Z0 (Z8 g false ak (Xv .not h.1)) fun u=>
 Z0 (Zi g (.bool true) u) fun w=>
 Zj w
 (some (.nils,h.2))
 (EX p0 p1 .nils H h.2)
theorem Zbh:EY x5 H0 H =
 some (x5,H):=Z9 [4,7,11,12]
theorem UC:Fw x5 x6 x21 x22 x23 H0 H =
 Z0 (Z5 .add x23 (zA J 1)) fun g=>
 JZ x5 x6 x21 x22 g H0 H:=Z9 [4,7,11,12]
theorem Zbi:EZ x5 x6 x21 x22 x23 x24 H0 H =
 Z0 (Zo 3 x21 x23) fun A=>
 Z0 (Z3 true 3 A H) fun B=>
 Z0 (some ((.ptr H.length 0),H++[.cells [(.str []),(zA J 0),(zA J 0)]])) fun y=>
 Z0 (Zb 3 y.1 B y.2) fun j=>
 Z0 (Zk .string x6) fun w=>
 Z0 (Z7 0 y.1) fun C=>
 Z0 (Z3 false 1 C j.2) fun D=>
 Z0 (Zk .string D) fun E=>
 Z0 (Z5 .gtr E w) fun g=>
 Z0 (Z8 g true ak (Z7 0 y.1)) fun F=>
 Z0 (Z8 g true ak (Z3 false 1 F j.2)) fun K=>
 Z0 (Z8 g true ak (some w)) fun t37=>
 Z0 (Z8 g true ak (ZU K none (some t37) none)) fun L=>
 Z0 (Z8 g true ak (some x6)) fun M=>
 Z0 (Z8 g true ak (Yr .eql L M)) fun N=>
 Z0 (Zi g N (.bool false)) fun h=>
 Z0 (Z8 h true ak (Z7 0 y.1)) fun O=>
 Z0 (Z8 h true ak (Z3 false 1 O j.2)) fun Q=>
 Z0 (Z8 h true ak (some w)) fun R=>
 Z0 (Z8 h true ak (ZU Q (some R) none none)) fun S=>
 Z0 (Z8 h true (ak,j.2) (Zf Ky [S] j.2)) fun u=>
 Z0 (Zi h u.1 (.bool false)) fun T=>
 Zj T
 (Z0 (Z7 0 y.1) fun U=>
 Z0 (Z3 false 1 U u.2) fun V=>
 Z0 ((ZA 1 [(0,V)] [(.str [])]).map (.vs 1 .clip)) fun W=>
 Z0 (Y7 1 16 x5 W u.2) fun z=>
 Fw z.1 x6 x21 x22 x23 H0 z.2)
 (Fw x5 x6 x21 x22 x23 H0 u.2):=Z9 [4,7,11,12]
theorem TL:JZ x5 x6 x21 x22 x23 H0 H =
 Z0 (Z5 .lss x23 x22) fun g=>
 Zj g
 (EZ x5 x6 x21 x22 x23 g H0 H)
 (EY x5 H0 H):=(ZC (C:=cfg) [4,7,11,12] (Zn 0 (Ii H0)) _ _).trans (by kernel_rfl)
theorem Zbg:EX x0 x1 x5 H0 H =
 Z0 (Zf Qz [x1] H) fun h=>
 Z0 (G1 Xh [x0] h.2) fun g=>
 Z0 (Zk (.slice 108) g.1) fun j=>
 JZ x5 h.1 g.1 j (zA J 0) H0 g.2:=Z9 [4,7,11,12]
theorem N3:KJ [p0,p1] H=R4 p0 p1 H:=Be 56 [4,7,11,12] Tryz.func50
def J9:Z4:=ay 51 19 Tryz.f51 [1,1,1] H0 [(6,x6)] H
def R3:Z4:=
 Z0 (W9 [p0,p1] H) fun g=>
 Z0 (ZO g.1 0) fun w=>
 Z0 (ZO g.1 1) fun h=>
 Z0 (Z5 .eql h (zA J 0)) fun u=>
 Zj u
 (Z0 (Ge [p0,p1] g.2) fun j=>
 J9 h H j.2)
 (J9 h H g.2)
theorem Un:J9 x6 H0 H =
 some (x6,H):=Z9 [4]
theorem Sh:Wm [p0,p1] H=R3 p0 p1 H:=Be 19 [4] Tryz.func51
def Da:Z4:=ay 72 54 Tryz.f72 [1,1] H0 [(0,x0)] H
def QP:KL:=Zc (Ny 72 54 Tryz.f72 [1,1]) (Zg cfg 54 72 Tryz.f72 H0)
theorem A8:ZR 54 (QP H0):=Zw (C:=cfg) (kp:=cfg.keep 72) (sub (Z1 Tryz.f72) [1,1]) (ZB 72 Tryz.f72 H0)
def Dc:Z4:=ZP 72 54 (sub (Z1 Tryz.f72) [1,0,1,0,0,1,1,1]) (Zc (Ue 72 54 Tryz.f72 [1,0,1,0,0]) (Z6 0 (QP H0))) [(0,x0),(7,x7),(8,x8)] H
def Db:Z4:=ZP 72 54 (sub (Z1 Tryz.f72) [1,0,1,0,0,1,1]) (Zc (Ue 72 54 Tryz.f72 [1,0,1,0,0]) (Z6 0 (QP H0))) [(0,x0),(7,x7),(8,x8),(9,x9)] H
def QQ:Z4:=NA 72 54 (sub (Z1 Tryz.f72) [1,0,1,0,0]) (Z6 0 (QP H0)) [(0,x0),(7,x7),(8,x8)] H
def LS:Z4:=
 Z0 (Zk .string p0) fun g=>
 QQ p0 g (zA J 0) H H
theorem OU:Da x0 H0 H =
 Z0 (Yr .neq x0 (.str [])) fun g=>
 Z0 (Z8 g true ak (some x0)) fun h=>
 Z0 (Z8 g true ak (Zk .string h)) fun j=>
 Z0 (Z8 g true ak (Z5 .leq j (zA J 16))) fun u=>
 Z0 (Zi g u (.bool false)) fun w=>
 some (w,H):=Z9 [3,8,9]
theorem T7:Dc x0 x7 x8 H0 H =
 Z0 (Z5 .add x8 (zA J 1)) fun g=>
 QQ x0 x7 g H0 H:=Z9 [3,8,9]
theorem OV:Db x0 x7 x8 x9 H0 H =
 Z0 (Zx x0 x8) fun g=>
 Z0 (Z5 .eql g (.int .u8 95)) fun j=>
 Z0 (Z8 j false ak (some g)) fun A=>
 Z0 (Z8 j false ak (Z5 .geq A (.int .u8 97))) fun B=>
 Z0 (Z8 j false ak (some B)) fun w=>
 Z0 (Z8 w true ak (some g)) fun C=>
 Z0 (Z8 w true ak (Z5 .leq C (.int .u8 122))) fun D=>
 Z0 (Z8 j false ak (Zi w D (.bool false))) fun E=>
 Z0 (Zi j (.bool true) E) fun u=>
 Z0 (Z8 u false ak (some g)) fun F=>
 Z0 (Z8 u false ak (Z5 .geq F (.int .u8 65))) fun K=>
 Z0 (Z8 u false ak (some K)) fun y=>
 Z0 (Z8 y true ak (some g)) fun L=>
 Z0 (Z8 y true ak (Z5 .leq L (.int .u8 90))) fun M=>
 Z0 (Z8 u false ak (Zi y M (.bool false))) fun N=>
 Z0 (Zi u (.bool true) N) fun O=>
 Z0 (Xv .not O) fun h=>
 Z0 (Z8 h true ak (some x8)) fun Q=>
 Z0 (Z8 h true ak (Z5 .eql Q (zA J 0))) fun R=>
 Z0 (Z8 h true ak (some R)) fun t37=>
 Z0 (Z8 t37 false ak (some g)) fun S=>
 Z0 (Z8 t37 false ak (Z5 .lss S (.int .u8 48))) fun T=>
 Z0 (Z8 h true ak (Zi t37 (.bool true) T)) fun U=>
 Z0 (Z8 h true ak (some U)) fun z=>
 Z0 (Z8 z false ak (some g)) fun V=>
 Z0 (Z8 z false ak (Z5 .gtr V (.int .u8 57))) fun W=>
 Z0 (Z8 h true ak (Zi z (.bool true) W)) fun X=>
 Z0 (Zi h X (.bool false)) fun Y=>
 Zj Y
 (some ((.bool false),H))
 (Dc x0 x7 x8 H0 H):=Z9 [3,8,9]
theorem U0:QQ x0 x7 x8 H0 H =
 Z0 (Z5 .lss x8 x7) fun t9=>
 Zj t9
 (Db x0 x7 x8 t9 H0 H)
 (Da x0 H0 H):=(ZC (C:=cfg) [3,8,9] (Zn 0 (A8 H0)) _ _).trans (by kernel_rfl)
theorem ZaG:Uc [p0] H=LS p0 H:=Be 54 [3,8,9] Tryz.func72
def Mg:Z4:=
 Z0 (Yr .add (.str [46,116,109,112,46]) p0) fun t4=>
 Z0 (Yr .add t4 (.str [46])) fun t5=>
 some (t5,H)
theorem Iu:Qz [p0] H=Mg p0 H:=Be 6 [] Tryz.func83
def K3:Z4:=ay 84 27 Tryz.f84 [1,1] H0 [(0,x0)] H
def VY:KL:=Zc (Ny 84 27 Tryz.f84 [1,1]) (Zg cfg 27 84 Tryz.f84 H0)
theorem Lp:ZR 27 (VY H0):=Zw (C:=cfg) (kp:=cfg.keep 84) (sub (Z1 Tryz.f84) [1,1]) (ZB 84 Tryz.f84 H0)
def T6:Z4:=ZP 84 27 (sub (Z1 Tryz.f84) [1,0,1,0,0,1,1,1]) (Zc (Ue 84 27 Tryz.f84 [1,0,1,0,0]) (Z6 0 (VY H0))) [(0,x0),(5,x5),(6,x6)] H
def T5:Z4:=ZP 84 27 (sub (Z1 Tryz.f84) [1,0,1,0,0,1,1]) (Zc (Ue 84 27 Tryz.f84 [1,0,1,0,0]) (Z6 0 (VY H0))) [(0,x0),(5,x5),(6,x6),(7,x7)] H
def VZ:Z4:=NA 84 27 (sub (Z1 Tryz.f84) [1,0,1,0,0]) (Z6 0 (VY H0)) [(0,x0),(5,x5),(6,x6)] H
def Tg:Z4:=
 Z0 (Zk .string p0) fun t5=>
 VZ p0 t5 (zA J 0) H H
theorem SC:K3 x0 H0 H =
 Z0 (Yr .neq x0 (.str [])) fun g=>
 Z0 (Z8 g true ak (some x0)) fun h=>
 Z0 (Z8 g true ak (Zx h (zA J 0))) fun j=>
 Z0 (Z8 g true ak (Z5 .neq j (.int .u8 48))) fun u=>
 Z0 (Zi g u (.bool false)) fun w=>
 some (w,H):=Z9 [3,6,7]
theorem SE:T6 x0 x5 x6 H0 H =
 Z0 (Z5 .add x6 (zA J 1)) fun g=>
 VZ x0 x5 g H0 H:=Z9 [3,6,7]
theorem SD:T5 x0 x5 x6 x7 H0 H =
 Z0 (Zx x0 x6) fun h=>
 Z0 (Z5 .lss h (.int .u8 48)) fun g=>
 Z0 (Z8 g false ak (some x0)) fun j=>
 Z0 (Z8 g false ak (some x6)) fun u=>
 Z0 (Z8 g false ak (Zx j u)) fun w=>
 Z0 (Z8 g false ak (Z5 .gtr w (.int .u8 57))) fun y=>
 Z0 (Zi g (.bool true) y) fun z=>
 Zj z
 (some ((.bool false),H))
 (T6 x0 x5 x6 H0 H):=Z9 [3,6,7]
theorem BJ:VZ x0 x5 x6 H0 H =
 Z0 (Z5 .lss x6 x5) fun g=>
 Zj g
 (T5 x0 x5 x6 g H0 H)
 (K3 x0 H0 H):=(ZC (C:=cfg) [3,6,7] (Zn 0 (Lp H0)) _ _).trans (by kernel_rfl)
theorem Hm:Ky [p0] H=Tg p0 H:=Be 27 [3,6,7] Tryz.func84
def N0:Z4:=
 Z0 (Zu p0) fun O=>
 Z0 (Z7 3 O) fun Q=>
 Z0 (Z3 false 1 Q H) fun R=>
 Z0 (Y9 .string .nilp false R p1 H) fun j=>
 Z0 (Yy (.pointer 86) .neq j .nilp) fun u=>
 Zj u
 (Z0 (Zu p0) fun w=>
 Z0 (Z7 1 w) fun y=>
 Z0 (Z3 false 1 y H) fun z=>
 Z0 (Zu j) fun A=>
 Z0 (Z7 0 A) fun B=>
 Z0 (Z3 false 1 B H) fun C=>
 Z0 (Zk (.slice 5) C) fun D=>
 Z0 (Z5 .sub z D) fun E=>
 Z0 (Zu p0) fun F=>
 Z0 (Z7 1 F) fun K=>
 Z0 (Zb 1 K E H) fun g=>
 Z0 (Zu p0) fun L=>
 Z0 (Z7 3 L) fun M=>
 Z0 (Z3 false 1 M g.2) fun N=>
 Z0 (J0 .string N p1 g.2) fun h=>
 some (ak,h.2))
 (some (ak,H))
theorem Au:Ge [p0,p1] H=N0 p0 p1 H:=Be 30 [] Tryz.func85
def FU:Z4:=ay 97 63 Tryz.f97 [1,1,1,1,1] H0 [(0,x0),(4,x4)] H
def FT:Z4:=ay 97 63 Tryz.f97 [1,1,1] H0 [(0,x0)] H
def FS:Z4:=ay 97 63 Tryz.f97 [1,1] H0 [(0,x0)] H
def R5:Z4:=
 Z0 (Yy (.pointer 124) .eql p0 .nilp) fun g=>
 Zj g
 (some ((.tuple [(.str []),(zA J 5)]),H))
 (FS p0 H H)
theorem Sb:FU x0 x4 H0 H =
 Z0 (Zu x0) fun u=>
 Z0 (Z7 5 u) fun w=>
 Z0 (Z3 false 1 w H) fun y=>
 Z0 (Z5 .add y (zA J 1)) fun z=>
 Z0 (Zu x0) fun A=>
 Z0 (Z7 5 A) fun B=>
 Z0 (Zb 1 B z H) fun g=>
 Z0 (Zu x0) fun C=>
 Z0 (Z7 0 C) fun D=>
 Z0 (Z7 2 D) fun E=>
 Z0 (Z3 false 1 E g.2) fun F=>
 Z0 ((ZA 1 [(0,x4)] [(.str [])]).map (.vs 1 .clip)) fun K=>
 Z0 (Y7 1 16 F K g.2) fun h=>
 Z0 (Zu x0) fun L=>
 Z0 (Z7 0 L) fun M=>
 Z0 (Z7 2 M) fun N=>
 Z0 (Zb 1 N h.1 h.2) fun j=>
 some ((.tuple [x4,(zA J 0)]),j.2):=Z9 [3,5,9]
theorem GA:FT x0 H0 H =
 Z0 (Zu x0) fun w=>
 Z0 (Z7 0 w) fun y=>
 Z0 (Z7 1 y) fun z=>
 Z0 (Z3 false 1 z H) fun A=>
 Z0 (Zf Qz [A] H) fun h=>
 Z0 (Zu x0) fun B=>
 Z0 (Z7 5 B) fun C=>
 Z0 (Z3 false 1 C h.2) fun D=>
 Z0 (Z5 .add D (zA J 1)) fun E=>
 Z0 (Zf LB [E] h.2) fun j=>
 Z0 (Yr .add h.1 j.1) fun u=>
 Z0 (Zu x0) fun F=>
 Z0 (Z7 0 F) fun K=>
 Z0 (Z7 0 K) fun L=>
 Z0 (Z3 false 1 L j.2) fun t37=>
 Z0 (Jn [t37,u] j.2) fun g=>
 Z0 (Z5 .neq g.1 (zA J 0)) fun M=>
 Zj M
 (some ((.tuple [(.str []),g.1]),g.2))
 (FU x0 u H0 g.2):=Z9 [3,5,9]
theorem Uo:FS x0 H0 H =
 Z0 (Zu x0) fun t9=>
 Z0 (Z7 6 t9) fun h=>
 Z0 (Z3 false 1 h H) fun g=>
 Z0 (Z8 g false ak (some x0)) fun j=>
 Z0 (Z8 g false ak (Zu j)) fun u=>
 Z0 (Z8 g false ak (Z7 0 u)) fun w=>
 Z0 (Z8 g false ak (Z7 0 w)) fun y=>
 Z0 (Z8 g false ak (Z3 false 1 y H)) fun z=>
 Z0 (Z8 g false ak (Yy (.pointer 82) .eql z .nilp)) fun A=>
 Z0 (Zi g (.bool true) A) fun B=>
 Zj B
 (some ((.tuple [(.str []),(zA J 8)]),H))
 (FT x0 H0 H):=Z9 [3,5,9]
theorem Si:VL [p0] H=R5 p0 H:=Be 63 [3,5,9] Tryz.func97
def BI:Z4:=ay 98 51 Tryz.f98 [1,1,1,1,1,1] H0 [(0,x0),(1,x1),(8,x8)] H
def BH:Z4:=ay 98 51 Tryz.f98 [1,1,1,1,1] H0 [(0,x0),(1,x1),(8,x8)] H
def BG:Z4:=ay 98 51 Tryz.f98 [1,1,1] H0 [(0,x0),(1,x1),(2,x2)] H
def BF:Z4:=ay 98 51 Tryz.f98 [1,1] H0 [(0,x0),(1,x1),(2,x2)] H
def Dj:Z4:=
 Z0 (Xd [p0,p1] H) fun g=>
 Z0 (Z5 .neq g.1 (zA J 0)) fun h=>
 Zj h
 (some (g.1,g.2))
 (BF p0 p1 p2 H g.2)
theorem M5:BI x0 x1 x8 H0 H =
 Z0 (Zu x0) fun h=>
 Z0 (Z7 0 h) fun j=>
 Z0 (Z7 0 j) fun u=>
 Z0 (Z3 false 1 u H) fun w=>
 Z0 (Jm [w,x1,x8] H) fun g=>
 some (g.1,g.2):=Z9 [4,6,9,11]
theorem Kk:BH x0 x1 x8 H0 H =
 Z0 (Zk .string x8) fun h=>
 Z0 (Zu x0) fun j=>
 Z0 (Z7 4 j) fun u=>
 Z0 (Z3 false 1 u H) fun w=>
 Z0 (Zu x0) fun y=>
 Z0 (Z7 0 y) fun z=>
 Z0 (G1 XN [z] H) fun g=>
 Z0 (Z5 .sub w g.1) fun A=>
 Z0 (Z5 .gtr h A) fun B=>
 Zj B
 (some ((zA J 11),g.2))
 (BI x0 x1 x8 H0 g.2):=Z9 [4,6,9,11]
theorem VF:BG x0 x1 x2 H0 H =
 Z0 (Zf TR [x2] H) fun g=>
 Z0 (ZO g.1 0) fun j=>
 Z0 (ZO g.1 1) fun h=>
 Z0 (Z5 .neq h (zA J 0)) fun u=>
 Zj u
 (some (h,g.2))
 (BH x0 x1 j H0 g.2):=Z9 [4,6,9,11]
theorem W3:BF x0 x1 x2 H0 H =
 Z0 (Zu x0) fun g=>
 Z0 (Z7 0 g) fun h=>
 Z0 (Z7 3 h) fun j=>
 Z0 (Z3 false 1 j H) fun u=>
 Z0 (Y9 .string (.bool false) false u x1 H) fun w=>
 Zj w
 (some ((zA J 8),H))
 (BG x0 x1 x2 H0 H):=Z9 [4,6,9,11]
theorem MN:V8 [p0,p1,p2] H=Dj p0 p1 p2 H:=Be 51 [4,6,9,11] Tryz.func98
def DQ:Z4:=ay 99 29 Tryz.f99 [1,1,1] H0 [(0,x0),(1,x1)] H
def DP:Z4:=ay 99 29 Tryz.f99 [1,1] H0 [(0,x0),(1,x1)] H
def FC:Z4:=
 Z0 (Xd [p0,p1] H) fun g=>
 Z0 (Z5 .neq g.1 (zA J 0)) fun h=>
 Zj h
 (some (g.1,g.2))
 (DP p0 p1 H g.2)
theorem Lm:DQ x0 x1 H0 H =
 Z0 (Zu x0) fun h=>
 Z0 (Z7 0 h) fun j=>
 Z0 (Z7 3 j) fun u=>
 Z0 (Z3 false 1 u H) fun w=>
 Z0 (Xq .string w x1 (.bool true) H) fun g=>
 some ((zA J 0),g.2):=Z9 [4,7]
theorem G5:DP x0 x1 H0 H =
 Z0 (Zu x0) fun h=>
 Z0 (Z7 0 h) fun j=>
 Z0 (Z7 0 j) fun u=>
 Z0 (Z3 false 1 u H) fun w=>
 Z0 (Gd [w,x1] H) fun g=>
 Z0 (Z5 .neq g.1 (zA J 0)) fun y=>
 Zj y
 (some (g.1,g.2))
 (DQ x0 x1 H0 g.2):=Z9 [4,7]
theorem LO:Vq [p0,p1] H=FC p0 p1 H:=Be 29 [4,7] Tryz.func99
def DR:Z4:=ay 100 23 Tryz.f100 [1,1] H0 [(0,x0)] H
def FE:Z4:=
 Z0 (Yy (.pointer 124) .eql p0 .nilp) fun t4=>
 Z0 (Z8 t4 false ak (some p0)) fun B=>
 Z0 (Z8 t4 false ak (Zu B)) fun C=>
 Z0 (Z8 t4 false ak (Z7 6 C)) fun D=>
 Z0 (Z8 t4 false ak (Z3 false 1 D H)) fun t9=>
 Z0 (Zi t4 (.bool true) t9) fun g=>
 Z0 (Z8 g false ak (some p0)) fun h=>
 Z0 (Z8 g false ak (Zu h)) fun j=>
 Z0 (Z8 g false ak (Z7 0 j)) fun u=>
 Z0 (Z8 g false ak (Z7 0 u)) fun w=>
 Z0 (Z8 g false ak (Z3 false 1 w H)) fun y=>
 Z0 (Z8 g false ak (Yy (.pointer 82) .eql y .nilp)) fun z=>
 Z0 (Zi g (.bool true) z) fun A=>
 Zj A
 (some ((zA J 0),H))
 (DR p0 H H)
theorem Ln:DR x0 H0 H =
 Z0 (Zu x0) fun h=>
 Z0 (Z7 0 h) fun j=>
 Z0 (G1 XN [j] H) fun g=>
 some (g.1,g.2):=Z9 [3]
theorem LQ:QU [p0] H=FE p0 H:=Be 23 [3] Tryz.func100
def GC:Z4:=ay 102 28 Tryz.f102 [1,1,1] H0 [(0,x0),(1,x1)] H
def GB:Z4:=ay 102 28 Tryz.f102 [1,1] H0 [(0,x0),(1,x1)] H
def UF:Z4:=
 Z0 (Xd [p0,p1] H) fun g=>
 Z0 (Z5 .neq g.1 (zA J 0)) fun h=>
 Zj h
 (some (g.1,g.2))
 (GB p0 p1 H g.2)
theorem Nx:GC x0 x1 H0 H =
 Z0 (Zu x0) fun h=>
 Z0 (Z7 0 h) fun j=>
 Z0 (forgetE.run [j,x1] H) fun g=>
 some ((zA J 0),g.2):=Z9 [4,7]
theorem Ji:GB x0 x1 H0 H =
 Z0 (Zu x0) fun h=>
 Z0 (Z7 0 h) fun j=>
 Z0 (Z7 0 j) fun u=>
 Z0 (Z3 false 1 u H) fun w=>
 Z0 (Wm [w,x1] H) fun g=>
 Z0 (Z5 .neq g.1 (zA J 0)) fun y=>
 Zj y
 (some (g.1,g.2))
 (GC x0 x1 H0 g.2):=Z9 [4,7]
theorem K5:WJ [p0,p1] H=UF p0 p1 H:=Be 28 [4,7] Tryz.func102
def Zbv:Z4:=
 Z0 (OS ZdG [p0] H) fun g=>
 some (g.1,g.2)
theorem Zg9:LB [p0] H=Zbv p0 H:=Be 5 [] Tryz.func124
def DS:Z4:=ay 125 22 Tryz.f125 [1,1] H0 [] H
def FF:Z4:=
 Z0 (Yy (.pointer 124) .eql p0 .nilp) fun C=>
 Zj C
 (some ((zA J 5),H))
 (Z0 (Zu p0) fun h=>
 Z0 (Z7 6 h) fun j=>
 Z0 (Z3 false 1 j H) fun u=>
 Zj u
 (some ((zA J 8),H))
 (Z0 (Zu p0) fun w=>
 Z0 (Z7 0 w) fun y=>
 Z0 (Z7 2 y) fun z=>
 Z0 (Z3 false 1 z H) fun A=>
 Z0 (Zf YP [A,p1] H) fun g=>
 Z0 (Xv .not g.1) fun B=>
 Zj B
 (some ((zA J 5),g.2))
 (DS H g.2)))
theorem Lo:DS H0 H =
 some ((zA J 0),H):=Z9 [7]
theorem LR:Xd [p0,p1] H=FF p0 p1 H:=Be 22 [7] Tryz.func125
def Ct:Z4:=ay 126 27 Tryz.f126 [1,1,1] H0 [(4,x4)] H
def Q7:KL:=Zc (Ny 126 27 Tryz.f126 [1,1,1]) (Zg cfg 27 126 Tryz.f126 H0)
theorem Oa:ZR 27 (Q7 H0):=Zw (C:=cfg) (kp:=cfg.keep 126) (sub (Z1 Tryz.f126) [1,1,1]) (ZB 126 Tryz.f126 H0)
def Cv:Z4:=ZP 126 27 (sub (Z1 Tryz.f126) [1,1,0,1,0,0,1,1,1]) (Zc (Ue 126 27 Tryz.f126 [1,1,0,1,0,0]) (Z6 0 (Q7 H0))) [(4,x4),(9,x9),(10,x10),(11,x11)] H
def Zhe:KL:=Zc (Ny 126 27 Tryz.f126 [1,1,0,1,0,0,1,1,1]) (Zc (Ue 126 27 Tryz.f126 [1,1,0,1,0,0]) (Z6 0 (Q7 H0)))
def Cw:Z4:=ZP 126 27 (sub (Z1 Tryz.f126) [1,1,0,1,0,0,1,1,0,0,1,1,1]) (Z6 1 (Zhe H0)) [(4,x4),(7,x7),(9,x9),(10,x10),(11,x11)] H
def Cu:Z4:=ZP 126 27 (sub (Z1 Tryz.f126) [1,1,0,1,0,0,1,1]) (Zc (Ue 126 27 Tryz.f126 [1,1,0,1,0,0]) (Z6 0 (Q7 H0))) [(4,x4),(9,x9),(10,x10),(11,x11),(12,x12)] H
def KV:Z4:=NA 126 27 (sub (Z1 Tryz.f126) [1,1,0,1,0,0]) (Z6 0 (Q7 H0)) [(4,x4),(9,x9),(10,x10),(11,x11)] H
def Af:Z4:=
 Z0 (some ((.ptr H.length 0),H++[.bld 201 5 []])) fun h=>
 Z0 (Zk (.slice 9) p0) fun g=>
 KV h.1 p0 g (zA J 0) H h.2
theorem ZcO:Ct x4 H0 H =
 Z0 (stringE.run [x4] H) fun g=>
 some ((.tuple [g.1,(zA J 0)]),g.2):=Z9 [4,8,9,10]
theorem ZcP:Cv x4 x9 x10 x11 H0 H =
 Z0 (Z5 .add x11 (zA J 1)) fun g=>
 KV x4 x9 x10 g H0 H:=Z9 [4,8,9,10]
theorem ZcQ:Cw x4 x7 x9 x10 x11 H0 H =
 Z0 (textE.run [x4,x7] H) fun g=>
 Cv x4 x9 x10 x11 H0 g.2:=Z9 [4,8,9,10]
theorem Ng:Cu x4 x9 x10 x11 x12 H0 H =
 Z0 (Zo 1 x9 x11) fun j=>
 Z0 (Z3 false 1 j H) fun u=>
 Z0 (Zf TS [u] H) fun g=>
 Z0 (ZO g.1 0) fun w=>
 Z0 (ZO g.1 1) fun h=>
 Z0 (Z5 .neq h (zA J 0)) fun y=>
 Zj y
 (some ((.tuple [(.str []),h]),g.2))
 (Cw x4 w x9 x10 x11 H0 g.2):=Z9 [4,8,9,10]
theorem Nh:KV x4 x9 x10 x11 H0 H =
 Z0 (Z5 .lss x11 x10) fun g=>
 Zj g
 (Cu x4 x9 x10 x11 g H0 H)
 (Ct x4 H0 H):=(ZC (C:=cfg) [4,8,9,10] (Zn 0 (Oa H0)) _ _).trans (by kernel_rfl)
theorem ZdO:TR [p0] H=Af p0 H:=Be 27 [4,8,9,10] Tryz.func126
def BK:Z4:=ay 127 29 Tryz.f127 [1,1,1] H0 [(3,x3)] H
def WS:KL:=Zc (Ny 127 29 Tryz.f127 [1,1,1]) (Zg cfg 29 127 Tryz.f127 H0)
theorem Py:ZR 29 (WS H0):=Zw (C:=cfg) (kp:=cfg.keep 127) (sub (Z1 Tryz.f127) [1,1,1]) (ZB 127 Tryz.f127 H0)
def UM:Z4:=ZP 127 29 (sub (Z1 Tryz.f127) [1,1,0,1,0,0,1,1,1]) (Zc (Ue 127 29 Tryz.f127 [1,1,0,1,0,0]) (Z6 0 (WS H0))) [(0,x0),(3,x3),(10,x10),(11,x11),(12,x12)] H
def BM:Z4:=ZP 127 29 (sub (Z1 Tryz.f127) [1,1,0,1,0,0,1,1]) (Zc (Ue 127 29 Tryz.f127 [1,1,0,1,0,0]) (Z6 0 (WS H0))) [(0,x0),(3,x3),(10,x10),(11,x11),(12,x12),(13,x13)] H
def WT:Z4:=NA 127 29 (sub (Z1 Tryz.f127) [1,1,0,1,0,0]) (Z6 0 (WS H0)) [(0,x0),(3,x3),(10,x10),(11,x11),(12,x12)] H
def Dk:Z4:=
 Z0 (Zu p0) fun j=>
 Z0 (Z7 0 j) fun u=>
 Z0 (Z3 false 1 u H) fun t9=>
 Z0 (G1 Xh [t9] H) fun g=>
 Z0 (Zk (.slice 108) g.1) fun h=>
 WT p0 (zA J 0) g.1 h (zA J 0) H g.2
theorem M6:BK x3 H0 H =
 some (x3,H):=Z9 [4,7,8]
theorem Km:UM x0 x3 x10 x11 x12 H0 H =
 Z0 (Z5 .add x12 (zA J 1)) fun g=>
 WT x0 x3 x10 x11 g H0 H:=Z9 [4,7,8]
theorem M7:BM x0 x3 x10 x11 x12 x13 H0 H =
 Z0 (Zo 3 x10 x12) fun u=>
 Z0 (Z3 true 3 u H) fun w=>
 Z0 (some ((.ptr H.length 0),H++[.cells [(.str []),(zA J 0),(zA J 0)]])) fun j=>
 Z0 (Zb 3 j.1 w j.2) fun g=>
 Z0 (Zu x0) fun y=>
 Z0 (Z7 2 y) fun z=>
 Z0 (Z3 false 1 z g.2) fun A=>
 Z0 (Z7 0 j.1) fun B=>
 Z0 (Z3 false 1 B g.2) fun C=>
 Z0 (Zf YP [A,C] g.2) fun h=>
 Zj h.1
 (Z0 (Z7 1 j.1) fun D=>
 Z0 (Z3 false 1 D h.2) fun E=>
 Z0 (Z5 .add x3 E) fun F=>
 UM x0 F x10 x11 x12 H0 h.2)
 (UM x0 x3 x10 x11 x12 H0 h.2):=Z9 [4,7,8]
theorem Ko:WT x0 x3 x10 x11 x12 H0 H =
 Z0 (Z5 .lss x12 x11) fun g=>
 Zj g
 (BM x0 x3 x10 x11 x12 g H0 H)
 (BK x3 H0 H):=(ZC (C:=cfg) [4,7,8] (Zn 0 (Py H0)) _ _).trans (by kernel_rfl)
theorem MO:XN [p0] H=Dk p0 H:=Be 29 [4,7,8] Tryz.func127
def VG:Z4:=
 Z0 (Zf Wk [p0,p1] H) fun g=>
 Z0 (Z5 .geq g.1 (zA J 0)) fun h=>
 some (h,g.2)
theorem G6:YP [p0,p1] H=VG p0 p1 H:=Be 9 [] Tryz.func163
def Cx:Z4:=ay 164 23 Tryz.f164 [1,1] H0 [(0,x0)] H
def Ag:Z4:=
 Z0 (Zk .string p0) fun g=>
 Z0 (Z5 .gtr g (zA J 4096)) fun h=>
 Zj h
 (some ((.tuple [(.str []),(zA J 3)]),H))
 (Cx p0 H H)
theorem ZcR:Cx x0 H0 H =
 Z0 (Zk .string x0) fun t9=>
 Z0 (Z5 .shr t9 (.int .u64 8)) fun j=>
 Z0 (Yv .u8 j) fun u=>
 Z0 (Zk .string x0) fun w=>
 Z0 (Yv .u8 w) fun y=>
 Z0 ((ZA 1 [(0,u),(1,y)] [(.int .u8 0),(.int .u8 0)]).map (.vs 1 .clip)) fun z=>
 Z0 (UG z H) fun A=>
 Z0 (Yr .add A x0) fun h=>
 Z0 (Zf PD [h] H) fun g=>
 Z0 (Yr .add h g.1) fun B=>
 some ((.tuple [B,(zA J 0)]),g.2):=Z9 [3]
theorem ZdP:TS [p0] H=Ag p0 H:=Be 23 [3] Tryz.func164
def DO:Z4:=ay 166 49 Tryz.f166 [1,1,1,1,1,1,1] H0 [(2,x2),(12,x12),(13,x13)] H
def DN:Z4:=ay 166 49 Tryz.f166 [1,1,1,1,1] H0 [(2,x2),(10,x10)] H
def DM:Z4:=ay 166 49 Tryz.f166 [1,1,1,1] H0 [(2,x2),(10,x10)] H
def DL:Z4:=ay 166 49 Tryz.f166 [1,1] H0 [(0,x0),(1,x1),(2,x2)] H
def QW:Z4:=
 Z0 (Xd [p0,p1] H) fun g=>
 Z0 (Z5 .neq g.1 (zA J 0)) fun h=>
 Zj h
 (some ((.tuple [(.str []),(zA J 0),g.1]),g.2))
 (DL p0 p1 p2 H g.2)
theorem Ll:DO x2 x12 x13 H0 H =
 Z0 (Z5 .add x2 x13) fun g=>
 some ((.tuple [x12,g,(zA J 0)]),H):=Z9 [4,7,9,12]
theorem Lk:DN x2 x10 H0 H =
 Z0 (Zf Lx [x10,(zA J 0)] H) fun g=>
 Z0 (ZO g.1 0) fun j=>
 Z0 (ZO g.1 1) fun u=>
 Z0 (ZO g.1 2) fun h=>
 Z0 (Z5 .neq h (zA J 0)) fun w=>
 Zj w
 (some ((.tuple [(.str []),(zA J 0),h]),g.2))
 (DO x2 j u H0 g.2):=Z9 [4,7,9,12]
theorem G4:DM x2 x10 H0 H =
 Z0 (Yr .eql x10 (.str [])) fun g=>
 Zj g
 (some ((.tuple [(.str []),(zA J 0),(zA J 5)]),H))
 (DN x2 x10 H0 H):=Z9 [4,7,9,12]
theorem VX:DL x0 x1 x2 H0 H =
 Z0 (Zu x0) fun j=>
 Z0 (Z7 0 j) fun u=>
 Z0 (Z7 0 u) fun w=>
 Z0 (Z3 false 1 w H) fun y=>
 Z0 (Gc [y,x1,x2,(zA J 4102)] H) fun g=>
 Z0 (ZO g.1 0) fun z=>
 Z0 (ZO g.1 1) fun h=>
 Z0 (Z5 .neq h (zA J 0)) fun A=>
 Zj A
 (some ((.tuple [(.str []),(zA J 0),h]),g.2))
 (DM x2 z H0 g.2):=Z9 [4,7,9,12]
theorem Gg:Vp [p0,p1,p2] H=QW p0 p1 p2 H:=Be 49 [4,7,9,12] Tryz.func166
def Ui:Z4:=ay 194 19 Tryz.f194 [1,1] H0 [] H
def X1:KL:=Zc (Ny 194 19 Tryz.f194 [1,1]) (Zg cfg 19 194 Tryz.f194 H0)
theorem G7:ZR 19 (X1 H0):=Zw (C:=cfg) (kp:=cfg.keep 194) (sub (Z1 Tryz.f194) [1,1]) (ZB 194 Tryz.f194 H0)
def Uk:Z4:=ZP 194 19 (sub (Z1 Tryz.f194) [1,0,1,0,0,1,1,1]) (Zc (Ue 194 19 Tryz.f194 [1,0,1,0,0]) (Z6 0 (X1 H0))) [(0,x0),(1,x1),(7,x7),(8,x8)] H
def Uj:Z4:=ZP 194 19 (sub (Z1 Tryz.f194) [1,0,1,0,0,1,1]) (Zc (Ue 194 19 Tryz.f194 [1,0,1,0,0]) (Z6 0 (X1 H0))) [(0,x0),(1,x1),(7,x7),(8,x8),(9,x9)] H
def X2:Z4:=NA 194 19 (sub (Z1 Tryz.f194) [1,0,1,0,0]) (Z6 0 (X1 H0)) [(0,x0),(1,x1),(7,x7),(8,x8)] H
def UE:Z4:=
 Z0 (Zk (.slice 9) p0) fun g=>
 X2 p0 p1 g (zA J 0) H H
theorem B1:Ui H0 H =
 some ((zA J (-1)),H):=Z9 [3,6,7]
theorem B3:Uk x0 x1 x7 x8 H0 H =
 Z0 (Z5 .add x8 (zA J 1)) fun g=>
 X2 x0 x1 x7 g H0 H:=Z9 [3,6,7]
theorem B2:Uj x0 x1 x7 x8 x9 H0 H =
 Z0 (Zo 1 x0 x8) fun g=>
 Z0 (Z3 false 1 g H) fun h=>
 Z0 (Yr .eql x1 h) fun j=>
 Zj j
 (some (x8,H))
 (Uk x0 x1 x7 x8 H0 H):=Z9 [3,6,7]
theorem Vw:X2 x0 x1 x7 x8 H0 H =
 Z0 (Z5 .lss x8 x7) fun t9=>
 Zj t9
 (Uj x0 x1 x7 x8 t9 H0 H)
 (Ui H0 H):=(ZC (C:=cfg) [3,6,7] (Zn 0 (G7 H0)) _ _).trans (by kernel_rfl)
theorem BS:Wk [p0,p1] H=UE p0 p1 H:=Be 19 [3,6,7] Tryz.func194
def Zew:Z4:=
 Z0 (Zf Hd [p0] H) fun g=>
 Z0 (Yv .u8 g.1) fun B=>
 Z0 (Z5 .shr g.1 (.int .u64 8)) fun t9=>
 Z0 (Yv .u8 t9) fun h=>
 Z0 (Z5 .shr g.1 (.int .u64 16)) fun j=>
 Z0 (Yv .u8 j) fun u=>
 Z0 (Z5 .shr g.1 (.int .u64 24)) fun w=>
 Z0 (Yv .u8 w) fun y=>
 Z0 ((ZA 1 [(0,B),(1,h),(2,u),(3,y)] [(.int .u8 0),(.int .u8 0),(.int .u8 0),(.int .u8 0)]).map (.vs 1 .clip)) fun z=>
 Z0 (UG z g.2) fun A=>
 some (A,g.2)
theorem Zia:PD [p0] H=Zew p0 H:=Be 19 [] Tryz.func195
def Zan:Z4:=ay 196 58 Tryz.f196 [1,1,1,1,1,1,1,1] H0 [(1,x1),(7,x7),(8,x8)] H
def Zam:Z4:=ay 196 58 Tryz.f196 [1,1,1,1,1,1,1] H0 [(1,x1),(7,x7),(8,x8)] H
def Zal:Z4:=ay 196 58 Tryz.f196 [1,1,1,1,1,1] H0 [(1,x1),(7,x7),(8,x8)] H
def Zak:Z4:=ay 196 58 Tryz.f196 [1,1,1,1] H0 [(1,x1),(7,x7)] H
def Zaj:Z4:=ay 196 58 Tryz.f196 [1,1] H0 [(0,x0),(1,x1)] H
def Zbs:Z4:=
 Z0 (Z5 .lss p1 (zA J 0)) fun g=>
 Z0 (Z8 g false ak (some p1)) fun h=>
 Z0 (Z8 g false ak (some p0)) fun j=>
 Z0 (Z8 g false ak (Zk .string j)) fun u=>
 Z0 (Z8 g false ak (Z5 .gtr h u)) fun w=>
 Z0 (Zi g (.bool true) w) fun y=>
 Zj y
 (some ((.tuple [(.str []),(zA J 0),(zA J 2)]),H))
 (Zaj p0 p1 H H)
theorem ZfE:Zan x1 x7 x8 H0 H =
 Z0 (Z5 .add x8 (zA J 2)) fun g=>
 Z0 (ZU x7 (some (zA J 2)) (some g) none) fun h=>
 Z0 (Z5 .add x1 x8) fun j=>
 Z0 (Z5 .add j (zA J 6)) fun u=>
 some ((.tuple [h,u,(zA J 0)]),H):=Z9 b8
theorem ZfD:Zam x1 x7 x8 H0 H =
 Z0 (Z5 .add x8 (zA J 2)) fun h=>
 Z0 (Z5 .add x8 (zA J 6)) fun j=>
 Z0 (ZU x7 (some h) (some j) none) fun u=>
 Z0 (Z5 .add x8 (zA J 2)) fun w=>
 Z0 (ZU x7 none (some w) none) fun y=>
 Z0 (Zf PD [y] H) fun g=>
 Z0 (Yr .neq u g.1) fun z=>
 Zj z
 (some ((.tuple [(.str []),(zA J 0),(zA J 13)]),g.2))
 (Zan x1 x7 x8 H0 g.2):=Z9 b8
theorem ZfC:Zal x1 x7 x8 H0 H =
 Z0 (Zk .string x7) fun g=>
 Z0 (Z5 .add x8 (zA J 6)) fun h=>
 Z0 (Z5 .lss g h) fun t37=>
 Zj t37
 (some ((.tuple [(.str []),(zA J 0),(zA J 14)]),H))
 (Zam x1 x7 x8 H0 H):=Z9 b8
theorem ZfB:Zak x1 x7 H0 H =
 Z0 (Zx x7 (zA J 0)) fun h=>
 Z0 (Yv .i64 h) fun j=>
 Z0 (Z5 .shl j (.int .u64 8)) fun u=>
 Z0 (Zx x7 (zA J 1)) fun w=>
 Z0 (Yv .i64 w) fun y=>
 Z0 (Z5 .or u y) fun g=>
 Z0 (Z5 .gtr g (zA J 4096)) fun z=>
 Zj z
 (some ((.tuple [(.str []),(zA J 0),(zA J 13)]),H))
 (Zal x1 x7 g H0 H):=Z9 b8
theorem ZfA:Zaj x0 x1 H0 H =
 Z0 (ZU x0 (some x1) none none) fun g=>
 Z0 (Zk .string g) fun h=>
 Z0 (Z5 .lss h (zA J 2)) fun j=>
 Zj j
 (some ((.tuple [(.str []),(zA J 0),(zA J 14)]),H))
 (Zak x1 g H0 H):=Z9 b8
theorem Zg7:Lx [p0,p1] H=Zbs p0 p1 H:=Be 58 [3,6,9,11,13] Tryz.func196
def ZcL:Z4:=ay 209 33 Tryz.f209 [1,1,1] H0 [(3,x3)] H
def RG:KL:=Zc (Ny 209 33 Tryz.f209 [1,1,1]) (Zg cfg 33 209 Tryz.f209 H0)
theorem Ze8:ZR 33 (RG H0):=Zw (C:=cfg) (kp:=cfg.keep 209) (sub (Z1 Tryz.f209) [1,1,1]) (ZB 209 Tryz.f209 H0)
def ZcN:Z4:=ZP 209 33 (sub (Z1 Tryz.f209) [1,1,0,1,0,0,1,1,1]) (Zc (Ue 209 33 Tryz.f209 [1,1,0,1,0,0]) (Z6 0 (RG H0))) [(0,x0),(3,x3),(6,x6),(7,x7)] H
def ZcM:Z4:=ZP 209 33 (sub (Z1 Tryz.f209) [1,1,0,1,0,0,1,1]) (Zc (Ue 209 33 Tryz.f209 [1,1,0,1,0,0]) (Z6 0 (RG H0))) [(0,x0),(3,x3),(6,x6),(7,x7),(8,x8)] H
def RH:Z4:=NA 209 33 (sub (Z1 Tryz.f209) [1,1,0,1,0,0]) (Z6 0 (RG H0)) [(0,x0),(3,x3),(6,x6),(7,x7)] H
def Zev:Z4:=
 Z0 (Zk .string p0) fun g=>
 RH p0 (.int .u32 4294967295) g (zA J 0) H H
theorem Zhb:ZcL x3 H0 H =
 Z0 (Xv .xor x3) fun g=>
 some (g,H):=Z9 [4,8,9]
theorem Zhd:ZcN x0 x3 x6 x7 H0 H =
 Z0 (Z5 .add x7 (zA J 1)) fun g=>
 RH x0 x3 x6 g H0 H:=Z9 [4,8,9]
theorem Zhc:ZcM x0 x3 x6 x7 x8 H0 H =
 Z0 (Zx x0 x7) fun j=>
 Z0 (Yv .u32 j) fun u=>
 Z0 (Z5 .xor x3 u) fun g=>
 Z0 (Z5 .and g (.int .u32 15)) fun w=>
 Z0 (P1 16 1 Zp5 w) fun y=>
 Z0 (Z3 false 1 y H) fun z=>
 Z0 (Z5 .shr g (.int .u64 4)) fun A=>
 Z0 (Z5 .xor z A) fun h=>
 Z0 (Z5 .and h (.int .u32 15)) fun B=>
 Z0 (P1 16 1 Zp5 B) fun C=>
 Z0 (Z3 false 1 C H) fun D=>
 Z0 (Z5 .shr h (.int .u64 4)) fun E=>
 Z0 (Z5 .xor D E) fun F=>
 ZcN x0 F x6 x7 H0 H:=Z9 [4,8,9]
theorem Cs:RH x0 x3 x6 x7 H0 H =
 Z0 (Z5 .lss x7 x6) fun g=>
 Zj g
 (ZcM x0 x3 x6 x7 g H0 H)
 (ZcL x3 H0 H):=(ZC (C:=cfg) [4,8,9] (Zn 0 (Ze8 H0)) _ _).trans (by kernel_rfl)
theorem Zi9:Hd [p0] H=Zev p0 H:=Be 33 [4,8,9] Tryz.func209
end
end Go.Am
