/- The functions of the translation over the abstract machine -/
import Derived.Test.YtnaneekpogohaaaGreatDoorXeGx
open Go.Am.AV renaming int->J
open Go.IntKind renaming i64->zA
namespace Go.Am
open Go.Proofs
set_option maxRecDepth 100000
noncomputable abbrev ZN (f n:Nat):=Yn cfg (Zb cfg) (Y5 cfg (cfg.keep f) n) (cfg.keep f) n Zc Z8
noncomputable abbrev Po (f n:Nat):=Y5 cfg (cfg.keep f) n
noncomputable section
abbrev M0 (f n:Nat)(F:Func)(p:List Nat):KL->AL->Hp->Z5:=fun k g H=>ZN f n (sub (Z1 F) p) k (Y4 (cfg.keep f) (sub (Z1 F) p) g) H
abbrev VN (f n:Nat)(F:Func)(p:List Nat):KL->AL->Hp->Z5:=fun k g H=>Po f n (sub (Z1 F) p) k (Y4 (cfg.keep f) (sub (Z1 F) p) g) H
variable (p0 p1 p2 p3 x0 x1 x2 x3 x4 x5 x6 x7 x8 x9 x10 x11 x12 x13 x18 x19 x20 x21 x22 x23 x24:AV)(H0 H:Hp)
abbrev b9 (F:Func):=sub (Z1 F)
abbrev ba:List Nat:=[3,5,7,11,12]
abbrev bb:List Nat:=[3,5,6,10,11]
abbrev bc:List Nat:=[3,6,9,11,13]
def ZfE:Z5:=
 Z0 (Qe p0 (J zA 0)) fun t4=>
 Z0 (VE t4 (J zA 262144)) fun t5=>
 Z0 (some ((.map H.length),H++[.map [] 0])) fun g=>
 Z0 ((YF [(0,1,t5),(3,1,g.1)] [(J zA 0),(J zA 0),(J zA 0),.nilm,(.bool false),(J zA 0)]).map .agg) fun j=>
 Z0 (ZO j g.2) fun h=>
 some (h.1,h.2)
theorem Zjn:Du [p0] H=ZfE p0 H:=Be 9 [] Tryz.func15
noncomputable abbrev b8 (f n:Nat)(F:Func)(p:List Nat)(G:Hp):=fun k K=>ZN f n (sub (Z1 F) p) (Zf cfg n f F G) k K
def Jt:Z5:=b8 16 46 Tryz.f16 [1,1,1] H0 [(0,x0),(1,x1)] H
def Ri:Z5:=b8 16 46 Tryz.f16 [1,1] H0 [(0,x0),(1,x1)] H
def Rv:Z5:=
 Z0 (Yo (.pointer 82) .eql p0 .nilp) fun I=>
 Zj I
 (some ((J zA 5),H))
 (Z0 (UG [p0] H) fun h=>
 Zj h.1
 (some ((J zA 19),h.2))
 (Z0 (Zh Fw [p1] h.2) fun g=>
 Z0 (Xm .not g.1) fun j=>
 Zj j
 (some ((J zA 4),g.2))
 (Z0 (Zu p0) fun u=>
 Z0 (Z6 3 u) fun w=>
 Z0 (Z3 false 1 w g.2) fun y=>
 Z0 (Y8 .string .nilp false y p1 g.2) fun z=>
 Z0 (Yo (.pointer 86) .neq z .nilp) fun A=>
 Zj A
 (some ((J zA 6),g.2))
 (Z0 (Zu p0) fun B=>
 Z0 (Z6 3 B) fun C=>
 Z0 (Z3 false 1 C g.2) fun D=>
 Z0 (JL D g.2) fun E=>
 Z0 (Z4 .geq E (J zA 64)) fun F=>
 Zj F
 (some ((J zA 3),g.2))
 (Ri p0 p1 H g.2)))))
theorem C5:Jt x0 x1 H0 H =
 Z0 (Zu x0) fun j=>
 Z0 (Z6 3 j) fun u=>
 Z0 (Z3 false 1 u H) fun w=>
 Z0 (some (.agg [.nils,(J zA 0)])) fun y=>
 Z0 (ZO y H) fun g=>
 Z0 (Xv .string w x1 g.1 g.2) fun h=>
 some ((J zA 0),h.2):=Z9 [11,13]
theorem C4:Ri x0 x1 H0 H =
 Z0 (Zu x0) fun j=>
 Z0 (Z6 3 j) fun u=>
 Z0 (Z3 false 1 u H) fun w=>
 Z0 (Yo (.map 9 84) .eql w .nilm) fun y=>
 Zj y
 (Z0 (some ((.map H.length),H++[.map [] 0])) fun g=>
 Z0 (Zu x0) fun t37=>
 Z0 (Z6 3 t37) fun z=>
 Z0 (Za 1 z g.1 g.2) fun h=>
 Jt x0 x1 H0 h.2)
 (Jt x0 x1 H0 H):=Z9 [11,13]
theorem Cl:Wr [p0,p1] H=Rv p0 p1 H:=Be 46 [11,13] Tryz.func16
def Rh:Z5:=b8 17 60 Tryz.f17 [1,1,1,1] H0 [(0,x0),(2,x2),(7,x7)] H
def Rg:Z5:=b8 17 60 Tryz.f17 [1,1,1] H0 [(0,x0),(2,x2),(7,x7)] H
def Ru:Z5:=
 Z0 (Wf [p0,p1] H) fun g=>
 Z0 (ZJ g.1 0) fun j=>
 Z0 (ZJ g.1 1) fun h=>
 Z0 (Z4 .neq h (J zA 0)) fun u=>
 Zj u
 (some (h,g.2))
 (Rg p0 p2 j H g.2)
theorem C3:Rh x0 x2 x7 H0 H =
 Z0 (Zu x7) fun w=>
 Z0 (Z6 0 w) fun y=>
 Z0 (Z3 false 1 y H) fun z=>
 Z0 (Y9 1 1 z x2 H) fun j=>
 Z0 (Zu x7) fun t37=>
 Z0 (Z6 0 t37) fun A=>
 Z0 (Za 1 A j.1 j.2) fun h=>
 Z0 (Zu x0) fun B=>
 Z0 (Z6 1 B) fun C=>
 Z0 (Z3 false 1 C h.2) fun D=>
 Z0 (Zk .string x2) fun E=>
 Z0 (Z4 .add D E) fun F=>
 Z0 (Zu x0) fun I=>
 Z0 (Z6 1 I) fun K=>
 Z0 (Za 1 K F h.2) fun g=>
 Z0 (Zu x0) fun L=>
 Z0 (Z6 2 L) fun M=>
 Z0 (Z3 false 1 M g.2) fun N=>
 Z0 (Zu x0) fun O=>
 Z0 (Z6 1 O) fun Q=>
 Z0 (Z3 false 1 Q g.2) fun R=>
 Z0 (Qe N R) fun S=>
 Z0 (Zu x0) fun T=>
 Z0 (Z6 2 T) fun U=>
 Z0 (Za 1 U S g.2) fun u=>
 some ((J zA 0),u.2):=Z9 [4,6]
theorem GM:Rg x0 x2 x7 H0 H =
 Z0 (Zu x0) fun g=>
 Z0 (Z6 1 g) fun h=>
 Z0 (Z3 false 1 h H) fun j=>
 Z0 (Zk .string x2) fun u=>
 Z0 (Z4 .add j u) fun w=>
 Z0 (Zu x0) fun y=>
 Z0 (Z6 0 y) fun z=>
 Z0 (Z3 false 1 z H) fun A=>
 Z0 (Z4 .gtr w A) fun B=>
 Zj B
 (some ((J zA 12),H))
 (Rh x0 x2 x7 H0 H):=Z9 [4,6]
theorem Cj:Wq [p0,p1,p2] H=Ru p0 p1 p2 H:=Be 60 [4,6] Tryz.func17
def KZ:Z5:=b8 18 24 Tryz.f18 [1,1,1] H0 [(6,x6)] H
def No:Z5:=
 Z0 (Wf [p0,p1] H) fun g=>
 Z0 (ZJ g.1 0) fun u=>
 Z0 (ZJ g.1 1) fun h=>
 Z0 (Z4 .eql h (J zA 0)) fun w=>
 Zj w
 (Z0 (Zu u) fun y=>
 Z0 (Z6 0 y) fun z=>
 Z0 (Z3 false 1 z g.2) fun A=>
 Z0 (Zk (.slice 5) A) fun B=>
 Z0 (Zu u) fun C=>
 Z0 (Z6 1 C) fun D=>
 Z0 (Za 1 D B g.2) fun j=>
 KZ h H j.2)
 (KZ h H g.2)
theorem QN:KZ x6 H0 H =
 some (x6,H):=Z9 [4]
theorem IC:Vq [p0,p1] H=No p0 p1 H:=Be 24 [4] Tryz.func18
def Bl:Z5:=
 Z0 (Yo (.pointer 82) .neq p0 .nilp) fun t5=>
 Z0 (Z7 t5 true am (some p0)) fun A=>
 Z0 (Z7 t5 true am (Zu A)) fun B=>
 Z0 (Z7 t5 true am (Z6 4 B)) fun t9=>
 Z0 (Z7 t5 true am (Z3 false 1 t9 H)) fun h=>
 Z0 (Z7 t5 true am (Xm .not h)) fun j=>
 Z0 (Zi t5 j (.bool false)) fun u=>
 Zj u
 (Z0 (Qe p1 (J zA 0)) fun w=>
 Z0 (Zu p0) fun y=>
 Z0 (Z6 5 y) fun z=>
 Z0 (Za 1 z w H) fun g=>
 some (am,g.2))
 (some (am,H))
theorem M2:UV [p0,p1] H=Bl p0 p1 H:=Be 18 [] Tryz.func19
def QM:Z5:=ZN 21 84 (b9 Tryz.f21 [1,1,1,0,0,1,1,1]) (Zc (VN 21 84 Tryz.f21 [1,1,1,0,0]) (Z8 0 (Zf cfg 84 21 Tryz.f21 H0))) [(0,x0),(1,x1),(18,x18),(19,x19),(20,x20)] H
def QL:Z5:=ZN 21 84 (b9 Tryz.f21 [1,1,1,0,0,1,1]) (Zc (VN 21 84 Tryz.f21 [1,1,1,0,0]) (Z8 0 (Zf cfg 84 21 Tryz.f21 H0))) [(0,x0),(1,x1),(18,x18),(19,x19),(20,x20),(21,x21)] H
def Vm:Z5:=Po 21 84 (b9 Tryz.f21 [1,1,1,0,0]) (Z8 0 (Zf cfg 84 21 Tryz.f21 H0)) [(0,x0),(1,x1),(18,x18),(19,x19),(20,x20)] H
def F0:Z5:=b8 21 84 Tryz.f21 [1] H0 [(0,x0),(1,x1)] H
def FV:Z5:=
 Z0 (Yo (.pointer 82) .eql p0 .nilp) fun g=>
 Zj g
 (some (am,H))
 (F0 p0 p1 H H)
theorem LT:QM x0 x1 x18 x19 x20 H0 H =
 Z0 (Z4 .add x20 (J zA 1)) fun g=>
 Vm x0 x1 x18 x19 g H0 H:=Z9 [1,4,10]
theorem LS:QL x0 x1 x18 x19 x20 x21 H0 H =
 Z0 (Zo 1 x18 x20) fun y=>
 Z0 (Z3 false 1 y H) fun z=>
 Z0 (Zu x0) fun A=>
 Z0 (Z6 3 A) fun B=>
 Z0 (Z3 false 1 B H) fun C=>
 Z0 (Y8 .string .nilp false C z H) fun g=>
 Z0 (Z4 .rem x20 (J zA 8)) fun D=>
 Z0 (Z4 .mul (J zA 8) D) fun E=>
 Z0 (Z4 .shr x1 E) fun F=>
 Z0 (Z4 .rem F (.int .u64 256)) fun I=>
 Z0 (Yr .i64 I) fun t37=>
 Z0 (Zu g) fun K=>
 Z0 (Z6 1 K) fun L=>
 Z0 (Z3 false 1 L H) fun M=>
 Z0 (Zu g) fun N=>
 Z0 (Z6 0 N) fun O=>
 Z0 (Z3 false 1 O H) fun Q=>
 Z0 (Zk (.slice 5) Q) fun R=>
 Z0 (Zu g) fun S=>
 Z0 (Z6 1 S) fun T=>
 Z0 (Z3 false 1 T H) fun U=>
 Z0 (Z4 .sub R U) fun V=>
 Z0 (VE t37 V) fun W=>
 Z0 (Z4 .add M W) fun h=>
 Z0 (Zu x0) fun X=>
 Z0 (Z6 1 X) fun Y=>
 Z0 (Z3 false 1 Y H) fun Z=>
 Z0 (Zu g) fun aa=>
 Z0 (Z6 0 aa) fun ab=>
 Z0 (Z3 false 1 ab H) fun ac=>
 Z0 (Zk (.slice 5) ac) fun ad=>
 Z0 (Z4 .sub ad h) fun ae=>
 Z0 (Z4 .sub Z ae) fun af=>
 Z0 (Zu x0) fun ag=>
 Z0 (Z6 1 ag) fun ah=>
 Z0 (Za 1 ah af H) fun j=>
 Z0 (Zu g) fun t72=>
 Z0 (Z6 0 t72) fun ai=>
 Z0 (Z3 false 1 ai j.2) fun aj=>
 Z0 (Yg 1 aj none (some h) (some h)) fun ak=>
 Z0 (Zu g) fun al=>
 Z0 (Z6 0 al) fun am=>
 Z0 (Za 1 am ak j.2) fun u=>
 Z0 (Zu g) fun an=>
 Z0 (Z6 1 an) fun ao=>
 Z0 (Za 1 ao h u.2) fun w=>
 QM x0 x1 x18 x19 x20 H0 w.2:=Z9 [1,4,10]
theorem Gl:Vm x0 x1 x18 x19 x20 H0 H =
 Z0 (Z4 .lss x20 x19) fun g=>
 Zj g
 (QL x0 x1 x18 x19 x20 g H0 H)
 (some (am,H)):=(ZC (C:=cfg) [1,4,10] (Zn 0 (Zz 21 Tryz.f21 H0)) _ _).trans (by kernel_rfl)
theorem LR:F0 x0 x1 H0 H =
 Z0 (Zu x0) fun u=>
 Z0 (Z6 4 u) fun w=>
 Z0 (Za 1 w (.bool false) H) fun h=>
 Z0 (Zu x0) fun y=>
 Z0 (Z6 5 y) fun z=>
 Z0 (Za 1 z (J zA 0) h.2) fun j=>
 Z0 (namesE.run [x0] j.2) fun g=>
 Z0 (Zk (.slice 9) g.1) fun A=>
 Vm x0 x1 g.1 A (J zA 0) H0 g.2:=Z9 [1,4,10]
theorem Ey:Jb [p0,p1] H=FV p0 p1 H:=Be 84 [1,4,10] Tryz.func21
def P8:Z5:=b8 23 54 Tryz.f23 [1,1,1,1] H0 [(2,x2),(3,x3),(10,x10)] H
def P7:Z5:=b8 23 54 Tryz.f23 [1,1,1] H0 [(2,x2),(3,x3),(10,x10)] H
def Nn:Z5:=
 Z0 (Wf [p0,p1] H) fun g=>
 Z0 (ZJ g.1 0) fun j=>
 Z0 (ZJ g.1 1) fun h=>
 Z0 (Z4 .neq h (J zA 0)) fun u=>
 Zj u
 (some ((.tuple [(.str []),h]),g.2))
 (P7 p2 p3 j H g.2)
theorem Ic:P8 x2 x3 x10 H0 H =
 Z0 (Zu x10) fun t37=>
 Z0 (Z6 0 t37) fun g=>
 Z0 (Z3 false 1 g H) fun h=>
 Z0 (Zu x10) fun j=>
 Z0 (Z6 0 j) fun u=>
 Z0 (Z3 false 1 u H) fun w=>
 Z0 (Zk (.slice 5) w) fun y=>
 Z0 (Z4 .sub y x2) fun z=>
 Z0 (VE x3 z) fun A=>
 Z0 (Z4 .add x2 A) fun B=>
 Z0 (Yg 1 h (some x2) (some B) none) fun C=>
 Z0 (UX C H) fun D=>
 some ((.tuple [D,(J zA 0)]),H):=Z9 [4,6]
theorem Ib:P7 x2 x3 x10 H0 H =
 Z0 (Z4 .lss x2 (J zA 0)) fun g=>
 Z0 (Z7 g false am (some x2)) fun j=>
 Z0 (Z7 g false am (some x10)) fun u=>
 Z0 (Z7 g false am (Zu u)) fun w=>
 Z0 (Z7 g false am (Z6 0 w)) fun y=>
 Z0 (Z7 g false am (Z3 false 1 y H)) fun z=>
 Z0 (Z7 g false am (Zk (.slice 5) z)) fun A=>
 Z0 (Z7 g false am (Z4 .gtr j A)) fun B=>
 Z0 (Zi g (.bool true) B) fun h=>
 Z0 (Z7 h false am (some x3)) fun C=>
 Z0 (Z7 h false am (Z4 .lss C (J zA 0))) fun D=>
 Z0 (Zi h (.bool true) D) fun E=>
 Zj E
 (some ((.tuple [(.str []),(J zA 2)]),H))
 (P8 x2 x3 x10 H0 H):=Z9 [4,6]
theorem IB:Vp [p0,p1,p2,p3] H=Nn p0 p1 p2 p3 H:=Be 54 [4,6] Tryz.func23
def P4:Z5:=b8 26 38 Tryz.f26 [1,1,1,1] H0 [(3,x3)] H
def UQ:KL:=Zc (M0 26 38 Tryz.f26 [1,1,1,1]) (Zf cfg 38 26 Tryz.f26 H0)
theorem C6:ZS 38 (UQ H0):=Zw (C:=cfg) (kp:=cfg.keep 26) (b9 Tryz.f26 [1,1,1,1]) (Zz 26 Tryz.f26 H0)
def P6:Z5:=ZN 26 38 (b9 Tryz.f26 [1,1,1,0,1,0,0,1,1,1]) (Zc (VN 26 38 Tryz.f26 [1,1,1,0,1,0,0]) (Z8 0 (UQ H0))) [(0,x0),(3,x3),(10,x10),(11,x11),(12,x12)] H
def P5:Z5:=ZN 26 38 (b9 Tryz.f26 [1,1,1,0,1,0,0,1,1]) (Zc (VN 26 38 Tryz.f26 [1,1,1,0,1,0,0]) (Z8 0 (UQ H0))) [(0,x0),(3,x3),(10,x10),(11,x11),(12,x12),(13,x13)] H
def UR:Z5:=Po 26 38 (b9 Tryz.f26 [1,1,1,0,1,0,0]) (Z8 0 (UQ H0)) [(0,x0),(3,x3),(10,x10),(11,x11),(12,x12)] H
def P3:Z5:=b8 26 38 Tryz.f26 [1,1] H0 [(0,x0)] H
def Nl:Z5:=
 Z0 (Yo (.pointer 82) .eql p0 .nilp) fun g=>
 Zj g
 (some (.nils,H))
 (P3 p0 H H)
theorem I8:P4 x3 H0 H =
 some (x3,H):=Z9 [3,6,9,10]
theorem Ia:P6 x0 x3 x10 x11 x12 H0 H =
 Z0 (Z4 .add x12 (J zA 1)) fun g=>
 UR x0 x3 x10 x11 g H0 H:=Z9 [3,6,9,10]
theorem I9:P5 x0 x3 x10 x11 x12 x13 H0 H =
 Z0 (Zo 1 x10 x12) fun u=>
 Z0 (Z3 false 1 u H) fun h=>
 Z0 (Zu x0) fun w=>
 Z0 (Z6 3 w) fun y=>
 Z0 (Z3 false 1 y H) fun z=>
 Z0 (Y8 .string .nilp false z h H) fun j=>
 Z0 (Zu j) fun A=>
 Z0 (Z6 0 A) fun B=>
 Z0 (Z3 false 1 B H) fun C=>
 Z0 (Zk (.slice 5) C) fun D=>
 Z0 (Zu j) fun E=>
 Z0 (Z6 1 E) fun F=>
 Z0 (Z3 false 1 F H) fun I=>
 Z0 ((YF [(0,1,h),(1,1,D),(2,1,I)] [(.str []),(J zA 0),(J zA 0)]).map .agg) fun K=>
 Z0 ((ZB 3 [(0,K)] [(.agg [(.str []),(J zA 0),(J zA 0)])]).map (.vs 3 .clip)) fun L=>
 Z0 (Y9 3 32 x3 L H) fun g=>
 P6 x0 g.1 x10 x11 x12 H0 g.2:=Z9 [3,6,9,10]
theorem DZ:UR x0 x3 x10 x11 x12 H0 H =
 Z0 (Z4 .lss x12 x11) fun g=>
 Zj g
 (P5 x0 x3 x10 x11 x12 g H0 H)
 (P4 x3 H0 H):=(ZC (C:=cfg) [3,6,9,10] (Zn 0 (C6 H0)) _ _).trans (by kernel_rfl)
theorem I7:P3 x0 H0 H =
 Z0 (namesE.run [x0] H) fun g=>
 Z0 (Zk (.slice 9) g.1) fun h=>
 UR x0 .nils g.1 h (J zA 0) H0 g.2:=Z9 [3,6,9,10]
theorem IA:YW [p0] H=Nl p0 H:=Be 38 [3,6,9,10] Tryz.func26
def WF:Z5:=b8 39 37 Tryz.f39 [1,1] H0 [(0,x0)] H
def TF:Z5:=
 Z0 (Zu p0) fun t5=>
 Z0 (Z6 4 t5) fun S=>
 Z0 (Z3 false 1 S H) fun T=>
 Zj T
 (WF p0 H H)
 (Z0 (Zu p0) fun u=>
 Z0 (Z6 5 u) fun w=>
 Z0 (Z3 false 1 w H) fun y=>
 Z0 (Z4 .eql y (J zA 1)) fun z=>
 Zj z
 (Z0 (Zu p0) fun A=>
 Z0 (Z6 4 A) fun B=>
 Z0 (Za 1 B (.bool true) H) fun g=>
 Z0 (Zu p0) fun C=>
 Z0 (Z6 5 C) fun D=>
 Z0 (Za 1 D (J zA 0) g.2) fun h=>
 WF p0 H h.2)
 (Z0 (Zu p0) fun E=>
 Z0 (Z6 5 E) fun F=>
 Z0 (Z3 false 1 F H) fun I=>
 Z0 (Z4 .gtr I (J zA 1)) fun K=>
 Zj K
 (Z0 (Zu p0) fun L=>
 Z0 (Z6 5 L) fun M=>
 Z0 (Z3 false 1 M H) fun N=>
 Z0 (Z4 .sub N (J zA 1)) fun O=>
 Z0 (Zu p0) fun Q=>
 Z0 (Z6 5 Q) fun R=>
 Z0 (Za 1 R O H) fun j=>
 WF p0 H j.2)
 (WF p0 H H)))
theorem WV:WF x0 H0 H =
 Z0 (Zu x0) fun g=>
 Z0 (Z6 4 g) fun h=>
 Z0 (Z3 false 1 h H) fun j=>
 some (j,H):=Z9 [6]
theorem Ay:UG [p0] H=TF p0 H:=Be 37 [6] Tryz.func39
def Dl:Z5:=b8 40 58 Tryz.f40 [1,1] H0 [(0,x0)] H
def J4:KL:=Zc (M0 40 58 Tryz.f40 [1,1]) (Zf cfg 58 40 Tryz.f40 H0)
theorem If:ZS 58 (J4 H0):=Zw (C:=cfg) (kp:=cfg.keep 40) (b9 Tryz.f40 [1,1]) (Zz 40 Tryz.f40 H0)
def Dn:Z5:=ZN 40 58 (b9 Tryz.f40 [1,0,1,0,0,1,1,1]) (Zc (VN 40 58 Tryz.f40 [1,0,1,0,0]) (Z8 0 (J4 H0))) [(0,x0),(7,x7),(8,x8)] H
def Dm:Z5:=ZN 40 58 (b9 Tryz.f40 [1,0,1,0,0,1,1]) (Zc (VN 40 58 Tryz.f40 [1,0,1,0,0]) (Z8 0 (J4 H0))) [(0,x0),(7,x7),(8,x8),(9,x9)] H
def J5:Z5:=Po 40 58 (b9 Tryz.f40 [1,0,1,0,0]) (Z8 0 (J4 H0)) [(0,x0),(7,x7),(8,x8)] H
def Ez:Z5:=
 Z0 (Zk .string p0) fun g=>
 J5 p0 g (J zA 0) H H
theorem ZaV:Dl x0 H0 H =
 Z0 (Yx .neq x0 (.str [])) fun g=>
 Z0 (Z7 g true am (some x0)) fun h=>
 Z0 (Z7 g true am (Zk .string h)) fun j=>
 Z0 (Z7 g true am (Z4 .leq j (J zA 32))) fun u=>
 Z0 (Zi g u (.bool false)) fun w=>
 some (w,H):=Z9 [3,8,9]
theorem Tv:Dn x0 x7 x8 H0 H =
 Z0 (Z4 .add x8 (J zA 1)) fun g=>
 J5 x0 x7 g H0 H:=Z9 [3,8,9]
theorem ZaW:Dm x0 x7 x8 x9 H0 H =
 Z0 (Zy x0 x8) fun g=>
 Z0 (Z4 .geq g (.int .u8 97)) fun j=>
 Z0 (Z7 j true am (some g)) fun B=>
 Z0 (Z7 j true am (Z4 .leq B (.int .u8 122))) fun C=>
 Z0 (Zi j C (.bool false)) fun h=>
 Z0 (Z7 h false am (some g)) fun D=>
 Z0 (Z7 h false am (Z4 .geq D (.int .u8 65))) fun E=>
 Z0 (Z7 h false am (some E)) fun u=>
 Z0 (Z7 u true am (some g)) fun F=>
 Z0 (Z7 u true am (Z4 .leq F (.int .u8 90))) fun I=>
 Z0 (Z7 h false am (Zi u I (.bool false))) fun K=>
 Z0 (Zi h (.bool true) K) fun w=>
 Z0 (Z7 w false am (some g)) fun L=>
 Z0 (Z7 w false am (Z4 .eql L (.int .u8 95))) fun M=>
 Z0 (Zi w (.bool true) M) fun y=>
 Z0 (Z7 y false am (some g)) fun N=>
 Z0 (Z7 y false am (Z4 .eql N (.int .u8 46))) fun O=>
 Z0 (Zi y (.bool true) O) fun Q=>
 Z0 (Xm .not Q) fun t37=>
 Z0 (Z7 t37 true am (some x8)) fun R=>
 Z0 (Z7 t37 true am (Z4 .eql R (J zA 0))) fun S=>
 Z0 (Z7 t37 true am (some S)) fun z=>
 Z0 (Z7 z false am (some g)) fun T=>
 Z0 (Z7 z false am (Z4 .lss T (.int .u8 48))) fun U=>
 Z0 (Z7 t37 true am (Zi z (.bool true) U)) fun V=>
 Z0 (Z7 t37 true am (some V)) fun A=>
 Z0 (Z7 A false am (some g)) fun W=>
 Z0 (Z7 A false am (Z4 .gtr W (.int .u8 57))) fun X=>
 Z0 (Z7 t37 true am (Zi A (.bool true) X)) fun Y=>
 Z0 (Zi t37 Y (.bool false)) fun Z=>
 Zj Z
 (some ((.bool false),H))
 (Dn x0 x7 x8 H0 H):=Z9 [3,8,9]
theorem Ud:J5 x0 x7 x8 H0 H =
 Z0 (Z4 .lss x8 x7) fun t9=>
 Zj t9
 (Dm x0 x7 x8 t9 H0 H)
 (Dl x0 H0 H):=(ZC (C:=cfg) [3,8,9] (Zn 0 (If H0)) _ _).trans (by kernel_rfl)
theorem ZbK:Fw [p0] H=Ez p0 H:=Be 58 [3,8,9] Tryz.func40
def Pb:Z5:=b8 41 20 Tryz.f41 [1,1,1,1,1] H0 [(6,x6)] H
def Pa:Z5:=b8 41 20 Tryz.f41 [1,1,1] H0 [(0,x0),(1,x1)] H
def P9:Z5:=b8 41 20 Tryz.f41 [1,1] H0 [(0,x0),(1,x1)] H
def Nq:Z5:=
 Z0 (Yo (.pointer 82) .eql p0 .nilp) fun g=>
 Zj g
 (some ((.tuple [.nilp,(J zA 5)]),H))
 (P9 p0 p1 H H)
theorem Ie:Pb x6 H0 H =
 some ((.tuple [x6,(J zA 0)]),H):=Z9 [3,5,8]
theorem F1:Pa x0 x1 H0 H =
 Z0 (Zu x0) fun h=>
 Z0 (Z6 3 h) fun j=>
 Z0 (Z3 false 1 j H) fun u=>
 Z0 (Y8 .string .nilp false u x1 H) fun g=>
 Z0 (Yo (.pointer 86) .eql g .nilp) fun w=>
 Zj w
 (some ((.tuple [.nilp,(J zA 5)]),H))
 (Pb g H0 H):=Z9 [3,5,8]
theorem QO:P9 x0 x1 H0 H =
 Z0 (UG [x0] H) fun g=>
 Zj g.1
 (some ((.tuple [.nilp,(J zA 19)]),g.2))
 (Pa x0 x1 H0 g.2):=Z9 [3,5,8]
theorem IE:Wf [p0,p1] H=Nq p0 p1 H:=Be 20 [3,5,8] Tryz.func41
def Km:Z5:=b8 43 39 Tryz.f43 [1,1,1,1] H0 [(0,x0),(1,x1),(2,x2)] H
def Ko:KL:=Zc (M0 43 39 Tryz.f43 [1,1,1,1]) (Zf cfg 39 43 Tryz.f43 H0)
theorem Ow:ZS 39 (Ko H0):=Zw (C:=cfg) (kp:=cfg.keep 43) (b9 Tryz.f43 [1,1,1,1]) (Zz 43 Tryz.f43 H0)
def Cd:Z5:=ZN 43 39 (b9 Tryz.f43 [1,1,1,0,1,0,0,1,1,1]) (Zc (VN 43 39 Tryz.f43 [1,1,1,0,1,0,0]) (Z8 0 (Ko H0))) [(0,x0),(1,x1),(2,x2),(18,x18),(19,x19),(20,x20)] H
def Cc:Z5:=ZN 43 39 (b9 Tryz.f43 [1,1,1,0,1,0,0,1,1]) (Zc (VN 43 39 Tryz.f43 [1,1,1,0,1,0,0]) (Z8 0 (Ko H0))) [(0,x0),(1,x1),(2,x2),(18,x18),(19,x19),(20,x20),(21,x21)] H
def Kp:Z5:=Po 43 39 (b9 Tryz.f43 [1,1,1,0,1,0,0]) (Z8 0 (Ko H0)) [(0,x0),(1,x1),(2,x2),(18,x18),(19,x19),(20,x20)] H
def Cb:Z5:=b8 43 39 Tryz.f43 [1,1,1] H0 [(0,x0),(1,x1),(2,x2)] H
def Ca:Z5:=b8 43 39 Tryz.f43 [1,1] H0 [(0,x0),(1,x1),(2,x2)] H
def CT:Z5:=
 Z0 (Yo (.pointer 82) .eql p0 .nilp) fun g=>
 Zj g
 (some ((.tuple [.nilp,(J zA 5)]),H))
 (Ca p0 p1 p2 H H)
theorem Zco:Km x0 x1 x2 H0 H =
 Z0 (some ((.map H.length),H++[.map [] 0])) fun g=>
 Z0 ((YF [(0,1,x0),(1,1,x1),(3,1,g.1)] [.nilp,(.str []),.nils,.nilm]).map .agg) fun j=>
 Z0 (Qe (J zA 0) x2) fun u=>
 Z0 ((YF [(0,4,j),(4,1,u)] [.nilp,(.str []),.nils,.nilm,(J zA 0),(J zA 0),(.bool false)]).map .agg) fun t37=>
 Z0 (ZO t37 g.2) fun h=>
 some ((.tuple [h.1,(J zA 0)]),h.2):=Z9 ba
theorem Zcp:Cd x0 x1 x2 x18 x19 x20 H0 H =
 Z0 (Z4 .add x20 (J zA 1)) fun g=>
 Kp x0 x1 x2 x18 x19 g H0 H:=Z9 ba
theorem Pe:Cc x0 x1 x2 x18 x19 x20 x21 H0 H =
 Z0 (Zo 1 x18 x20) fun h=>
 Z0 (Z3 false 1 h H) fun j=>
 Z0 (Xu [x0,j] H) fun g=>
 Z0 (Z4 .neq g.1 (J zA 0)) fun u=>
 Zj u
 (some ((.tuple [.nilp,g.1]),g.2))
 (Cd x0 x1 x2 x18 x19 x20 H0 g.2):=Z9 ba
theorem Pf:Kp x0 x1 x2 x18 x19 x20 H0 H =
 Z0 (Z4 .lss x20 x19) fun g=>
 Zj g
 (Cc x0 x1 x2 x18 x19 x20 g H0 H)
 (Km x0 x1 x2 H0 H):=(ZC (C:=cfg) [3,5,7,11,12] (Zn 0 (Ow H0)) _ _).trans (by kernel_rfl)
theorem Pd:Cb x0 x1 x2 H0 H =
 Z0 (Jr VB [x0,x1] H) fun g=>
 Z0 (Zk (.slice 9) g.1) fun h=>
 Kp x0 x1 x2 g.1 h (J zA 0) H0 g.2:=Z9 ba
theorem G0:Ca x0 x1 x2 H0 H =
 Z0 (Zh Ut [x1] H) fun g=>
 Z0 (Xm .not g.1) fun h=>
 Zj h
 (some ((.tuple [.nilp,(J zA 4)]),g.2))
 (Cb x0 x1 x2 H0 g.2):=Z9 ba
theorem ZcI:Ws [p0,p1,p2] H=CT p0 p1 p2 H:=Be 39 [3,5,7,11,12] Tryz.func43
def BQ:Z5:=b8 45 47 Tryz.f45 [1,1,1,1] H0 [(0,x0)] H
def WW:KL:=Zc (M0 45 47 Tryz.f45 [1,1,1,1]) (Zf cfg 47 45 Tryz.f45 H0)
theorem PU:ZS 47 (WW H0):=Zw (C:=cfg) (kp:=cfg.keep 45) (b9 Tryz.f45 [1,1,1,1]) (Zz 45 Tryz.f45 H0)
def BS:Z5:=ZN 45 47 (b9 Tryz.f45 [1,1,1,0,0,0,1,0,1,1]) (Z8 1 (Zc (VN 45 47 Tryz.f45 [1,1,1,0,0,0]) (Z8 0 (WW H0)))) [(0,x0),(3,x3)] H
def BR:Z5:=ZN 45 47 (b9 Tryz.f45 [1,1,1,0,0,0,1]) (Zc (VN 45 47 Tryz.f45 [1,1,1,0,0,0]) (Z8 0 (WW H0))) [(0,x0)] H
def X1:Z5:=Po 45 47 (b9 Tryz.f45 [1,1,1,0,0,0]) (Z8 0 (WW H0)) [(0,x0)] H
def BP:Z5:=b8 45 47 Tryz.f45 [1,1,1] H0 [(0,x0)] H
def BO:Z5:=b8 45 47 Tryz.f45 [1,1] H0 [(0,x0)] H
def Dy:Z5:=
 Z0 (Yo (.pointer 124) .eql p0 .nilp) fun g=>
 Zj g
 (some ((J zA 5),H))
 (BO p0 H H)
theorem Mw:BQ x0 H0 H =
 Z0 (Zu x0) fun h=>
 Z0 (Z6 6 h) fun j=>
 Z0 (Za 1 j (.bool true) H) fun g=>
 some ((J zA 0),g.2):=Z9 bb
theorem KG:BS x0 x3 H0 H =
 Z0 (Zu x0) fun h=>
 Z0 (Z6 0 h) fun j=>
 Z0 (forgetE.run [j,x3] H) fun g=>
 X1 x0 H0 g.2:=Z9 bb
theorem VU:BR x0 H0 H =
 Z0 (Zu x0) fun u=>
 Z0 (Z6 0 u) fun w=>
 Z0 (Z6 2 w) fun y=>
 Z0 (Z3 false 1 y H) fun z=>
 Z0 (Zo 1 z (J zA 0)) fun A=>
 Z0 (Z3 false 1 A H) fun j=>
 Z0 (Zu x0) fun B=>
 Z0 (Z6 0 B) fun C=>
 Z0 (Z6 0 C) fun D=>
 Z0 (Z3 false 1 D H) fun E=>
 Z0 (Xu [E,j] H) fun g=>
 Z0 (Z4 .neq g.1 (J zA 0)) fun h=>
 Z0 (Z7 h true am (some g.1)) fun F=>
 Z0 (Z7 h true am (Z4 .neq F (J zA 5))) fun I=>
 Z0 (Zi h I (.bool false)) fun t37=>
 Zj t37
 (some (g.1,g.2))
 (BS x0 j H0 g.2):=Z9 bb
theorem VV:X1 x0 H0 H =
 Z0 (Zu x0) fun g=>
 Z0 (Z6 0 g) fun h=>
 Z0 (Z6 2 h) fun j=>
 Z0 (Z3 false 1 j H) fun u=>
 Z0 (Zk (.slice 9) u) fun w=>
 Z0 (Z4 .gtr w (J zA 0)) fun y=>
 Zj y
 (BR x0 H0 H)
 (BQ x0 H0 H):=(ZC (C:=cfg) [3,5,6,10,11] (Zn 0 (PU H0)) _ _).trans (by kernel_rfl)
theorem Mv:BP x0 H0 H =
 X1 x0 H0 H:=Z9 bb
theorem Mu:BO x0 H0 H =
 Z0 (Zu x0) fun h=>
 Z0 (Z6 6 h) fun t9=>
 Z0 (Z3 false 1 t9 H) fun g=>
 Zj g
 (some ((J zA 8),H))
 (BP x0 H0 H):=Z9 bb
theorem Lh:Ve [p0] H=Dy p0 H:=Be 47 [3,5,6,10,11] Tryz.func45
def C8:Z5:=b8 50 56 Tryz.f50 [1,1,1,1,1] H0 [(5,x5)] H
def Kj:KL:=Zc (M0 50 56 Tryz.f50 [1,1,1,1,1]) (Zf cfg 56 50 Tryz.f50 H0)
theorem Ov:ZS 56 (Kj H0):=Zw (C:=cfg) (kp:=cfg.keep 50) (b9 Tryz.f50 [1,1,1,1,1]) (Zz 50 Tryz.f50 H0)
def FP:Z5:=ZN 50 56 (b9 Tryz.f50 [1,1,1,1,0,1,0,0,1,1,1]) (Zc (VN 50 56 Tryz.f50 [1,1,1,1,0,1,0,0]) (Z8 0 (Kj H0))) [(5,x5),(6,x6),(21,x21),(22,x22),(23,x23)] H
def C9:Z5:=ZN 50 56 (b9 Tryz.f50 [1,1,1,1,0,1,0,0,1,1]) (Zc (VN 50 56 Tryz.f50 [1,1,1,1,0,1,0,0]) (Z8 0 (Kj H0))) [(5,x5),(6,x6),(21,x21),(22,x22),(23,x23),(24,x24)] H
def Kk:Z5:=Po 50 56 (b9 Tryz.f50 [1,1,1,1,0,1,0,0]) (Z8 0 (Kj H0)) [(5,x5),(6,x6),(21,x21),(22,x22),(23,x23)] H
def C7:Z5:=b8 50 56 Tryz.f50 [1,1,1] H0 [(0,x0),(1,x1),(5,x5)] H
def Rx:Z5:=
 Z0 (Yo (.pointer 82) .eql p0 .nilp) fun g=>
 Z0 (Z7 g false am (some p1)) fun j=>
 Z0 (Z7 g false (am,H) (Zh Ut [j] H)) fun h=>
 Z0 (Z7 g false am (Xm .not h.1)) fun u=>
 Z0 (Zi g (.bool true) u) fun w=>
 Zj w
 (some (.nils,h.2))
 (C7 p0 p1 .nils H h.2)
theorem Zcm:C8 x5 H0 H =
 some (x5,H):=Z9 [4,7,11,12]
theorem US:FP x5 x6 x21 x22 x23 H0 H =
 Z0 (Z4 .add x23 (J zA 1)) fun g=>
 Kk x5 x6 x21 x22 g H0 H:=Z9 [4,7,11,12]
theorem Zcn:C9 x5 x6 x21 x22 x23 x24 H0 H =
 Z0 (Zo 3 x21 x23) fun A=>
 Z0 (Z3 true 3 A H) fun B=>
 Z0 (some ((.ptr H.length 0),H++[.cells [(.str []),(J zA 0),(J zA 0)]])) fun y=>
 Z0 (Za 3 y.1 B y.2) fun j=>
 Z0 (Zk .string x6) fun w=>
 Z0 (Z6 0 y.1) fun C=>
 Z0 (Z3 false 1 C j.2) fun D=>
 Z0 (Zk .string D) fun E=>
 Z0 (Z4 .gtr E w) fun g=>
 Z0 (Z7 g true am (Z6 0 y.1)) fun F=>
 Z0 (Z7 g true am (Z3 false 1 F j.2)) fun I=>
 Z0 (Z7 g true am (some w)) fun t37=>
 Z0 (Z7 g true am (ZU I none (some t37) none)) fun K=>
 Z0 (Z7 g true am (some x6)) fun L=>
 Z0 (Z7 g true am (Yx .eql K L)) fun M=>
 Z0 (Zi g M (.bool false)) fun h=>
 Z0 (Z7 h true am (Z6 0 y.1)) fun N=>
 Z0 (Z7 h true am (Z3 false 1 N j.2)) fun O=>
 Z0 (Z7 h true am (some w)) fun Q=>
 Z0 (Z7 h true am (ZU O (some Q) none none)) fun R=>
 Z0 (Z7 h true (am,j.2) (Zh KS [R] j.2)) fun u=>
 Z0 (Zi h u.1 (.bool false)) fun S=>
 Zj S
 (Z0 (Z6 0 y.1) fun T=>
 Z0 (Z3 false 1 T u.2) fun U=>
 Z0 ((ZB 1 [(0,U)] [(.str [])]).map (.vs 1 .clip)) fun V=>
 Z0 (Y9 1 16 x5 V u.2) fun z=>
 FP z.1 x6 x21 x22 x23 H0 z.2)
 (FP x5 x6 x21 x22 x23 H0 u.2):=Z9 [4,7,11,12]
theorem Pc:Kk x5 x6 x21 x22 x23 H0 H =
 Z0 (Z4 .lss x23 x22) fun g=>
 Zj g
 (C9 x5 x6 x21 x22 x23 g H0 H)
 (C8 x5 H0 H):=(ZC (C:=cfg) [4,7,11,12] (Zn 0 (Ov H0)) _ _).trans (by kernel_rfl)
theorem Zcl:C7 x0 x1 x5 H0 H =
 Z0 (Zh QR [x1] H) fun h=>
 Z0 (Jr YW [x0] h.2) fun g=>
 Z0 (Zk (.slice 108) g.1) fun j=>
 Kk x5 h.1 g.1 j (J zA 0) H0 g.2:=Z9 [4,7,11,12]
theorem Nr:VB [p0,p1] H=Rx p0 p1 H:=Be 56 [4,7,11,12] Tryz.func50
def Ju:Z5:=b8 51 19 Tryz.f51 [1,1,1] H0 [(6,x6)] H
def Rw:Z5:=
 Z0 (Wf [p0,p1] H) fun g=>
 Z0 (ZJ g.1 0) fun w=>
 Z0 (ZJ g.1 1) fun h=>
 Z0 (Z4 .eql h (J zA 0)) fun u=>
 Zj u
 (Z0 (Gu [p0,p1] g.2) fun j=>
 Ju h H j.2)
 (Ju h H g.2)
theorem UC:Ju x6 H0 H =
 some (x6,H):=Z9 [4]
theorem Co:Xu [p0,p1] H=Rw p0 p1 H:=Be 19 [4] Tryz.func51
def Do:Z5:=b8 72 54 Tryz.f72 [1,1] H0 [(0,x0)] H
def J6:KL:=Zc (M0 72 54 Tryz.f72 [1,1]) (Zf cfg 54 72 Tryz.f72 H0)
theorem Ig:ZS 54 (J6 H0):=Zw (C:=cfg) (kp:=cfg.keep 72) (b9 Tryz.f72 [1,1]) (Zz 72 Tryz.f72 H0)
def Dq:Z5:=ZN 72 54 (b9 Tryz.f72 [1,0,1,0,0,1,1,1]) (Zc (VN 72 54 Tryz.f72 [1,0,1,0,0]) (Z8 0 (J6 H0))) [(0,x0),(7,x7),(8,x8)] H
def Dp:Z5:=ZN 72 54 (b9 Tryz.f72 [1,0,1,0,0,1,1]) (Zc (VN 72 54 Tryz.f72 [1,0,1,0,0]) (Z8 0 (J6 H0))) [(0,x0),(7,x7),(8,x8),(9,x9)] H
def J7:Z5:=Po 72 54 (b9 Tryz.f72 [1,0,1,0,0]) (Z8 0 (J6 H0)) [(0,x0),(7,x7),(8,x8)] H
def ED:Z5:=
 Z0 (Zk .string p0) fun g=>
 J7 p0 g (J zA 0) H H
theorem ZaZ:Do x0 H0 H =
 Z0 (Yx .neq x0 (.str [])) fun g=>
 Z0 (Z7 g true am (some x0)) fun h=>
 Z0 (Z7 g true am (Zk .string h)) fun j=>
 Z0 (Z7 g true am (Z4 .leq j (J zA 16))) fun u=>
 Z0 (Zi g u (.bool false)) fun w=>
 some (w,H):=Z9 [3,8,9]
theorem TA:Dq x0 x7 x8 H0 H =
 Z0 (Z4 .add x8 (J zA 1)) fun g=>
 J7 x0 x7 g H0 H:=Z9 [3,8,9]
theorem Zb0:Dp x0 x7 x8 x9 H0 H =
 Z0 (Zy x0 x8) fun g=>
 Z0 (Z4 .eql g (.int .u8 95)) fun j=>
 Z0 (Z7 j false am (some g)) fun A=>
 Z0 (Z7 j false am (Z4 .geq A (.int .u8 97))) fun B=>
 Z0 (Z7 j false am (some B)) fun w=>
 Z0 (Z7 w true am (some g)) fun C=>
 Z0 (Z7 w true am (Z4 .leq C (.int .u8 122))) fun D=>
 Z0 (Z7 j false am (Zi w D (.bool false))) fun E=>
 Z0 (Zi j (.bool true) E) fun u=>
 Z0 (Z7 u false am (some g)) fun F=>
 Z0 (Z7 u false am (Z4 .geq F (.int .u8 65))) fun I=>
 Z0 (Z7 u false am (some I)) fun y=>
 Z0 (Z7 y true am (some g)) fun K=>
 Z0 (Z7 y true am (Z4 .leq K (.int .u8 90))) fun L=>
 Z0 (Z7 u false am (Zi y L (.bool false))) fun M=>
 Z0 (Zi u (.bool true) M) fun N=>
 Z0 (Xm .not N) fun h=>
 Z0 (Z7 h true am (some x8)) fun O=>
 Z0 (Z7 h true am (Z4 .eql O (J zA 0))) fun Q=>
 Z0 (Z7 h true am (some Q)) fun t37=>
 Z0 (Z7 t37 false am (some g)) fun R=>
 Z0 (Z7 t37 false am (Z4 .lss R (.int .u8 48))) fun S=>
 Z0 (Z7 h true am (Zi t37 (.bool true) S)) fun T=>
 Z0 (Z7 h true am (some T)) fun z=>
 Z0 (Z7 z false am (some g)) fun U=>
 Z0 (Z7 z false am (Z4 .gtr U (.int .u8 57))) fun V=>
 Z0 (Z7 h true am (Zi z (.bool true) V)) fun W=>
 Z0 (Zi h W (.bool false)) fun X=>
 Zj X
 (some ((.bool false),H))
 (Dq x0 x7 x8 H0 H):=Z9 [3,8,9]
theorem Uh:J7 x0 x7 x8 H0 H =
 Z0 (Z4 .lss x8 x7) fun t9=>
 Zj t9
 (Dp x0 x7 x8 t9 H0 H)
 (Do x0 H0 H):=(ZC (C:=cfg) [3,8,9] (Zn 0 (Ig H0)) _ _).trans (by kernel_rfl)
theorem ZbL:Ut [p0] H=ED p0 H:=Be 54 [3,8,9] Tryz.func72
def MK:Z5:=
 Z0 (Yx .add (.str [46,116,109,112,46]) p0) fun t4=>
 Z0 (Yx .add t4 (.str [46])) fun t5=>
 some (t5,H)
theorem OG:QR [p0] H=MK p0 H:=Be 6 [] Tryz.func83
def Kq:Z5:=b8 84 27 Tryz.f84 [1,1] H0 [(0,x0)] H
def Uf:KL:=Zc (M0 84 27 Tryz.f84 [1,1]) (Zf cfg 27 84 Tryz.f84 H0)
theorem LZ:ZS 27 (Uf H0):=Zw (C:=cfg) (kp:=cfg.keep 84) (b9 Tryz.f84 [1,1]) (Zz 84 Tryz.f84 H0)
def Tz:Z5:=ZN 84 27 (b9 Tryz.f84 [1,0,1,0,0,1,1,1]) (Zc (VN 84 27 Tryz.f84 [1,0,1,0,0]) (Z8 0 (Uf H0))) [(0,x0),(5,x5),(6,x6)] H
def Ty:Z5:=ZN 84 27 (b9 Tryz.f84 [1,0,1,0,0,1,1]) (Zc (VN 84 27 Tryz.f84 [1,0,1,0,0]) (Z8 0 (Uf H0))) [(0,x0),(5,x5),(6,x6),(7,x7)] H
def Ug:Z5:=Po 84 27 (b9 Tryz.f84 [1,0,1,0,0]) (Z8 0 (Uf H0)) [(0,x0),(5,x5),(6,x6)] H
def TH:Z5:=
 Z0 (Zk .string p0) fun t5=>
 Ug p0 t5 (J zA 0) H H
theorem CF:Kq x0 H0 H =
 Z0 (Yx .neq x0 (.str [])) fun g=>
 Z0 (Z7 g true am (some x0)) fun h=>
 Z0 (Z7 g true am (Zy h (J zA 0))) fun j=>
 Z0 (Z7 g true am (Z4 .neq j (.int .u8 48))) fun u=>
 Z0 (Zi g u (.bool false)) fun w=>
 some (w,H):=Z9 [3,6,7]
theorem CH:Tz x0 x5 x6 H0 H =
 Z0 (Z4 .add x6 (J zA 1)) fun g=>
 Ug x0 x5 g H0 H:=Z9 [3,6,7]
theorem CG:Ty x0 x5 x6 x7 H0 H =
 Z0 (Zy x0 x6) fun h=>
 Z0 (Z4 .lss h (.int .u8 48)) fun g=>
 Z0 (Z7 g false am (some x0)) fun j=>
 Z0 (Z7 g false am (some x6)) fun u=>
 Z0 (Z7 g false am (Zy j u)) fun w=>
 Z0 (Z7 g false am (Z4 .gtr w (.int .u8 57))) fun y=>
 Z0 (Zi g (.bool true) y) fun z=>
 Zj z
 (some ((.bool false),H))
 (Tz x0 x5 x6 H0 H):=Z9 [3,6,7]
theorem BX:Ug x0 x5 x6 H0 H =
 Z0 (Z4 .lss x6 x5) fun g=>
 Zj g
 (Ty x0 x5 x6 g H0 H)
 (Kq x0 H0 H):=(ZC (C:=cfg) [3,6,7] (Zn 0 (LZ H0)) _ _).trans (by kernel_rfl)
theorem AA:KS [p0] H=TH p0 H:=Be 27 [3,6,7] Tryz.func84
def Np:Z5:=
 Z0 (Zu p0) fun N=>
 Z0 (Z6 3 N) fun O=>
 Z0 (Z3 false 1 O H) fun Q=>
 Z0 (Y8 .string .nilp false Q p1 H) fun j=>
 Z0 (Yo (.pointer 86) .neq j .nilp) fun u=>
 Zj u
 (Z0 (Zu p0) fun w=>
 Z0 (Z6 1 w) fun y=>
 Z0 (Z3 false 1 y H) fun z=>
 Z0 (Zu j) fun A=>
 Z0 (Z6 0 A) fun B=>
 Z0 (Z3 false 1 B H) fun C=>
 Z0 (Zk (.slice 5) C) fun D=>
 Z0 (Z4 .sub z D) fun E=>
 Z0 (Zu p0) fun F=>
 Z0 (Z6 1 F) fun I=>
 Z0 (Za 1 I E H) fun g=>
 Z0 (Zu p0) fun K=>
 Z0 (Z6 3 K) fun L=>
 Z0 (Z3 false 1 L g.2) fun M=>
 Z0 (Jj .string M p1 g.2) fun h=>
 some (am,h.2))
 (some (am,H))
theorem ID:Gu [p0,p1] H=Np p0 p1 H:=Be 30 [] Tryz.func85
def Rl:Z5:=b8 97 63 Tryz.f97 [1,1,1,1,1] H0 [(0,x0),(4,x4)] H
def Rk:Z5:=b8 97 63 Tryz.f97 [1,1,1] H0 [(0,x0)] H
def Rj:Z5:=b8 97 63 Tryz.f97 [1,1] H0 [(0,x0)] H
def Ry:Z5:=
 Z0 (Yo (.pointer 124) .eql p0 .nilp) fun g=>
 Zj g
 (some ((.tuple [(.str []),(J zA 5)]),H))
 (Rj p0 H H)
theorem Ce:Rl x0 x4 H0 H =
 Z0 (Zu x0) fun u=>
 Z0 (Z6 5 u) fun w=>
 Z0 (Z3 false 1 w H) fun y=>
 Z0 (Z4 .add y (J zA 1)) fun z=>
 Z0 (Zu x0) fun A=>
 Z0 (Z6 5 A) fun B=>
 Z0 (Za 1 B z H) fun g=>
 Z0 (Zu x0) fun C=>
 Z0 (Z6 0 C) fun D=>
 Z0 (Z6 2 D) fun E=>
 Z0 (Z3 false 1 E g.2) fun F=>
 Z0 ((ZB 1 [(0,x4)] [(.str [])]).map (.vs 1 .clip)) fun I=>
 Z0 (Y9 1 16 F I g.2) fun h=>
 Z0 (Zu x0) fun K=>
 Z0 (Z6 0 K) fun L=>
 Z0 (Z6 2 L) fun M=>
 Z0 (Za 1 M h.1 h.2) fun j=>
 some ((.tuple [x4,(J zA 0)]),j.2):=Z9 [3,5,9]
theorem GN:Rk x0 H0 H =
 Z0 (Zu x0) fun w=>
 Z0 (Z6 0 w) fun y=>
 Z0 (Z6 1 y) fun z=>
 Z0 (Z3 false 1 z H) fun A=>
 Z0 (Zh QR [A] H) fun h=>
 Z0 (Zu x0) fun B=>
 Z0 (Z6 5 B) fun C=>
 Z0 (Z3 false 1 C h.2) fun D=>
 Z0 (Z4 .add D (J zA 1)) fun E=>
 Z0 (Zh Em [E] h.2) fun j=>
 Z0 (Yx .add h.1 j.1) fun u=>
 Z0 (Zu x0) fun F=>
 Z0 (Z6 0 F) fun I=>
 Z0 (Z6 0 I) fun K=>
 Z0 (Z3 false 1 K j.2) fun t37=>
 Z0 (Wr [t37,u] j.2) fun g=>
 Z0 (Z4 .neq g.1 (J zA 0)) fun L=>
 Zj L
 (some ((.tuple [(.str []),g.1]),g.2))
 (Rl x0 u H0 g.2):=Z9 [3,5,9]
theorem UD:Rj x0 H0 H =
 Z0 (Zu x0) fun t9=>
 Z0 (Z6 6 t9) fun h=>
 Z0 (Z3 false 1 h H) fun g=>
 Z0 (Z7 g false am (some x0)) fun j=>
 Z0 (Z7 g false am (Zu j)) fun u=>
 Z0 (Z7 g false am (Z6 0 u)) fun w=>
 Z0 (Z7 g false am (Z6 0 w)) fun y=>
 Z0 (Z7 g false am (Z3 false 1 y H)) fun z=>
 Z0 (Z7 g false am (Yo (.pointer 82) .eql z .nilp)) fun A=>
 Z0 (Zi g (.bool true) A) fun B=>
 Zj B
 (some ((.tuple [(.str []),(J zA 8)]),H))
 (Rk x0 H0 H):=Z9 [3,5,9]
theorem Cp:U2 [p0] H=Ry p0 H:=Be 63 [3,5,9] Tryz.func97
def BW:Z5:=b8 98 51 Tryz.f98 [1,1,1,1,1,1] H0 [(0,x0),(1,x1),(8,x8)] H
def BV:Z5:=b8 98 51 Tryz.f98 [1,1,1,1,1] H0 [(0,x0),(1,x1),(8,x8)] H
def BU:Z5:=b8 98 51 Tryz.f98 [1,1,1] H0 [(0,x0),(1,x1),(2,x2)] H
def BT:Z5:=b8 98 51 Tryz.f98 [1,1] H0 [(0,x0),(1,x1),(2,x2)] H
def Dz:Z5:=
 Z0 (Xi [p0,p1] H) fun g=>
 Z0 (Z4 .neq g.1 (J zA 0)) fun h=>
 Zj h
 (some (g.1,g.2))
 (BT p0 p1 p2 H g.2)
theorem Mx:BW x0 x1 x8 H0 H =
 Z0 (Zu x0) fun h=>
 Z0 (Z6 0 h) fun j=>
 Z0 (Z6 0 j) fun u=>
 Z0 (Z3 false 1 u H) fun w=>
 Z0 (Wq [w,x1,x8] H) fun g=>
 some (g.1,g.2):=Z9 [4,6,9,11]
theorem KH:BV x0 x1 x8 H0 H =
 Z0 (Zk .string x8) fun h=>
 Z0 (Zu x0) fun j=>
 Z0 (Z6 4 j) fun u=>
 Z0 (Z3 false 1 u H) fun w=>
 Z0 (Zu x0) fun y=>
 Z0 (Z6 0 y) fun z=>
 Z0 (Jr XV [z] H) fun g=>
 Z0 (Z4 .sub w g.1) fun A=>
 Z0 (Z4 .gtr h A) fun B=>
 Zj B
 (some ((J zA 11),g.2))
 (BW x0 x1 x8 H0 g.2):=Z9 [4,6,9,11]
theorem VW:BU x0 x1 x2 H0 H =
 Z0 (Zh Pi [x2] H) fun g=>
 Z0 (ZJ g.1 0) fun j=>
 Z0 (ZJ g.1 1) fun h=>
 Z0 (Z4 .neq h (J zA 0)) fun u=>
 Zj u
 (some (h,g.2))
 (BV x0 x1 j H0 g.2):=Z9 [4,6,9,11]
theorem W9:BT x0 x1 x2 H0 H =
 Z0 (Zu x0) fun g=>
 Z0 (Z6 0 g) fun h=>
 Z0 (Z6 3 h) fun j=>
 Z0 (Z3 false 1 j H) fun u=>
 Z0 (Y8 .string (.bool false) false u x1 H) fun w=>
 Zj w
 (some ((J zA 8),H))
 (BU x0 x1 x2 H0 H):=Z9 [4,6,9,11]
theorem Li:Vf [p0,p1,p2] H=Dz p0 p1 p2 H:=Be 51 [4,6,9,11] Tryz.func98
def F7:Z5:=b8 99 29 Tryz.f99 [1,1,1] H0 [(0,x0),(1,x1)] H
def F6:Z5:=b8 99 29 Tryz.f99 [1,1] H0 [(0,x0),(1,x1)] H
def FW:Z5:=
 Z0 (Xi [p0,p1] H) fun g=>
 Z0 (Z4 .neq g.1 (J zA 0)) fun h=>
 Zj h
 (some (g.1,g.2))
 (F6 p0 p1 H g.2)
theorem LW:F7 x0 x1 H0 H =
 Z0 (Zu x0) fun h=>
 Z0 (Z6 0 h) fun j=>
 Z0 (Z6 3 j) fun u=>
 Z0 (Z3 false 1 u H) fun w=>
 Z0 (Xv .string w x1 (.bool true) H) fun g=>
 some ((J zA 0),g.2):=Z9 [4,7]
theorem Gn:F6 x0 x1 H0 H =
 Z0 (Zu x0) fun h=>
 Z0 (Z6 0 h) fun j=>
 Z0 (Z6 0 j) fun u=>
 Z0 (Z3 false 1 u H) fun w=>
 Z0 (Vq [w,x1] H) fun g=>
 Z0 (Z4 .neq g.1 (J zA 0)) fun y=>
 Zj y
 (some (g.1,g.2))
 (F7 x0 x1 H0 g.2):=Z9 [4,7]
theorem EA:VD [p0,p1] H=FW p0 p1 H:=Be 29 [4,7] Tryz.func99
def F8:Z5:=b8 100 23 Tryz.f100 [1,1] H0 [(0,x0)] H
def FX:Z5:=
 Z0 (Yo (.pointer 124) .eql p0 .nilp) fun t4=>
 Z0 (Z7 t4 false am (some p0)) fun B=>
 Z0 (Z7 t4 false am (Zu B)) fun C=>
 Z0 (Z7 t4 false am (Z6 6 C)) fun D=>
 Z0 (Z7 t4 false am (Z3 false 1 D H)) fun t9=>
 Z0 (Zi t4 (.bool true) t9) fun g=>
 Z0 (Z7 g false am (some p0)) fun h=>
 Z0 (Z7 g false am (Zu h)) fun j=>
 Z0 (Z7 g false am (Z6 0 j)) fun u=>
 Z0 (Z7 g false am (Z6 0 u)) fun w=>
 Z0 (Z7 g false am (Z3 false 1 w H)) fun y=>
 Z0 (Z7 g false am (Yo (.pointer 82) .eql y .nilp)) fun z=>
 Z0 (Zi g (.bool true) z) fun A=>
 Zj A
 (some ((J zA 0),H))
 (F8 p0 H H)
theorem LX:F8 x0 H0 H =
 Z0 (Zu x0) fun h=>
 Z0 (Z6 0 h) fun j=>
 Z0 (Jr XV [j] H) fun g=>
 some (g.1,g.2):=Z9 [3]
theorem EB:Jc [p0] H=FX p0 H:=Be 23 [3] Tryz.func100
def GP:Z5:=b8 102 28 Tryz.f102 [1,1,1] H0 [(0,x0),(1,x1)] H
def GO:Z5:=b8 102 28 Tryz.f102 [1,1] H0 [(0,x0),(1,x1)] H
def UW:Z5:=
 Z0 (Xi [p0,p1] H) fun g=>
 Z0 (Z4 .neq g.1 (J zA 0)) fun h=>
 Zj h
 (some (g.1,g.2))
 (GO p0 p1 H g.2)
theorem NY:GP x0 x1 H0 H =
 Z0 (Zu x0) fun h=>
 Z0 (Z6 0 h) fun j=>
 Z0 (forgetE.run [j,x1] H) fun g=>
 some ((J zA 0),g.2):=Z9 [4,7]
theorem JC:GO x0 x1 H0 H =
 Z0 (Zu x0) fun h=>
 Z0 (Z6 0 h) fun j=>
 Z0 (Z6 0 j) fun u=>
 Z0 (Z3 false 1 u H) fun w=>
 Z0 (Xu [w,x1] H) fun g=>
 Z0 (Z4 .neq g.1 (J zA 0)) fun y=>
 Zj y
 (some (g.1,g.2))
 (GP x0 x1 H0 g.2):=Z9 [4,7]
theorem Ks:WP [p0,p1] H=UW p0 p1 H:=Be 28 [4,7] Tryz.func102
def ZcA:Z5:=
 Z0 (ZaX ZeL [p0] H) fun g=>
 some (g.1,g.2)
theorem Zhk:Em [p0] H=ZcA p0 H:=Be 5 [] Tryz.func124
def F9:Z5:=b8 125 22 Tryz.f125 [1,1] H0 [] H
def FY:Z5:=
 Z0 (Yo (.pointer 124) .eql p0 .nilp) fun C=>
 Zj C
 (some ((J zA 5),H))
 (Z0 (Zu p0) fun h=>
 Z0 (Z6 6 h) fun j=>
 Z0 (Z3 false 1 j H) fun u=>
 Zj u
 (some ((J zA 8),H))
 (Z0 (Zu p0) fun w=>
 Z0 (Z6 0 w) fun y=>
 Z0 (Z6 2 y) fun z=>
 Z0 (Z3 false 1 z H) fun A=>
 Z0 (Zh YQ [A,p1] H) fun g=>
 Z0 (Xm .not g.1) fun B=>
 Zj B
 (some ((J zA 5),g.2))
 (F9 H g.2)))
theorem LY:F9 H0 H =
 some ((J zA 0),H):=Z9 [7]
theorem EC:Xi [p0,p1] H=FY p0 p1 H:=Be 22 [7] Tryz.func125
def HN:Z5:=b8 126 27 Tryz.f126 [1,1,1] H0 [(4,x4)] H
def Qn:KL:=Zc (M0 126 27 Tryz.f126 [1,1,1]) (Zf cfg 27 126 Tryz.f126 H0)
theorem Zai:ZS 27 (Qn H0):=Zw (C:=cfg) (kp:=cfg.keep 126) (b9 Tryz.f126 [1,1,1]) (Zz 126 Tryz.f126 H0)
def HP:Z5:=ZN 126 27 (b9 Tryz.f126 [1,1,0,1,0,0,1,1,1]) (Zc (VN 126 27 Tryz.f126 [1,1,0,1,0,0]) (Z8 0 (Qn H0))) [(4,x4),(9,x9),(10,x10),(11,x11)] H
def Zip:KL:=Zc (M0 126 27 Tryz.f126 [1,1,0,1,0,0,1,1,1]) (Zc (VN 126 27 Tryz.f126 [1,1,0,1,0,0]) (Z8 0 (Qn H0)))
def HQ:Z5:=ZN 126 27 (b9 Tryz.f126 [1,1,0,1,0,0,1,1,0,0,1,1,1]) (Z8 1 (Zip H0)) [(4,x4),(7,x7),(9,x9),(10,x10),(11,x11)] H
def HO:Z5:=ZN 126 27 (b9 Tryz.f126 [1,1,0,1,0,0,1,1]) (Zc (VN 126 27 Tryz.f126 [1,1,0,1,0,0]) (Z8 0 (Qn H0))) [(4,x4),(9,x9),(10,x10),(11,x11),(12,x12)] H
def Gd:Z5:=Po 126 27 (b9 Tryz.f126 [1,1,0,1,0,0]) (Z8 0 (Qn H0)) [(4,x4),(9,x9),(10,x10),(11,x11)] H
def Io:Z5:=
 Z0 (some ((.ptr H.length 0),H++[.bld 201 5 []])) fun h=>
 Z0 (Zk (.slice 9) p0) fun g=>
 Gd h.1 p0 g (J zA 0) H h.2
theorem ZdV:HN x4 H0 H =
 Z0 (stringE.run [x4] H) fun g=>
 some ((.tuple [g.1,(J zA 0)]),g.2):=Z9 [4,8,9,10]
theorem ZdW:HP x4 x9 x10 x11 H0 H =
 Z0 (Z4 .add x11 (J zA 1)) fun g=>
 Gd x4 x9 x10 g H0 H:=Z9 [4,8,9,10]
theorem ZdX:HQ x4 x7 x9 x10 x11 H0 H =
 Z0 (textE.run [x4,x7] H) fun g=>
 HP x4 x9 x10 x11 H0 g.2:=Z9 [4,8,9,10]
theorem NI:HO x4 x9 x10 x11 x12 H0 H =
 Z0 (Zo 1 x9 x11) fun j=>
 Z0 (Z3 false 1 j H) fun u=>
 Z0 (Zh Pj [u] H) fun g=>
 Z0 (ZJ g.1 0) fun w=>
 Z0 (ZJ g.1 1) fun h=>
 Z0 (Z4 .neq h (J zA 0)) fun y=>
 Zj y
 (some ((.tuple [(.str []),h]),g.2))
 (HQ x4 w x9 x10 x11 H0 g.2):=Z9 [4,8,9,10]
theorem NJ:Gd x4 x9 x10 x11 H0 H =
 Z0 (Z4 .lss x11 x10) fun g=>
 Zj g
 (HO x4 x9 x10 x11 g H0 H)
 (HN x4 H0 H):=(ZC (C:=cfg) [4,8,9,10] (Zn 0 (Zai H0)) _ _).trans (by kernel_rfl)
theorem ZeT:Pi [p0] H=Io p0 H:=Be 27 [4,8,9,10] Tryz.func126
def BY:Z5:=b8 127 29 Tryz.f127 [1,1,1] H0 [(3,x3)] H
def WX:KL:=Zc (M0 127 29 Tryz.f127 [1,1,1]) (Zf cfg 29 127 Tryz.f127 H0)
theorem PV:ZS 29 (WX H0):=Zw (C:=cfg) (kp:=cfg.keep 127) (b9 Tryz.f127 [1,1,1]) (Zz 127 Tryz.f127 H0)
def Q2:Z5:=ZN 127 29 (b9 Tryz.f127 [1,1,0,1,0,0,1,1,1]) (Zc (VN 127 29 Tryz.f127 [1,1,0,1,0,0]) (Z8 0 (WX H0))) [(0,x0),(3,x3),(10,x10),(11,x11),(12,x12)] H
def BZ:Z5:=ZN 127 29 (b9 Tryz.f127 [1,1,0,1,0,0,1,1]) (Zc (VN 127 29 Tryz.f127 [1,1,0,1,0,0]) (Z8 0 (WX H0))) [(0,x0),(3,x3),(10,x10),(11,x11),(12,x12),(13,x13)] H
def WY:Z5:=Po 127 29 (b9 Tryz.f127 [1,1,0,1,0,0]) (Z8 0 (WX H0)) [(0,x0),(3,x3),(10,x10),(11,x11),(12,x12)] H
def DA:Z5:=
 Z0 (Zu p0) fun j=>
 Z0 (Z6 0 j) fun u=>
 Z0 (Z3 false 1 u H) fun t9=>
 Z0 (Jr YW [t9] H) fun g=>
 Z0 (Zk (.slice 108) g.1) fun h=>
 WY p0 (J zA 0) g.1 h (J zA 0) H g.2
theorem My:BY x3 H0 H =
 some (x3,H):=Z9 [4,7,8]
theorem KI:Q2 x0 x3 x10 x11 x12 H0 H =
 Z0 (Z4 .add x12 (J zA 1)) fun g=>
 WY x0 x3 x10 x11 g H0 H:=Z9 [4,7,8]
theorem Mz:BZ x0 x3 x10 x11 x12 x13 H0 H =
 Z0 (Zo 3 x10 x12) fun u=>
 Z0 (Z3 true 3 u H) fun w=>
 Z0 (some ((.ptr H.length 0),H++[.cells [(.str []),(J zA 0),(J zA 0)]])) fun j=>
 Z0 (Za 3 j.1 w j.2) fun g=>
 Z0 (Zu x0) fun y=>
 Z0 (Z6 2 y) fun z=>
 Z0 (Z3 false 1 z g.2) fun A=>
 Z0 (Z6 0 j.1) fun B=>
 Z0 (Z3 false 1 B g.2) fun C=>
 Z0 (Zh YQ [A,C] g.2) fun h=>
 Zj h.1
 (Z0 (Z6 1 j.1) fun D=>
 Z0 (Z3 false 1 D h.2) fun E=>
 Z0 (Z4 .add x3 E) fun F=>
 Q2 x0 F x10 x11 x12 H0 h.2)
 (Q2 x0 x3 x10 x11 x12 H0 h.2):=Z9 [4,7,8]
theorem KJ:WY x0 x3 x10 x11 x12 H0 H =
 Z0 (Z4 .lss x12 x11) fun g=>
 Zj g
 (BZ x0 x3 x10 x11 x12 g H0 H)
 (BY x3 H0 H):=(ZC (C:=cfg) [4,7,8] (Zn 0 (PV H0)) _ _).trans (by kernel_rfl)
theorem Lj:XV [p0] H=DA p0 H:=Be 29 [4,7,8] Tryz.func127
def VX:Z5:=
 Z0 (Zh Wo [p0,p1] H) fun g=>
 Z0 (Z4 .geq g.1 (J zA 0)) fun h=>
 some (h,g.2)
theorem Gp:YQ [p0,p1] H=VX p0 p1 H:=Be 9 [] Tryz.func163
def HR:Z5:=b8 164 23 Tryz.f164 [1,1] H0 [(0,x0)] H
def Ip:Z5:=
 Z0 (Zk .string p0) fun g=>
 Z0 (Z4 .gtr g (J zA 4096)) fun h=>
 Zj h
 (some ((.tuple [(.str []),(J zA 3)]),H))
 (HR p0 H H)
theorem ZdY:HR x0 H0 H =
 Z0 (Zk .string x0) fun t9=>
 Z0 (Z4 .shr t9 (.int .u64 8)) fun j=>
 Z0 (Yr .u8 j) fun u=>
 Z0 (Zk .string x0) fun w=>
 Z0 (Yr .u8 w) fun y=>
 Z0 ((ZB 1 [(0,u),(1,y)] [(.int .u8 0),(.int .u8 0)]).map (.vs 1 .clip)) fun z=>
 Z0 (UX z H) fun A=>
 Z0 (Yx .add A x0) fun h=>
 Z0 (Zh N0 [h] H) fun g=>
 Z0 (Yx .add h g.1) fun B=>
 some ((.tuple [B,(J zA 0)]),g.2):=Z9 [3]
theorem ZeU:Pj [p0] H=Ip p0 H:=Be 23 [3] Tryz.func164
def F5:Z5:=b8 166 49 Tryz.f166 [1,1,1,1,1,1,1] H0 [(2,x2),(12,x12),(13,x13)] H
def F4:Z5:=b8 166 49 Tryz.f166 [1,1,1,1,1] H0 [(2,x2),(10,x10)] H
def F3:Z5:=b8 166 49 Tryz.f166 [1,1,1,1] H0 [(2,x2),(10,x10)] H
def F2:Z5:=b8 166 49 Tryz.f166 [1,1] H0 [(0,x0),(1,x1),(2,x2)] H
def Je:Z5:=
 Z0 (Xi [p0,p1] H) fun g=>
 Z0 (Z4 .neq g.1 (J zA 0)) fun h=>
 Zj h
 (some ((.tuple [(.str []),(J zA 0),g.1]),g.2))
 (F2 p0 p1 p2 H g.2)
theorem LV:F5 x2 x12 x13 H0 H =
 Z0 (Z4 .add x2 x13) fun g=>
 some ((.tuple [x12,g,(J zA 0)]),H):=Z9 [4,7,9,12]
theorem LU:F4 x2 x10 H0 H =
 Z0 (Zh Ei [x10,(J zA 0)] H) fun g=>
 Z0 (ZJ g.1 0) fun j=>
 Z0 (ZJ g.1 1) fun u=>
 Z0 (ZJ g.1 2) fun h=>
 Z0 (Z4 .neq h (J zA 0)) fun w=>
 Zj w
 (some ((.tuple [(.str []),(J zA 0),h]),g.2))
 (F5 x2 j u H0 g.2):=Z9 [4,7,9,12]
theorem Gm:F3 x2 x10 H0 H =
 Z0 (Yx .eql x10 (.str [])) fun g=>
 Zj g
 (some ((.tuple [(.str []),(J zA 0),(J zA 5)]),H))
 (F4 x2 x10 H0 H):=Z9 [4,7,9,12]
theorem Ue:F2 x0 x1 x2 H0 H =
 Z0 (Zu x0) fun j=>
 Z0 (Z6 0 j) fun u=>
 Z0 (Z6 0 u) fun w=>
 Z0 (Z3 false 1 w H) fun y=>
 Z0 (Vp [y,x1,x2,(J zA 4102)] H) fun g=>
 Z0 (ZJ g.1 0) fun z=>
 Z0 (ZJ g.1 1) fun h=>
 Z0 (Z4 .neq h (J zA 0)) fun A=>
 Zj A
 (some ((.tuple [(.str []),(J zA 0),h]),g.2))
 (F3 x2 z H0 g.2):=Z9 [4,7,9,12]
theorem Gw:VC [p0,p1,p2] H=Je p0 p1 p2 H:=Be 49 [4,7,9,12] Tryz.func166
def Uy:Z5:=b8 194 19 Tryz.f194 [1,1] H0 [] H
def X4:KL:=Zc (M0 194 19 Tryz.f194 [1,1]) (Zf cfg 19 194 Tryz.f194 H0)
theorem Gq:ZS 19 (X4 H0):=Zw (C:=cfg) (kp:=cfg.keep 194) (b9 Tryz.f194 [1,1]) (Zz 194 Tryz.f194 H0)
def UA:Z5:=ZN 194 19 (b9 Tryz.f194 [1,0,1,0,0,1,1,1]) (Zc (VN 194 19 Tryz.f194 [1,0,1,0,0]) (Z8 0 (X4 H0))) [(0,x0),(1,x1),(7,x7),(8,x8)] H
def Uz:Z5:=ZN 194 19 (b9 Tryz.f194 [1,0,1,0,0,1,1]) (Zc (VN 194 19 Tryz.f194 [1,0,1,0,0]) (Z8 0 (X4 H0))) [(0,x0),(1,x1),(7,x7),(8,x8),(9,x9)] H
def X5:Z5:=Po 194 19 (b9 Tryz.f194 [1,0,1,0,0]) (Z8 0 (X4 H0)) [(0,x0),(1,x1),(7,x7),(8,x8)] H
def UU:Z5:=
 Z0 (Zk (.slice 9) p0) fun g=>
 X5 p0 p1 g (J zA 0) H H
theorem Bg:Uy H0 H =
 some ((J zA (-1)),H):=Z9 [3,6,7]
theorem Bi:UA x0 x1 x7 x8 H0 H =
 Z0 (Z4 .add x8 (J zA 1)) fun g=>
 X5 x0 x1 x7 g H0 H:=Z9 [3,6,7]
theorem Bh:Uz x0 x1 x7 x8 x9 H0 H =
 Z0 (Zo 1 x0 x8) fun g=>
 Z0 (Z3 false 1 g H) fun h=>
 Z0 (Yx .eql x1 h) fun j=>
 Zj j
 (some (x8,H))
 (UA x0 x1 x7 x8 H0 H):=Z9 [3,6,7]
theorem VJ:X5 x0 x1 x7 x8 H0 H =
 Z0 (Z4 .lss x8 x7) fun t9=>
 Zj t9
 (Uz x0 x1 x7 x8 t9 H0 H)
 (Uy H0 H):=(ZC (C:=cfg) [3,6,7] (Zn 0 (Gq H0)) _ _).trans (by kernel_rfl)
theorem D7:Wo [p0,p1] H=UU p0 p1 H:=Be 19 [3,6,7] Tryz.func194
def ZfB:Z5:=
 Z0 (Zh At [p0] H) fun g=>
 Z0 (Yr .u8 g.1) fun B=>
 Z0 (Z4 .shr g.1 (.int .u64 8)) fun t9=>
 Z0 (Yr .u8 t9) fun h=>
 Z0 (Z4 .shr g.1 (.int .u64 16)) fun j=>
 Z0 (Yr .u8 j) fun u=>
 Z0 (Z4 .shr g.1 (.int .u64 24)) fun w=>
 Z0 (Yr .u8 w) fun y=>
 Z0 ((ZB 1 [(0,B),(1,h),(2,u),(3,y)] [(.int .u8 0),(.int .u8 0),(.int .u8 0),(.int .u8 0)]).map (.vs 1 .clip)) fun z=>
 Z0 (UX z g.2) fun A=>
 some (A,g.2)
theorem Zjk:N0 [p0] H=ZfB p0 H:=Be 19 [] Tryz.func195
def Zbs:Z5:=b8 196 58 Tryz.f196 [1,1,1,1,1,1,1,1] H0 [(1,x1),(7,x7),(8,x8)] H
def Zbr:Z5:=b8 196 58 Tryz.f196 [1,1,1,1,1,1,1] H0 [(1,x1),(7,x7),(8,x8)] H
def Zbq:Z5:=b8 196 58 Tryz.f196 [1,1,1,1,1,1] H0 [(1,x1),(7,x7),(8,x8)] H
def Zbp:Z5:=b8 196 58 Tryz.f196 [1,1,1,1] H0 [(1,x1),(7,x7)] H
def Zbo:Z5:=b8 196 58 Tryz.f196 [1,1] H0 [(0,x0),(1,x1)] H
def Zcx:Z5:=
 Z0 (Z4 .lss p1 (J zA 0)) fun g=>
 Z0 (Z7 g false am (some p1)) fun h=>
 Z0 (Z7 g false am (some p0)) fun j=>
 Z0 (Z7 g false am (Zk .string j)) fun u=>
 Z0 (Z7 g false am (Z4 .gtr h u)) fun w=>
 Z0 (Zi g (.bool true) w) fun y=>
 Zj y
 (some ((.tuple [(.str []),(J zA 0),(J zA 2)]),H))
 (Zbo p0 p1 H H)
theorem ZgO:Zbs x1 x7 x8 H0 H =
 Z0 (Z4 .add x8 (J zA 2)) fun g=>
 Z0 (ZU x7 (some (J zA 2)) (some g) none) fun h=>
 Z0 (Z4 .add x1 x8) fun j=>
 Z0 (Z4 .add j (J zA 6)) fun u=>
 some ((.tuple [h,u,(J zA 0)]),H):=Z9 bc
theorem ZgN:Zbr x1 x7 x8 H0 H =
 Z0 (Z4 .add x8 (J zA 2)) fun h=>
 Z0 (Z4 .add x8 (J zA 6)) fun j=>
 Z0 (ZU x7 (some h) (some j) none) fun u=>
 Z0 (Z4 .add x8 (J zA 2)) fun w=>
 Z0 (ZU x7 none (some w) none) fun y=>
 Z0 (Zh N0 [y] H) fun g=>
 Z0 (Yx .neq u g.1) fun z=>
 Zj z
 (some ((.tuple [(.str []),(J zA 0),(J zA 13)]),g.2))
 (Zbs x1 x7 x8 H0 g.2):=Z9 bc
theorem ZgM:Zbq x1 x7 x8 H0 H =
 Z0 (Zk .string x7) fun g=>
 Z0 (Z4 .add x8 (J zA 6)) fun h=>
 Z0 (Z4 .lss g h) fun t37=>
 Zj t37
 (some ((.tuple [(.str []),(J zA 0),(J zA 14)]),H))
 (Zbr x1 x7 x8 H0 H):=Z9 bc
theorem ZgL:Zbp x1 x7 H0 H =
 Z0 (Zy x7 (J zA 0)) fun h=>
 Z0 (Yr .i64 h) fun j=>
 Z0 (Z4 .shl j (.int .u64 8)) fun u=>
 Z0 (Zy x7 (J zA 1)) fun w=>
 Z0 (Yr .i64 w) fun y=>
 Z0 (Z4 .or u y) fun g=>
 Z0 (Z4 .gtr g (J zA 4096)) fun z=>
 Zj z
 (some ((.tuple [(.str []),(J zA 0),(J zA 13)]),H))
 (Zbq x1 x7 g H0 H):=Z9 bc
theorem ZgK:Zbo x0 x1 H0 H =
 Z0 (ZU x0 (some x1) none none) fun g=>
 Z0 (Zk .string g) fun h=>
 Z0 (Z4 .lss h (J zA 2)) fun j=>
 Zj j
 (some ((.tuple [(.str []),(J zA 0),(J zA 14)]),H))
 (Zbp x1 g H0 H):=Z9 bc
theorem Zhi:Ei [p0,p1] H=Zcx p0 p1 H:=Be 58 [3,6,9,11,13] Tryz.func196
def ZdS:Z5:=b8 209 33 Tryz.f209 [1,1,1] H0 [(3,x3)] H
def Ta:KL:=Zc (M0 209 33 Tryz.f209 [1,1,1]) (Zf cfg 33 209 Tryz.f209 H0)
theorem Zfd:ZS 33 (Ta H0):=Zw (C:=cfg) (kp:=cfg.keep 209) (b9 Tryz.f209 [1,1,1]) (Zz 209 Tryz.f209 H0)
def ZdU:Z5:=ZN 209 33 (b9 Tryz.f209 [1,1,0,1,0,0,1,1,1]) (Zc (VN 209 33 Tryz.f209 [1,1,0,1,0,0]) (Z8 0 (Ta H0))) [(0,x0),(3,x3),(6,x6),(7,x7)] H
def ZdT:Z5:=ZN 209 33 (b9 Tryz.f209 [1,1,0,1,0,0,1,1]) (Zc (VN 209 33 Tryz.f209 [1,1,0,1,0,0]) (Z8 0 (Ta H0))) [(0,x0),(3,x3),(6,x6),(7,x7),(8,x8)] H
def Tb:Z5:=Po 209 33 (b9 Tryz.f209 [1,1,0,1,0,0]) (Z8 0 (Ta H0)) [(0,x0),(3,x3),(6,x6),(7,x7)] H
def ZfA:Z5:=
 Z0 (Zk .string p0) fun g=>
 Tb p0 (.int .u32 4294967295) g (J zA 0) H H
theorem Zim:ZdS x3 H0 H =
 Z0 (Xm .xor x3) fun g=>
 some (g,H):=Z9 [4,8,9]
theorem Zio:ZdU x0 x3 x6 x7 H0 H =
 Z0 (Z4 .add x7 (J zA 1)) fun g=>
 Tb x0 x3 x6 g H0 H:=Z9 [4,8,9]
theorem Zin:ZdT x0 x3 x6 x7 x8 H0 H =
 Z0 (Zy x0 x7) fun j=>
 Z0 (Yr .u32 j) fun u=>
 Z0 (Z4 .xor x3 u) fun g=>
 Z0 (Z4 .and g (.int .u32 15)) fun w=>
 Z0 (Pt 16 1 Zqp w) fun y=>
 Z0 (Z3 false 1 y H) fun z=>
 Z0 (Z4 .shr g (.int .u64 4)) fun A=>
 Z0 (Z4 .xor z A) fun h=>
 Z0 (Z4 .and h (.int .u32 15)) fun B=>
 Z0 (Pt 16 1 Zqp B) fun C=>
 Z0 (Z3 false 1 C H) fun D=>
 Z0 (Z4 .shr h (.int .u64 4)) fun E=>
 Z0 (Z4 .xor D E) fun F=>
 ZdU x0 F x6 x7 H0 H:=Z9 [4,8,9]
theorem HM:Tb x0 x3 x6 x7 H0 H =
 Z0 (Z4 .lss x7 x6) fun g=>
 Zj g
 (ZdT x0 x3 x6 x7 g H0 H)
 (ZdS x3 H0 H):=(ZC (C:=cfg) [4,8,9] (Zn 0 (Zfd H0)) _ _).trans (by kernel_rfl)
theorem Zjj:At [p0] H=ZfA p0 H:=Be 33 [4,8,9] Tryz.func209
end
end Go.Am
