/- The functions of the translation over the abstract machine -/
import Derived.Test.YtnaneekpogohaaaGreatDoorXeGx
open Go.Am.AV renaming int->J
open Go.IntKind renaming i64->zA
namespace Go.Am
open Go.Proofs
set_option maxRecDepth 100000
noncomputable abbrev ZM (f n:Nat):=Yn cfg (Zb cfg) (Y5 cfg (cfg.keep f) n) (cfg.keep f) n Zc Z7
noncomputable abbrev PY (f n:Nat):=Y5 cfg (cfg.keep f) n
noncomputable section
abbrev Mz (f n:Nat)(F:Func)(p:List Nat):KL->AL->Hp->Z4:=fun k g H=>ZM f n (sub (Z1 F) p) k (Y3 (cfg.keep f) (sub (Z1 F) p) g) H
abbrev VX (f n:Nat)(F:Func)(p:List Nat):KL->AL->Hp->Z4:=fun k g H=>PY f n (sub (Z1 F) p) k (Y3 (cfg.keep f) (sub (Z1 F) p) g) H
variable (p0 p1 p2 p3 x0 x1 x2 x3 x4 x5 x6 x7 x8 x9 x10 x11 x12 x13 x18 x19 x20 x21 x22 x23 x24:AV)(H0 H:Hp)
abbrev bb (F:Func):=sub (Z1 F)
abbrev bc:List Nat:=[3,5,7,11,12]
abbrev bd:List Nat:=[3,5,6,10,11]
abbrev bf:List Nat:=[3,6,9,11,13]
def ZfM:Z4:=
 Z0 (Qr p0 (J zA 0)) fun t4=>
 Z0 (VN t4 (J zA 262144)) fun t5=>
 Z0 (some ((.map H.length),H++[.map [] 0])) fun g=>
 Z0 ((YS [(0,1,t5),(3,1,g.1)] [(J zA 0),(J zA 0),(J zA 0),.nilm,(.bool false),(J zA 0)]).map .agg) fun j=>
 Z0 (ZQ j g.2) fun h=>
 some (h.1,h.2)
theorem Zjh:ND [p0] H=ZfM p0 H:=Be 9 [] Tryz.func15
noncomputable abbrev ba (f n:Nat)(F:Func)(p:List Nat)(G:Hp):=fun k K=>ZM f n (sub (Z1 F) p) (Zf cfg n f F G) k K
def JG:Z4:=ba 16 46 Tryz.f16 [1,1,1] H0 [(0,x0),(1,x1)] H
def RF:Z4:=ba 16 46 Tryz.f16 [1,1] H0 [(0,x0),(1,x1)] H
def RY:Z4:=
 Z0 (Yr (.pointer 82) .eql p0 .nilp) fun I=>
 Zj I
 (some ((J zA 5),H))
 (Z0 (UU [p0] H) fun h=>
 Zj h.1
 (some ((J zA 19),h.2))
 (Z0 (Zh FY [p1] h.2) fun g=>
 Z0 (XL .not g.1) fun j=>
 Zj j
 (some ((J zA 4),g.2))
 (Z0 (Zu p0) fun u=>
 Z0 (Z6 3 u) fun w=>
 Z0 (Z3 false 1 w g.2) fun y=>
 Z0 (Y7 .string .nilp false y p1 g.2) fun z=>
 Z0 (Yr (.pointer 86) .neq z .nilp) fun A=>
 Zj A
 (some ((J zA 6),g.2))
 (Z0 (Zu p0) fun B=>
 Z0 (Z6 3 B) fun C=>
 Z0 (Z3 false 1 C g.2) fun D=>
 Z0 (K1 D g.2) fun E=>
 Z0 (Z5 .geq E (J zA 64)) fun F=>
 Zj F
 (some ((J zA 3),g.2))
 (RF p0 p1 H g.2)))))
theorem Cz:JG x0 x1 H0 H =
 Z0 (Zu x0) fun j=>
 Z0 (Z6 3 j) fun u=>
 Z0 (Z3 false 1 u H) fun w=>
 Z0 (some (.agg [.nils,(J zA 0)])) fun y=>
 Z0 (ZQ y H) fun g=>
 Z0 (Xw .string w x1 g.1 g.2) fun h=>
 some ((J zA 0),h.2):=Z9 [11,13]
theorem Cy:RF x0 x1 H0 H =
 Z0 (Zu x0) fun j=>
 Z0 (Z6 3 j) fun u=>
 Z0 (Z3 false 1 u H) fun w=>
 Z0 (Yr (.map 9 84) .eql w .nilm) fun y=>
 Zj y
 (Z0 (some ((.map H.length),H++[.map [] 0])) fun g=>
 Z0 (Zu x0) fun t37=>
 Z0 (Z6 3 t37) fun z=>
 Z0 (Za 1 z g.1 g.2) fun h=>
 JG x0 x1 H0 h.2)
 (JG x0 x1 H0 H):=Z9 [11,13]
theorem CU:Wx [p0,p1] H=RY p0 p1 H:=Be 46 [11,13] Tryz.func16
def RE:Z4:=ba 17 60 Tryz.f17 [1,1,1,1] H0 [(0,x0),(2,x2),(7,x7)] H
def RD:Z4:=ba 17 60 Tryz.f17 [1,1,1] H0 [(0,x0),(2,x2),(7,x7)] H
def RX:Z4:=
 Z0 (Wi [p0,p1] H) fun g=>
 Z0 (ZL g.1 0) fun j=>
 Z0 (ZL g.1 1) fun h=>
 Z0 (Z5 .neq h (J zA 0)) fun u=>
 Zj u
 (some (h,g.2))
 (RD p0 p2 j H g.2)
theorem Cx:RE x0 x2 x7 H0 H =
 Z0 (Zu x7) fun w=>
 Z0 (Z6 0 w) fun y=>
 Z0 (Z3 false 1 y H) fun z=>
 Z0 (Y9 1 1 z x2 H) fun j=>
 Z0 (Zu x7) fun t37=>
 Z0 (Z6 0 t37) fun A=>
 Z0 (Za 1 A j.1 j.2) fun h=>
 Z0 (Zu x0) fun B=>
 Z0 (Z6 1 B) fun C=>
 Z0 (Z3 false 1 C h.2) fun D=>
 Z0 (Zk .string x2) fun E=>
 Z0 (Z5 .add D E) fun F=>
 Z0 (Zu x0) fun I=>
 Z0 (Z6 1 I) fun K=>
 Z0 (Za 1 K F h.2) fun g=>
 Z0 (Zu x0) fun L=>
 Z0 (Z6 2 L) fun M=>
 Z0 (Z3 false 1 M g.2) fun N=>
 Z0 (Zu x0) fun O=>
 Z0 (Z6 1 O) fun Q=>
 Z0 (Z3 false 1 Q g.2) fun R=>
 Z0 (Qr N R) fun S=>
 Z0 (Zu x0) fun T=>
 Z0 (Z6 2 T) fun U=>
 Z0 (Za 1 U S g.2) fun u=>
 some ((J zA 0),u.2):=Z9 [4,6]
theorem Ba:RD x0 x2 x7 H0 H =
 Z0 (Zu x0) fun g=>
 Z0 (Z6 1 g) fun h=>
 Z0 (Z3 false 1 h H) fun j=>
 Z0 (Zk .string x2) fun u=>
 Z0 (Z5 .add j u) fun w=>
 Z0 (Zu x0) fun y=>
 Z0 (Z6 0 y) fun z=>
 Z0 (Z3 false 1 z H) fun A=>
 Z0 (Z5 .gtr w A) fun B=>
 Zj B
 (some ((J zA 12),H))
 (RE x0 x2 x7 H0 H):=Z9 [4,6]
theorem CT:Ww [p0,p1,p2] H=RX p0 p1 p2 H:=Be 60 [4,6] Tryz.func17
def Gm:Z4:=ba 18 24 Tryz.f18 [1,1,1] H0 [(6,x6)] H
def NU:Z4:=
 Z0 (Wi [p0,p1] H) fun g=>
 Z0 (ZL g.1 0) fun u=>
 Z0 (ZL g.1 1) fun h=>
 Z0 (Z5 .eql h (J zA 0)) fun w=>
 Zj w
 (Z0 (Zu u) fun y=>
 Z0 (Z6 0 y) fun z=>
 Z0 (Z3 false 1 z g.2) fun A=>
 Z0 (Zk (.slice 5) A) fun B=>
 Z0 (Zu u) fun C=>
 Z0 (Z6 1 C) fun D=>
 Z0 (Za 1 D B g.2) fun j=>
 Gm h H j.2)
 (Gm h H g.2)
theorem J0:Gm x6 H0 H =
 some (x6,H):=Z9 [4]
theorem O2:Vy [p0,p1] H=NU p0 p1 H:=Be 24 [4] Tryz.func18
def BK:Z4:=
 Z0 (Yr (.pointer 82) .neq p0 .nilp) fun t5=>
 Z0 (Z8 t5 true ap (some p0)) fun A=>
 Z0 (Z8 t5 true ap (Zu A)) fun B=>
 Z0 (Z8 t5 true ap (Z6 4 B)) fun t9=>
 Z0 (Z8 t5 true ap (Z3 false 1 t9 H)) fun h=>
 Z0 (Z8 t5 true ap (XL .not h)) fun j=>
 Z0 (Zi t5 j (.bool false)) fun u=>
 Zj u
 (Z0 (Qr p1 (J zA 0)) fun w=>
 Z0 (Zu p0) fun y=>
 Z0 (Z6 5 y) fun z=>
 Z0 (Za 1 z w H) fun g=>
 some (ap,g.2))
 (some (ap,H))
theorem MB:WV [p0,p1] H=BK p0 p1 H:=Be 18 [] Tryz.func19
def QZ:Z4:=ZM 21 84 (bb Tryz.f21 [1,1,1,0,0,1,1,1]) (Zc (VX 21 84 Tryz.f21 [1,1,1,0,0]) (Z7 0 (Zf cfg 84 21 Tryz.f21 H0))) [(0,x0),(1,x1),(18,x18),(19,x19),(20,x20)] H
def QY:Z4:=ZM 21 84 (bb Tryz.f21 [1,1,1,0,0,1,1]) (Zc (VX 21 84 Tryz.f21 [1,1,1,0,0]) (Z7 0 (Zf cfg 84 21 Tryz.f21 H0))) [(0,x0),(1,x1),(18,x18),(19,x19),(20,x20),(21,x21)] H
def Vt:Z4:=PY 21 84 (bb Tryz.f21 [1,1,1,0,0]) (Z7 0 (Zf cfg 84 21 Tryz.f21 H0)) [(0,x0),(1,x1),(18,x18),(19,x19),(20,x20)] H
def Fr:Z4:=ba 21 84 Tryz.f21 [1] H0 [(0,x0),(1,x1)] H
def Rn:Z4:=
 Z0 (Yr (.pointer 82) .eql p0 .nilp) fun g=>
 Zj g
 (some (ap,H))
 (Fr p0 p1 H H)
theorem EC:QZ x0 x1 x18 x19 x20 H0 H =
 Z0 (Z5 .add x20 (J zA 1)) fun g=>
 Vt x0 x1 x18 x19 g H0 H:=Z9 [1,4,10]
theorem EB:QY x0 x1 x18 x19 x20 x21 H0 H =
 Z0 (Zo 1 x18 x20) fun y=>
 Z0 (Z3 false 1 y H) fun z=>
 Z0 (Zu x0) fun A=>
 Z0 (Z6 3 A) fun B=>
 Z0 (Z3 false 1 B H) fun C=>
 Z0 (Y7 .string .nilp false C z H) fun g=>
 Z0 (Z5 .rem x20 (J zA 8)) fun D=>
 Z0 (Z5 .mul (J zA 8) D) fun E=>
 Z0 (Z5 .shr x1 E) fun F=>
 Z0 (Z5 .rem F (.int .u64 256)) fun I=>
 Z0 (Yq .i64 I) fun t37=>
 Z0 (Zu g) fun K=>
 Z0 (Z6 1 K) fun L=>
 Z0 (Z3 false 1 L H) fun M=>
 Z0 (Zu g) fun N=>
 Z0 (Z6 0 N) fun O=>
 Z0 (Z3 false 1 O H) fun Q=>
 Z0 (Zk (.slice 5) Q) fun R=>
 Z0 (Zu g) fun S=>
 Z0 (Z6 1 S) fun T=>
 Z0 (Z3 false 1 T H) fun U=>
 Z0 (Z5 .sub R U) fun V=>
 Z0 (VN t37 V) fun W=>
 Z0 (Z5 .add M W) fun h=>
 Z0 (Zu x0) fun X=>
 Z0 (Z6 1 X) fun Y=>
 Z0 (Z3 false 1 Y H) fun Z=>
 Z0 (Zu g) fun aa=>
 Z0 (Z6 0 aa) fun ab=>
 Z0 (Z3 false 1 ab H) fun ac=>
 Z0 (Zk (.slice 5) ac) fun ad=>
 Z0 (Z5 .sub ad h) fun ae=>
 Z0 (Z5 .sub Z ae) fun af=>
 Z0 (Zu x0) fun ag=>
 Z0 (Z6 1 ag) fun ah=>
 Z0 (Za 1 ah af H) fun j=>
 Z0 (Zu g) fun t72=>
 Z0 (Z6 0 t72) fun ai=>
 Z0 (Z3 false 1 ai j.2) fun aj=>
 Z0 (Yg 1 aj none (some h) (some h)) fun ak=>
 Z0 (Zu g) fun al=>
 Z0 (Z6 0 al) fun am=>
 Z0 (Za 1 am ak j.2) fun u=>
 Z0 (Zu g) fun an=>
 Z0 (Z6 1 an) fun ao=>
 Z0 (Za 1 ao h u.2) fun w=>
 QZ x0 x1 x18 x19 x20 H0 w.2:=Z9 [1,4,10]
theorem GI:Vt x0 x1 x18 x19 x20 H0 H =
 Z0 (Z5 .lss x20 x19) fun g=>
 Zj g
 (QY x0 x1 x18 x19 x20 g H0 H)
 (some (ap,H)):=(ZC (C:=cfg) [1,4,10] (Zn 0 (Zy 21 Tryz.f21 H0)) _ _).trans (by kernel_rfl)
theorem EA:Fr x0 x1 H0 H =
 Z0 (Zu x0) fun u=>
 Z0 (Z6 4 u) fun w=>
 Z0 (Za 1 w (.bool false) H) fun h=>
 Z0 (Zu x0) fun y=>
 Z0 (Z6 5 y) fun z=>
 Z0 (Za 1 z (J zA 0) h.2) fun j=>
 Z0 (namesE.run [x0] j.2) fun g=>
 Z0 (Zk (.slice 9) g.1) fun A=>
 Vt x0 x1 g.1 A (J zA 0) H0 g.2:=Z9 [1,4,10]
theorem Si:VJ [p0,p1] H=Rn p0 p1 H:=Be 84 [1,4,10] Tryz.func21
def PF:Z4:=ba 23 54 Tryz.f23 [1,1,1,1] H0 [(2,x2),(3,x3),(10,x10)] H
def PE:Z4:=ba 23 54 Tryz.f23 [1,1,1] H0 [(2,x2),(3,x3),(10,x10)] H
def NT:Z4:=
 Z0 (Wi [p0,p1] H) fun g=>
 Z0 (ZL g.1 0) fun j=>
 Z0 (ZL g.1 1) fun h=>
 Z0 (Z5 .neq h (J zA 0)) fun u=>
 Zj u
 (some ((.tuple [(.str []),h]),g.2))
 (PE p2 p3 j H g.2)
theorem IC:PF x2 x3 x10 H0 H =
 Z0 (Zu x10) fun t37=>
 Z0 (Z6 0 t37) fun g=>
 Z0 (Z3 false 1 g H) fun h=>
 Z0 (Zu x10) fun j=>
 Z0 (Z6 0 j) fun u=>
 Z0 (Z3 false 1 u H) fun w=>
 Z0 (Zk (.slice 5) w) fun y=>
 Z0 (Z5 .sub y x2) fun z=>
 Z0 (VN x3 z) fun A=>
 Z0 (Z5 .add x2 A) fun B=>
 Z0 (Yg 1 h (some x2) (some B) none) fun C=>
 Z0 (Qb C H) fun D=>
 some ((.tuple [D,(J zA 0)]),H):=Z9 [4,6]
theorem IB:PE x2 x3 x10 H0 H =
 Z0 (Z5 .lss x2 (J zA 0)) fun g=>
 Z0 (Z8 g false ap (some x2)) fun j=>
 Z0 (Z8 g false ap (some x10)) fun u=>
 Z0 (Z8 g false ap (Zu u)) fun w=>
 Z0 (Z8 g false ap (Z6 0 w)) fun y=>
 Z0 (Z8 g false ap (Z3 false 1 y H)) fun z=>
 Z0 (Z8 g false ap (Zk (.slice 5) z)) fun A=>
 Z0 (Z8 g false ap (Z5 .gtr j A)) fun B=>
 Z0 (Zi g (.bool true) B) fun h=>
 Z0 (Z8 h false ap (some x3)) fun C=>
 Z0 (Z8 h false ap (Z5 .lss C (J zA 0))) fun D=>
 Z0 (Zi h (.bool true) D) fun E=>
 Zj E
 (some ((.tuple [(.str []),(J zA 2)]),H))
 (PF x2 x3 x10 H0 H):=Z9 [4,6]
theorem O1:Vx [p0,p1,p2,p3] H=NT p0 p1 p2 p3 H:=Be 54 [4,6] Tryz.func23
def PB:Z4:=ba 26 38 Tryz.f26 [1,1,1,1] H0 [(3,x3)] H
def Q3:KL:=Zc (Mz 26 38 Tryz.f26 [1,1,1,1]) (Zf cfg 38 26 Tryz.f26 H0)
theorem CA:ZS 38 (Q3 H0):=Zw (C:=cfg) (kp:=cfg.keep 26) (bb Tryz.f26 [1,1,1,1]) (Zy 26 Tryz.f26 H0)
def PD:Z4:=ZM 26 38 (bb Tryz.f26 [1,1,1,0,1,0,0,1,1,1]) (Zc (VX 26 38 Tryz.f26 [1,1,1,0,1,0,0]) (Z7 0 (Q3 H0))) [(0,x0),(3,x3),(10,x10),(11,x11),(12,x12)] H
def PC:Z4:=ZM 26 38 (bb Tryz.f26 [1,1,1,0,1,0,0,1,1]) (Zc (VX 26 38 Tryz.f26 [1,1,1,0,1,0,0]) (Z7 0 (Q3 H0))) [(0,x0),(3,x3),(10,x10),(11,x11),(12,x12),(13,x13)] H
def Q4:Z4:=PY 26 38 (bb Tryz.f26 [1,1,1,0,1,0,0]) (Z7 0 (Q3 H0)) [(0,x0),(3,x3),(10,x10),(11,x11),(12,x12)] H
def PA:Z4:=ba 26 38 Tryz.f26 [1,1] H0 [(0,x0)] H
def NS:Z4:=
 Z0 (Yr (.pointer 82) .eql p0 .nilp) fun g=>
 Zj g
 (some (.nils,H))
 (PA p0 H H)
theorem Iy:PB x3 H0 H =
 some (x3,H):=Z9 [3,6,9,10]
theorem IA:PD x0 x3 x10 x11 x12 H0 H =
 Z0 (Z5 .add x12 (J zA 1)) fun g=>
 Q4 x0 x3 x10 x11 g H0 H:=Z9 [3,6,9,10]
theorem Iz:PC x0 x3 x10 x11 x12 x13 H0 H =
 Z0 (Zo 1 x10 x12) fun u=>
 Z0 (Z3 false 1 u H) fun h=>
 Z0 (Zu x0) fun w=>
 Z0 (Z6 3 w) fun y=>
 Z0 (Z3 false 1 y H) fun z=>
 Z0 (Y7 .string .nilp false z h H) fun j=>
 Z0 (Zu j) fun A=>
 Z0 (Z6 0 A) fun B=>
 Z0 (Z3 false 1 B H) fun C=>
 Z0 (Zk (.slice 5) C) fun D=>
 Z0 (Zu j) fun E=>
 Z0 (Z6 1 E) fun F=>
 Z0 (Z3 false 1 F H) fun I=>
 Z0 ((YS [(0,1,h),(1,1,D),(2,1,I)] [(.str []),(J zA 0),(J zA 0)]).map .agg) fun K=>
 Z0 ((ZB 3 [(0,K)] [(.agg [(.str []),(J zA 0),(J zA 0)])]).map (.vs 3 .clip)) fun L=>
 Z0 (Y9 3 32 x3 L H) fun g=>
 PD x0 g.1 x10 x11 x12 H0 g.2:=Z9 [3,6,9,10]
theorem Fq:Q4 x0 x3 x10 x11 x12 H0 H =
 Z0 (Z5 .lss x12 x11) fun g=>
 Zj g
 (PC x0 x3 x10 x11 x12 g H0 H)
 (PB x3 H0 H):=(ZC (C:=cfg) [3,6,9,10] (Zn 0 (CA H0)) _ _).trans (by kernel_rfl)
theorem Ix:PA x0 H0 H =
 Z0 (namesE.run [x0] H) fun g=>
 Z0 (Zk (.slice 9) g.1) fun h=>
 Q4 x0 .nils g.1 h (J zA 0) H0 g.2:=Z9 [3,6,9,10]
theorem O0:Xn [p0] H=NS p0 H:=Be 38 [3,6,9,10] Tryz.func26
def WJ:Z4:=ba 39 37 Tryz.f39 [1,1] H0 [(0,x0)] H
def Pc:Z4:=
 Z0 (Zu p0) fun t5=>
 Z0 (Z6 4 t5) fun S=>
 Z0 (Z3 false 1 S H) fun T=>
 Zj T
 (WJ p0 H H)
 (Z0 (Zu p0) fun u=>
 Z0 (Z6 5 u) fun w=>
 Z0 (Z3 false 1 w H) fun y=>
 Z0 (Z5 .eql y (J zA 1)) fun z=>
 Zj z
 (Z0 (Zu p0) fun A=>
 Z0 (Z6 4 A) fun B=>
 Z0 (Za 1 B (.bool true) H) fun g=>
 Z0 (Zu p0) fun C=>
 Z0 (Z6 5 C) fun D=>
 Z0 (Za 1 D (J zA 0) g.2) fun h=>
 WJ p0 H h.2)
 (Z0 (Zu p0) fun E=>
 Z0 (Z6 5 E) fun F=>
 Z0 (Z3 false 1 F H) fun I=>
 Z0 (Z5 .gtr I (J zA 1)) fun K=>
 Zj K
 (Z0 (Zu p0) fun L=>
 Z0 (Z6 5 L) fun M=>
 Z0 (Z3 false 1 M H) fun N=>
 Z0 (Z5 .sub N (J zA 1)) fun O=>
 Z0 (Zu p0) fun Q=>
 Z0 (Z6 5 Q) fun R=>
 Z0 (Za 1 R O H) fun j=>
 WJ p0 H j.2)
 (WJ p0 H H)))
theorem V2:WJ x0 H0 H =
 Z0 (Zu x0) fun g=>
 Z0 (Z6 4 g) fun h=>
 Z0 (Z3 false 1 h H) fun j=>
 some (j,H):=Z9 [6]
theorem AY:UU [p0] H=Pc p0 H:=Be 37 [6] Tryz.func39
def DL:Z4:=ba 40 58 Tryz.f40 [1,1] H0 [(0,x0)] H
def Jn:KL:=Zc (Mz 40 58 Tryz.f40 [1,1]) (Zf cfg 58 40 Tryz.f40 H0)
theorem IE:ZS 58 (Jn H0):=Zw (C:=cfg) (kp:=cfg.keep 40) (bb Tryz.f40 [1,1]) (Zy 40 Tryz.f40 H0)
def DN:Z4:=ZM 40 58 (bb Tryz.f40 [1,0,1,0,0,1,1,1]) (Zc (VX 40 58 Tryz.f40 [1,0,1,0,0]) (Z7 0 (Jn H0))) [(0,x0),(7,x7),(8,x8)] H
def DM:Z4:=ZM 40 58 (bb Tryz.f40 [1,0,1,0,0,1,1]) (Zc (VX 40 58 Tryz.f40 [1,0,1,0,0]) (Z7 0 (Jn H0))) [(0,x0),(7,x7),(8,x8),(9,x9)] H
def Jo:Z4:=PY 40 58 (bb Tryz.f40 [1,0,1,0,0]) (Z7 0 (Jn H0)) [(0,x0),(7,x7),(8,x8)] H
def Sj:Z4:=
 Z0 (Zk .string p0) fun g=>
 Jo p0 g (J zA 0) H H
theorem Zbi:DL x0 H0 H =
 Z0 (YR .neq x0 (.str [])) fun g=>
 Z0 (Z8 g true ap (some x0)) fun h=>
 Z0 (Z8 g true ap (Zk .string h)) fun j=>
 Z0 (Z8 g true ap (Z5 .leq j (J zA 32))) fun u=>
 Z0 (Zi g u (.bool false)) fun w=>
 some (w,H):=Z9 [3,8,9]
theorem TW:DN x0 x7 x8 H0 H =
 Z0 (Z5 .add x8 (J zA 1)) fun g=>
 Jo x0 x7 g H0 H:=Z9 [3,8,9]
theorem Zbj:DM x0 x7 x8 x9 H0 H =
 Z0 (Zx x0 x8) fun g=>
 Z0 (Z5 .geq g (.int .u8 97)) fun j=>
 Z0 (Z8 j true ap (some g)) fun B=>
 Z0 (Z8 j true ap (Z5 .leq B (.int .u8 122))) fun C=>
 Z0 (Zi j C (.bool false)) fun h=>
 Z0 (Z8 h false ap (some g)) fun D=>
 Z0 (Z8 h false ap (Z5 .geq D (.int .u8 65))) fun E=>
 Z0 (Z8 h false ap (some E)) fun u=>
 Z0 (Z8 u true ap (some g)) fun F=>
 Z0 (Z8 u true ap (Z5 .leq F (.int .u8 90))) fun I=>
 Z0 (Z8 h false ap (Zi u I (.bool false))) fun K=>
 Z0 (Zi h (.bool true) K) fun w=>
 Z0 (Z8 w false ap (some g)) fun L=>
 Z0 (Z8 w false ap (Z5 .eql L (.int .u8 95))) fun M=>
 Z0 (Zi w (.bool true) M) fun y=>
 Z0 (Z8 y false ap (some g)) fun N=>
 Z0 (Z8 y false ap (Z5 .eql N (.int .u8 46))) fun O=>
 Z0 (Zi y (.bool true) O) fun Q=>
 Z0 (XL .not Q) fun t37=>
 Z0 (Z8 t37 true ap (some x8)) fun R=>
 Z0 (Z8 t37 true ap (Z5 .eql R (J zA 0))) fun S=>
 Z0 (Z8 t37 true ap (some S)) fun z=>
 Z0 (Z8 z false ap (some g)) fun T=>
 Z0 (Z8 z false ap (Z5 .lss T (.int .u8 48))) fun U=>
 Z0 (Z8 t37 true ap (Zi z (.bool true) U)) fun V=>
 Z0 (Z8 t37 true ap (some V)) fun A=>
 Z0 (Z8 A false ap (some g)) fun W=>
 Z0 (Z8 A false ap (Z5 .gtr W (.int .u8 57))) fun X=>
 Z0 (Z8 t37 true ap (Zi A (.bool true) X)) fun Y=>
 Z0 (Zi t37 Y (.bool false)) fun Z=>
 Zj Z
 (some ((.bool false),H))
 (DN x0 x7 x8 H0 H):=Z9 [3,8,9]
theorem Uq:Jo x0 x7 x8 H0 H =
 Z0 (Z5 .lss x8 x7) fun t9=>
 Zj t9
 (DM x0 x7 x8 t9 H0 H)
 (DL x0 H0 H):=(ZC (C:=cfg) [3,8,9] (Zn 0 (IE H0)) _ _).trans (by kernel_rfl)
theorem Zc6:FY [p0] H=Sj p0 H:=Be 58 [3,8,9] Tryz.func40
def PI:Z4:=ba 41 20 Tryz.f41 [1,1,1,1,1] H0 [(6,x6)] H
def PH:Z4:=ba 41 20 Tryz.f41 [1,1,1] H0 [(0,x0),(1,x1)] H
def PG:Z4:=ba 41 20 Tryz.f41 [1,1] H0 [(0,x0),(1,x1)] H
def NW:Z4:=
 Z0 (Yr (.pointer 82) .eql p0 .nilp) fun g=>
 Zj g
 (some ((.tuple [.nilp,(J zA 5)]),H))
 (PG p0 p1 H H)
theorem ID:PI x6 H0 H =
 some ((.tuple [x6,(J zA 0)]),H):=Z9 [3,5,8]
theorem Ft:PH x0 x1 H0 H =
 Z0 (Zu x0) fun h=>
 Z0 (Z6 3 h) fun j=>
 Z0 (Z3 false 1 j H) fun u=>
 Z0 (Y7 .string .nilp false u x1 H) fun g=>
 Z0 (Yr (.pointer 86) .eql g .nilp) fun w=>
 Zj w
 (some ((.tuple [.nilp,(J zA 5)]),H))
 (PI g H0 H):=Z9 [3,5,8]
theorem J1:PG x0 x1 H0 H =
 Z0 (UU [x0] H) fun g=>
 Zj g.1
 (some ((.tuple [.nilp,(J zA 19)]),g.2))
 (PH x0 x1 H0 g.2):=Z9 [3,5,8]
theorem O4:Wi [p0,p1] H=NW p0 p1 H:=Be 20 [3,5,8] Tryz.func41
def KF:Z4:=ba 43 39 Tryz.f43 [1,1,1,1] H0 [(0,x0),(1,x1),(2,x2)] H
def KG:KL:=Zc (Mz 43 39 Tryz.f43 [1,1,1,1]) (Zf cfg 39 43 Tryz.f43 H0)
theorem OT:ZS 39 (KG H0):=Zw (C:=cfg) (kp:=cfg.keep 43) (bb Tryz.f43 [1,1,1,1]) (Zy 43 Tryz.f43 H0)
def CI:Z4:=ZM 43 39 (bb Tryz.f43 [1,1,1,0,1,0,0,1,1,1]) (Zc (VX 43 39 Tryz.f43 [1,1,1,0,1,0,0]) (Z7 0 (KG H0))) [(0,x0),(1,x1),(2,x2),(18,x18),(19,x19),(20,x20)] H
def CH:Z4:=ZM 43 39 (bb Tryz.f43 [1,1,1,0,1,0,0,1,1]) (Zc (VX 43 39 Tryz.f43 [1,1,1,0,1,0,0]) (Z7 0 (KG H0))) [(0,x0),(1,x1),(2,x2),(18,x18),(19,x19),(20,x20),(21,x21)] H
def KH:Z4:=PY 43 39 (bb Tryz.f43 [1,1,1,0,1,0,0]) (Z7 0 (KG H0)) [(0,x0),(1,x1),(2,x2),(18,x18),(19,x19),(20,x20)] H
def CG:Z4:=ba 43 39 Tryz.f43 [1,1,1] H0 [(0,x0),(1,x1),(2,x2)] H
def CF:Z4:=ba 43 39 Tryz.f43 [1,1] H0 [(0,x0),(1,x1),(2,x2)] H
def HM:Z4:=
 Z0 (Yr (.pointer 82) .eql p0 .nilp) fun g=>
 Zj g
 (some ((.tuple [.nilp,(J zA 5)]),H))
 (CF p0 p1 p2 H H)
theorem ZcK:KF x0 x1 x2 H0 H =
 Z0 (some ((.map H.length),H++[.map [] 0])) fun g=>
 Z0 ((YS [(0,1,x0),(1,1,x1),(3,1,g.1)] [.nilp,(.str []),.nils,.nilm]).map .agg) fun j=>
 Z0 (Qr (J zA 0) x2) fun u=>
 Z0 ((YS [(0,4,j),(4,1,u)] [.nilp,(.str []),.nils,.nilm,(J zA 0),(J zA 0),(.bool false)]).map .agg) fun t37=>
 Z0 (ZQ t37 g.2) fun h=>
 some ((.tuple [h.1,(J zA 0)]),h.2):=Z9 bc
theorem ZcL:CI x0 x1 x2 x18 x19 x20 H0 H =
 Z0 (Z5 .add x20 (J zA 1)) fun g=>
 KH x0 x1 x2 x18 x19 g H0 H:=Z9 bc
theorem PL:CH x0 x1 x2 x18 x19 x20 x21 H0 H =
 Z0 (Zo 1 x18 x20) fun h=>
 Z0 (Z3 false 1 h H) fun j=>
 Z0 (Xv [x0,j] H) fun g=>
 Z0 (Z5 .neq g.1 (J zA 0)) fun u=>
 Zj u
 (some ((.tuple [.nilp,g.1]),g.2))
 (CI x0 x1 x2 x18 x19 x20 H0 g.2):=Z9 bc
theorem PM:KH x0 x1 x2 x18 x19 x20 H0 H =
 Z0 (Z5 .lss x20 x19) fun g=>
 Zj g
 (CH x0 x1 x2 x18 x19 x20 g H0 H)
 (KF x0 x1 x2 H0 H):=(ZC (C:=cfg) [3,5,7,11,12] (Zn 0 (OT H0)) _ _).trans (by kernel_rfl)
theorem PK:CG x0 x1 x2 H0 H =
 Z0 (JQ VK [x0,x1] H) fun g=>
 Z0 (Zk (.slice 9) g.1) fun h=>
 KH x0 x1 x2 g.1 h (J zA 0) H0 g.2:=Z9 bc
theorem Gn:CF x0 x1 x2 H0 H =
 Z0 (Zh UH [x1] H) fun g=>
 Z0 (XL .not g.1) fun h=>
 Zj h
 (some ((.tuple [.nilp,(J zA 4)]),g.2))
 (CG x0 x1 x2 H0 g.2):=Z9 bc
theorem Zd3:Wy [p0,p1,p2] H=HM p0 p1 p2 H:=Be 39 [3,5,7,11,12] Tryz.func43
def Dg:Z4:=ba 45 47 Tryz.f45 [1,1,1,1] H0 [(0,x0)] H
def V3:KL:=Zc (Mz 45 47 Tryz.f45 [1,1,1,1]) (Zf cfg 47 45 Tryz.f45 H0)
theorem Nu:ZS 47 (V3 H0):=Zw (C:=cfg) (kp:=cfg.keep 45) (bb Tryz.f45 [1,1,1,1]) (Zy 45 Tryz.f45 H0)
def Di:Z4:=ZM 45 47 (bb Tryz.f45 [1,1,1,0,0,0,1,0,1,1]) (Z7 1 (Zc (VX 45 47 Tryz.f45 [1,1,1,0,0,0]) (Z7 0 (V3 H0)))) [(0,x0),(3,x3)] H
def Dh:Z4:=ZM 45 47 (bb Tryz.f45 [1,1,1,0,0,0,1]) (Zc (VX 45 47 Tryz.f45 [1,1,1,0,0,0]) (Z7 0 (V3 H0))) [(0,x0)] H
def X1:Z4:=PY 45 47 (bb Tryz.f45 [1,1,1,0,0,0]) (Z7 0 (V3 H0)) [(0,x0)] H
def Df:Z4:=ba 45 47 Tryz.f45 [1,1,1] H0 [(0,x0)] H
def De:Z4:=ba 45 47 Tryz.f45 [1,1] H0 [(0,x0)] H
def DW:Z4:=
 Z0 (Yr (.pointer 124) .eql p0 .nilp) fun g=>
 Zj g
 (some ((J zA 5),H))
 (De p0 H H)
theorem L9:Dg x0 H0 H =
 Z0 (Zu x0) fun h=>
 Z0 (Z6 6 h) fun j=>
 Z0 (Za 1 j (.bool true) H) fun g=>
 some ((J zA 0),g.2):=Z9 bd
theorem KY:Di x0 x3 H0 H =
 Z0 (Zu x0) fun h=>
 Z0 (Z6 0 h) fun j=>
 Z0 (forgetE.run [j,x3] H) fun g=>
 X1 x0 H0 g.2:=Z9 bd
theorem U5:Dh x0 H0 H =
 Z0 (Zu x0) fun u=>
 Z0 (Z6 0 u) fun w=>
 Z0 (Z6 2 w) fun y=>
 Z0 (Z3 false 1 y H) fun z=>
 Z0 (Zo 1 z (J zA 0)) fun A=>
 Z0 (Z3 false 1 A H) fun j=>
 Z0 (Zu x0) fun B=>
 Z0 (Z6 0 B) fun C=>
 Z0 (Z6 0 C) fun D=>
 Z0 (Z3 false 1 D H) fun E=>
 Z0 (Xv [E,j] H) fun g=>
 Z0 (Z5 .neq g.1 (J zA 0)) fun h=>
 Z0 (Z8 h true ap (some g.1)) fun F=>
 Z0 (Z8 h true ap (Z5 .neq F (J zA 5))) fun I=>
 Z0 (Zi h I (.bool false)) fun t37=>
 Zj t37
 (some (g.1,g.2))
 (Di x0 j H0 g.2):=Z9 bd
theorem U6:X1 x0 H0 H =
 Z0 (Zu x0) fun g=>
 Z0 (Z6 0 g) fun h=>
 Z0 (Z6 2 h) fun j=>
 Z0 (Z3 false 1 j H) fun u=>
 Z0 (Zk (.slice 9) u) fun w=>
 Z0 (Z5 .gtr w (J zA 0)) fun y=>
 Zj y
 (Dh x0 H0 H)
 (Dg x0 H0 H):=(ZC (C:=cfg) [3,5,6,10,11] (Zn 0 (Nu H0)) _ _).trans (by kernel_rfl)
theorem L8:Df x0 H0 H =
 X1 x0 H0 H:=Z9 bd
theorem L7:De x0 H0 H =
 Z0 (Zu x0) fun h=>
 Z0 (Z6 6 h) fun t9=>
 Z0 (Z3 false 1 t9 H) fun g=>
 Zj g
 (some ((J zA 8),H))
 (Df x0 H0 H):=Z9 bd
theorem LV:Vk [p0] H=DW p0 H:=Be 47 [3,5,6,10,11] Tryz.func45
def CD:Z4:=ba 50 56 Tryz.f50 [1,1,1,1,1] H0 [(5,x5)] H
def KD:KL:=Zc (Mz 50 56 Tryz.f50 [1,1,1,1,1]) (Zf cfg 56 50 Tryz.f50 H0)
theorem OS:ZS 56 (KD H0):=Zw (C:=cfg) (kp:=cfg.keep 50) (bb Tryz.f50 [1,1,1,1,1]) (Zy 50 Tryz.f50 H0)
def Rh:Z4:=ZM 50 56 (bb Tryz.f50 [1,1,1,1,0,1,0,0,1,1,1]) (Zc (VX 50 56 Tryz.f50 [1,1,1,1,0,1,0,0]) (Z7 0 (KD H0))) [(5,x5),(6,x6),(21,x21),(22,x22),(23,x23)] H
def CE:Z4:=ZM 50 56 (bb Tryz.f50 [1,1,1,1,0,1,0,0,1,1]) (Zc (VX 50 56 Tryz.f50 [1,1,1,1,0,1,0,0]) (Z7 0 (KD H0))) [(5,x5),(6,x6),(21,x21),(22,x22),(23,x23),(24,x24)] H
def KE:Z4:=PY 50 56 (bb Tryz.f50 [1,1,1,1,0,1,0,0]) (Z7 0 (KD H0)) [(5,x5),(6,x6),(21,x21),(22,x22),(23,x23)] H
def CC:Z4:=ba 50 56 Tryz.f50 [1,1,1] H0 [(0,x0),(1,x1),(5,x5)] H
def T4:Z4:=
 Z0 (Yr (.pointer 82) .eql p0 .nilp) fun g=>
 Z0 (Z8 g false ap (some p1)) fun j=>
 Z0 (Z8 g false (ap,H) (Zh UH [j] H)) fun h=>
 Z0 (Z8 g false ap (XL .not h.1)) fun u=>
 Z0 (Zi g (.bool true) u) fun w=>
 Zj w
 (some (.nils,h.2))
 (CC p0 p1 .nils H h.2)
theorem ZcI:CD x5 H0 H =
 some (x5,H):=Z9 [4,7,11,12]
theorem Q5:Rh x5 x6 x21 x22 x23 H0 H =
 Z0 (Z5 .add x23 (J zA 1)) fun g=>
 KE x5 x6 x21 x22 g H0 H:=Z9 [4,7,11,12]
theorem ZcJ:CE x5 x6 x21 x22 x23 x24 H0 H =
 Z0 (Zo 3 x21 x23) fun A=>
 Z0 (Z3 true 3 A H) fun B=>
 Z0 (some ((.ptr H.length 0),H++[.cells [(.str []),(J zA 0),(J zA 0)]])) fun y=>
 Z0 (Za 3 y.1 B y.2) fun j=>
 Z0 (Zk .string x6) fun w=>
 Z0 (Z6 0 y.1) fun C=>
 Z0 (Z3 false 1 C j.2) fun D=>
 Z0 (Zk .string D) fun E=>
 Z0 (Z5 .gtr E w) fun g=>
 Z0 (Z8 g true ap (Z6 0 y.1)) fun F=>
 Z0 (Z8 g true ap (Z3 false 1 F j.2)) fun I=>
 Z0 (Z8 g true ap (some w)) fun t37=>
 Z0 (Z8 g true ap (Y8 I none (some t37) none)) fun K=>
 Z0 (Z8 g true ap (some x6)) fun L=>
 Z0 (Z8 g true ap (YR .eql K L)) fun M=>
 Z0 (Zi g M (.bool false)) fun h=>
 Z0 (Z8 h true ap (Z6 0 y.1)) fun N=>
 Z0 (Z8 h true ap (Z3 false 1 N j.2)) fun O=>
 Z0 (Z8 h true ap (some w)) fun Q=>
 Z0 (Z8 h true ap (Y8 O (some Q) none none)) fun R=>
 Z0 (Z8 h true (ap,j.2) (Zh Gg [R] j.2)) fun u=>
 Z0 (Zi h u.1 (.bool false)) fun S=>
 Zj S
 (Z0 (Z6 0 y.1) fun T=>
 Z0 (Z3 false 1 T u.2) fun U=>
 Z0 ((ZB 1 [(0,U)] [(.str [])]).map (.vs 1 .clip)) fun V=>
 Z0 (Y9 1 16 x5 V u.2) fun z=>
 Rh z.1 x6 x21 x22 x23 H0 z.2)
 (Rh x5 x6 x21 x22 x23 H0 u.2):=Z9 [4,7,11,12]
theorem PJ:KE x5 x6 x21 x22 x23 H0 H =
 Z0 (Z5 .lss x23 x22) fun g=>
 Zj g
 (CE x5 x6 x21 x22 x23 g H0 H)
 (CD x5 H0 H):=(ZC (C:=cfg) [4,7,11,12] (Zn 0 (OS H0)) _ _).trans (by kernel_rfl)
theorem ZcH:CC x0 x1 x5 H0 H =
 Z0 (Zh Ja [x1] H) fun h=>
 Z0 (JQ Xn [x0] h.2) fun g=>
 Z0 (Zk (.slice 108) g.1) fun j=>
 KE x5 h.1 g.1 j (J zA 0) H0 g.2:=Z9 [4,7,11,12]
theorem NX:VK [p0,p1] H=T4 p0 p1 H:=Be 56 [4,7,11,12] Tryz.func50
def JH:Z4:=ba 51 19 Tryz.f51 [1,1,1] H0 [(6,x6)] H
def RZ:Z4:=
 Z0 (Wi [p0,p1] H) fun g=>
 Z0 (ZL g.1 0) fun w=>
 Z0 (ZL g.1 1) fun h=>
 Z0 (Z5 .eql h (J zA 0)) fun u=>
 Zj u
 (Z0 (GQ [p0,p1] g.2) fun j=>
 JH h H j.2)
 (JH h H g.2)
theorem UQ:JH x6 H0 H =
 some (x6,H):=Z9 [4]
theorem CV:Xv [p0,p1] H=RZ p0 p1 H:=Be 19 [4] Tryz.func51
def DO:Z4:=ba 72 54 Tryz.f72 [1,1] H0 [(0,x0)] H
def Jp:KL:=Zc (Mz 72 54 Tryz.f72 [1,1]) (Zf cfg 54 72 Tryz.f72 H0)
theorem IF:ZS 54 (Jp H0):=Zw (C:=cfg) (kp:=cfg.keep 72) (bb Tryz.f72 [1,1]) (Zy 72 Tryz.f72 H0)
def DQ:Z4:=ZM 72 54 (bb Tryz.f72 [1,0,1,0,0,1,1,1]) (Zc (VX 72 54 Tryz.f72 [1,0,1,0,0]) (Z7 0 (Jp H0))) [(0,x0),(7,x7),(8,x8)] H
def DP:Z4:=ZM 72 54 (bb Tryz.f72 [1,0,1,0,0,1,1]) (Zc (VX 72 54 Tryz.f72 [1,0,1,0,0]) (Z7 0 (Jp H0))) [(0,x0),(7,x7),(8,x8),(9,x9)] H
def Jq:Z4:=PY 72 54 (bb Tryz.f72 [1,0,1,0,0]) (Z7 0 (Jp H0)) [(0,x0),(7,x7),(8,x8)] H
def So:Z4:=
 Z0 (Zk .string p0) fun g=>
 Jq p0 g (J zA 0) H H
theorem Zbm:DO x0 H0 H =
 Z0 (YR .neq x0 (.str [])) fun g=>
 Z0 (Z8 g true ap (some x0)) fun h=>
 Z0 (Z8 g true ap (Zk .string h)) fun j=>
 Z0 (Z8 g true ap (Z5 .leq j (J zA 16))) fun u=>
 Z0 (Zi g u (.bool false)) fun w=>
 some (w,H):=Z9 [3,8,9]
theorem P1:DQ x0 x7 x8 H0 H =
 Z0 (Z5 .add x8 (J zA 1)) fun g=>
 Jq x0 x7 g H0 H:=Z9 [3,8,9]
theorem Zbn:DP x0 x7 x8 x9 H0 H =
 Z0 (Zx x0 x8) fun g=>
 Z0 (Z5 .eql g (.int .u8 95)) fun j=>
 Z0 (Z8 j false ap (some g)) fun A=>
 Z0 (Z8 j false ap (Z5 .geq A (.int .u8 97))) fun B=>
 Z0 (Z8 j false ap (some B)) fun w=>
 Z0 (Z8 w true ap (some g)) fun C=>
 Z0 (Z8 w true ap (Z5 .leq C (.int .u8 122))) fun D=>
 Z0 (Z8 j false ap (Zi w D (.bool false))) fun E=>
 Z0 (Zi j (.bool true) E) fun u=>
 Z0 (Z8 u false ap (some g)) fun F=>
 Z0 (Z8 u false ap (Z5 .geq F (.int .u8 65))) fun I=>
 Z0 (Z8 u false ap (some I)) fun y=>
 Z0 (Z8 y true ap (some g)) fun K=>
 Z0 (Z8 y true ap (Z5 .leq K (.int .u8 90))) fun L=>
 Z0 (Z8 u false ap (Zi y L (.bool false))) fun M=>
 Z0 (Zi u (.bool true) M) fun N=>
 Z0 (XL .not N) fun h=>
 Z0 (Z8 h true ap (some x8)) fun O=>
 Z0 (Z8 h true ap (Z5 .eql O (J zA 0))) fun Q=>
 Z0 (Z8 h true ap (some Q)) fun t37=>
 Z0 (Z8 t37 false ap (some g)) fun R=>
 Z0 (Z8 t37 false ap (Z5 .lss R (.int .u8 48))) fun S=>
 Z0 (Z8 h true ap (Zi t37 (.bool true) S)) fun T=>
 Z0 (Z8 h true ap (some T)) fun z=>
 Z0 (Z8 z false ap (some g)) fun U=>
 Z0 (Z8 z false ap (Z5 .gtr U (.int .u8 57))) fun V=>
 Z0 (Z8 h true ap (Zi z (.bool true) V)) fun W=>
 Z0 (Zi h W (.bool false)) fun X=>
 Zj X
 (some ((.bool false),H))
 (DQ x0 x7 x8 H0 H):=Z9 [3,8,9]
theorem Uu:Jq x0 x7 x8 H0 H =
 Z0 (Z5 .lss x8 x7) fun t9=>
 Zj t9
 (DP x0 x7 x8 t9 H0 H)
 (DO x0 H0 H):=(ZC (C:=cfg) [3,8,9] (Zn 0 (IF H0)) _ _).trans (by kernel_rfl)
theorem Zc7:UH [p0] H=So p0 H:=Be 54 [3,8,9] Tryz.func72
def Lp:Z4:=
 Z0 (YR .add (.str [46,116,109,112,46]) p0) fun t4=>
 Z0 (YR .add t4 (.str [46])) fun t5=>
 some (t5,H)
theorem Za3:Ja [p0] H=Lp p0 H:=Be 6 [] Tryz.func83
def KI:Z4:=ba 84 27 Tryz.f84 [1,1] H0 [(0,x0)] H
def Us:KL:=Zc (Mz 84 27 Tryz.f84 [1,1]) (Zf cfg 27 84 Tryz.f84 H0)
theorem EK:ZS 27 (Us H0):=Zw (C:=cfg) (kp:=cfg.keep 84) (bb Tryz.f84 [1,1]) (Zy 84 Tryz.f84 H0)
def TZ:Z4:=ZM 84 27 (bb Tryz.f84 [1,0,1,0,0,1,1,1]) (Zc (VX 84 27 Tryz.f84 [1,0,1,0,0]) (Z7 0 (Us H0))) [(0,x0),(5,x5),(6,x6)] H
def TY:Z4:=ZM 84 27 (bb Tryz.f84 [1,0,1,0,0,1,1]) (Zc (VX 84 27 Tryz.f84 [1,0,1,0,0]) (Z7 0 (Us H0))) [(0,x0),(5,x5),(6,x6),(7,x7)] H
def Ut:Z4:=PY 84 27 (bb Tryz.f84 [1,0,1,0,0]) (Z7 0 (Us H0)) [(0,x0),(5,x5),(6,x6)] H
def Pe:Z4:=
 Z0 (Zk .string p0) fun t5=>
 Ut p0 t5 (J zA 0) H H
theorem Hx:KI x0 H0 H =
 Z0 (YR .neq x0 (.str [])) fun g=>
 Z0 (Z8 g true ap (some x0)) fun h=>
 Z0 (Z8 g true ap (Zx h (J zA 0))) fun j=>
 Z0 (Z8 g true ap (Z5 .neq j (.int .u8 48))) fun u=>
 Z0 (Zi g u (.bool false)) fun w=>
 some (w,H):=Z9 [3,6,7]
theorem HA:TZ x0 x5 x6 H0 H =
 Z0 (Z5 .add x6 (J zA 1)) fun g=>
 Ut x0 x5 g H0 H:=Z9 [3,6,7]
theorem Hy:TY x0 x5 x6 x7 H0 H =
 Z0 (Zx x0 x6) fun h=>
 Z0 (Z5 .lss h (.int .u8 48)) fun g=>
 Z0 (Z8 g false ap (some x0)) fun j=>
 Z0 (Z8 g false ap (some x6)) fun u=>
 Z0 (Z8 g false ap (Zx j u)) fun w=>
 Z0 (Z8 g false ap (Z5 .gtr w (.int .u8 57))) fun y=>
 Z0 (Zi g (.bool true) y) fun z=>
 Zj z
 (some ((.bool false),H))
 (TZ x0 x5 x6 H0 H):=Z9 [3,6,7]
theorem Dn:Ut x0 x5 x6 H0 H =
 Z0 (Z5 .lss x6 x5) fun g=>
 Zj g
 (TY x0 x5 x6 g H0 H)
 (KI x0 H0 H):=(ZC (C:=cfg) [3,6,7] (Zn 0 (EK H0)) _ _).trans (by kernel_rfl)
theorem I0:Gg [p0] H=Pe p0 H:=Be 27 [3,6,7] Tryz.func84
def NV:Z4:=
 Z0 (Zu p0) fun N=>
 Z0 (Z6 3 N) fun O=>
 Z0 (Z3 false 1 O H) fun Q=>
 Z0 (Y7 .string .nilp false Q p1 H) fun j=>
 Z0 (Yr (.pointer 86) .neq j .nilp) fun u=>
 Zj u
 (Z0 (Zu p0) fun w=>
 Z0 (Z6 1 w) fun y=>
 Z0 (Z3 false 1 y H) fun z=>
 Z0 (Zu j) fun A=>
 Z0 (Z6 0 A) fun B=>
 Z0 (Z3 false 1 B H) fun C=>
 Z0 (Zk (.slice 5) C) fun D=>
 Z0 (Z5 .sub z D) fun E=>
 Z0 (Zu p0) fun F=>
 Z0 (Z6 1 F) fun I=>
 Z0 (Za 1 I E H) fun g=>
 Z0 (Zu p0) fun K=>
 Z0 (Z6 3 K) fun L=>
 Z0 (Z3 false 1 L g.2) fun M=>
 Z0 (Jz .string M p1 g.2) fun h=>
 some (ap,h.2))
 (some (ap,H))
theorem O3:GQ [p0,p1] H=NV p0 p1 H:=Be 30 [] Tryz.func85
def RI:Z4:=ba 97 63 Tryz.f97 [1,1,1,1,1] H0 [(0,x0),(4,x4)] H
def RH:Z4:=ba 97 63 Tryz.f97 [1,1,1] H0 [(0,x0)] H
def RG:Z4:=ba 97 63 Tryz.f97 [1,1] H0 [(0,x0)] H
def T5:Z4:=
 Z0 (Yr (.pointer 124) .eql p0 .nilp) fun g=>
 Zj g
 (some ((.tuple [(.str []),(J zA 5)]),H))
 (RG p0 H H)
theorem CJ:RI x0 x4 H0 H =
 Z0 (Zu x0) fun u=>
 Z0 (Z6 5 u) fun w=>
 Z0 (Z3 false 1 w H) fun y=>
 Z0 (Z5 .add y (J zA 1)) fun z=>
 Z0 (Zu x0) fun A=>
 Z0 (Z6 5 A) fun B=>
 Z0 (Za 1 B z H) fun g=>
 Z0 (Zu x0) fun C=>
 Z0 (Z6 0 C) fun D=>
 Z0 (Z6 2 D) fun E=>
 Z0 (Z3 false 1 E g.2) fun F=>
 Z0 ((ZB 1 [(0,x4)] [(.str [])]).map (.vs 1 .clip)) fun I=>
 Z0 (Y9 1 16 F I g.2) fun h=>
 Z0 (Zu x0) fun K=>
 Z0 (Z6 0 K) fun L=>
 Z0 (Z6 2 L) fun M=>
 Z0 (Za 1 M h.1 h.2) fun j=>
 some ((.tuple [x4,(J zA 0)]),j.2):=Z9 [3,5,9]
theorem Bb:RH x0 H0 H =
 Z0 (Zu x0) fun w=>
 Z0 (Z6 0 w) fun y=>
 Z0 (Z6 1 y) fun z=>
 Z0 (Z3 false 1 z H) fun A=>
 Z0 (Zh Ja [A] H) fun h=>
 Z0 (Zu x0) fun B=>
 Z0 (Z6 5 B) fun C=>
 Z0 (Z3 false 1 C h.2) fun D=>
 Z0 (Z5 .add D (J zA 1)) fun E=>
 Z0 (Zh EV [E] h.2) fun j=>
 Z0 (YR .add h.1 j.1) fun u=>
 Z0 (Zu x0) fun F=>
 Z0 (Z6 0 F) fun I=>
 Z0 (Z6 0 I) fun K=>
 Z0 (Z3 false 1 K j.2) fun t37=>
 Z0 (Wx [t37,u] j.2) fun g=>
 Z0 (Z5 .neq g.1 (J zA 0)) fun L=>
 Zj L
 (some ((.tuple [(.str []),g.1]),g.2))
 (RI x0 u H0 g.2):=Z9 [3,5,9]
theorem UR:RG x0 H0 H =
 Z0 (Zu x0) fun t9=>
 Z0 (Z6 6 t9) fun h=>
 Z0 (Z3 false 1 h H) fun g=>
 Z0 (Z8 g false ap (some x0)) fun j=>
 Z0 (Z8 g false ap (Zu j)) fun u=>
 Z0 (Z8 g false ap (Z6 0 u)) fun w=>
 Z0 (Z8 g false ap (Z6 0 w)) fun y=>
 Z0 (Z8 g false ap (Z3 false 1 y H)) fun z=>
 Z0 (Z8 g false ap (Yr (.pointer 82) .eql z .nilp)) fun A=>
 Z0 (Zi g (.bool true) A) fun B=>
 Zj B
 (some ((.tuple [(.str []),(J zA 8)]),H))
 (RH x0 H0 H):=Z9 [3,5,9]
theorem CW:Ue [p0] H=T5 p0 H:=Be 63 [3,5,9] Tryz.func97
def Dm:Z4:=ba 98 51 Tryz.f98 [1,1,1,1,1,1] H0 [(0,x0),(1,x1),(8,x8)] H
def Dl:Z4:=ba 98 51 Tryz.f98 [1,1,1,1,1] H0 [(0,x0),(1,x1),(8,x8)] H
def Dk:Z4:=ba 98 51 Tryz.f98 [1,1,1] H0 [(0,x0),(1,x1),(2,x2)] H
def Dj:Z4:=ba 98 51 Tryz.f98 [1,1] H0 [(0,x0),(1,x1),(2,x2)] H
def DX:Z4:=
 Z0 (Xj [p0,p1] H) fun g=>
 Z0 (Z5 .neq g.1 (J zA 0)) fun h=>
 Zj h
 (some (g.1,g.2))
 (Dj p0 p1 p2 H g.2)
theorem La:Dm x0 x1 x8 H0 H =
 Z0 (Zu x0) fun h=>
 Z0 (Z6 0 h) fun j=>
 Z0 (Z6 0 j) fun u=>
 Z0 (Z3 false 1 u H) fun w=>
 Z0 (Ww [w,x1,x8] H) fun g=>
 some (g.1,g.2):=Z9 [4,6,9,11]
theorem KZ:Dl x0 x1 x8 H0 H =
 Z0 (Zk .string x8) fun h=>
 Z0 (Zu x0) fun j=>
 Z0 (Z6 4 j) fun u=>
 Z0 (Z3 false 1 u H) fun w=>
 Z0 (Zu x0) fun y=>
 Z0 (Z6 0 y) fun z=>
 Z0 (JQ XV [z] H) fun g=>
 Z0 (Z5 .sub w g.1) fun A=>
 Z0 (Z5 .gtr h A) fun B=>
 Zj B
 (some ((J zA 11),g.2))
 (Dm x0 x1 x8 H0 g.2):=Z9 [4,6,9,11]
theorem U7:Dk x0 x1 x2 H0 H =
 Z0 (Zh PR [x2] H) fun g=>
 Z0 (ZL g.1 0) fun j=>
 Z0 (ZL g.1 1) fun h=>
 Z0 (Z5 .neq h (J zA 0)) fun u=>
 Zj u
 (some (h,g.2))
 (Dl x0 x1 j H0 g.2):=Z9 [4,6,9,11]
theorem W9:Dj x0 x1 x2 H0 H =
 Z0 (Zu x0) fun g=>
 Z0 (Z6 0 g) fun h=>
 Z0 (Z6 3 h) fun j=>
 Z0 (Z3 false 1 j H) fun u=>
 Z0 (Y7 .string (.bool false) false u x1 H) fun w=>
 Zj w
 (some ((J zA 8),H))
 (Dk x0 x1 x2 H0 H):=Z9 [4,6,9,11]
theorem LW:Vl [p0,p1,p2] H=DX p0 p1 p2 H:=Be 51 [4,6,9,11] Tryz.func98
def FA:Z4:=ba 99 29 Tryz.f99 [1,1,1] H0 [(0,x0),(1,x1)] H
def Fz:Z4:=ba 99 29 Tryz.f99 [1,1] H0 [(0,x0),(1,x1)] H
def Ro:Z4:=
 Z0 (Xj [p0,p1] H) fun g=>
 Z0 (Z5 .neq g.1 (J zA 0)) fun h=>
 Zj h
 (some (g.1,g.2))
 (Fz p0 p1 H g.2)
theorem EG:FA x0 x1 H0 H =
 Z0 (Zu x0) fun h=>
 Z0 (Z6 0 h) fun j=>
 Z0 (Z6 3 j) fun u=>
 Z0 (Z3 false 1 u H) fun w=>
 Z0 (Xw .string w x1 (.bool true) H) fun g=>
 some ((J zA 0),g.2):=Z9 [4,7]
theorem GK:Fz x0 x1 H0 H =
 Z0 (Zu x0) fun h=>
 Z0 (Z6 0 h) fun j=>
 Z0 (Z6 0 j) fun u=>
 Z0 (Z3 false 1 u H) fun w=>
 Z0 (Vy [w,x1] H) fun g=>
 Z0 (Z5 .neq g.1 (J zA 0)) fun y=>
 Zj y
 (some (g.1,g.2))
 (FA x0 x1 H0 g.2):=Z9 [4,7]
theorem Sk:VM [p0,p1] H=Ro p0 p1 H:=Be 29 [4,7] Tryz.func99
def FB:Z4:=ba 100 23 Tryz.f100 [1,1] H0 [(0,x0)] H
def Rp:Z4:=
 Z0 (Yr (.pointer 124) .eql p0 .nilp) fun t4=>
 Z0 (Z8 t4 false ap (some p0)) fun B=>
 Z0 (Z8 t4 false ap (Zu B)) fun C=>
 Z0 (Z8 t4 false ap (Z6 6 C)) fun D=>
 Z0 (Z8 t4 false ap (Z3 false 1 D H)) fun t9=>
 Z0 (Zi t4 (.bool true) t9) fun g=>
 Z0 (Z8 g false ap (some p0)) fun h=>
 Z0 (Z8 g false ap (Zu h)) fun j=>
 Z0 (Z8 g false ap (Z6 0 j)) fun u=>
 Z0 (Z8 g false ap (Z6 0 u)) fun w=>
 Z0 (Z8 g false ap (Z3 false 1 w H)) fun y=>
 Z0 (Z8 g false ap (Yr (.pointer 82) .eql y .nilp)) fun z=>
 Z0 (Zi g (.bool true) z) fun A=>
 Zj A
 (some ((J zA 0),H))
 (FB p0 H H)
theorem EH:FB x0 H0 H =
 Z0 (Zu x0) fun h=>
 Z0 (Z6 0 h) fun j=>
 Z0 (JQ XV [j] H) fun g=>
 some (g.1,g.2):=Z9 [3]
theorem Sm:Jt [p0] H=Rp p0 H:=Be 23 [3] Tryz.func100
def Bf:Z4:=ba 102 28 Tryz.f102 [1,1,1] H0 [(0,x0),(1,x1)] H
def Bc:Z4:=ba 102 28 Tryz.f102 [1,1] H0 [(0,x0),(1,x1)] H
def Qa:Z4:=
 Z0 (Xj [p0,p1] H) fun g=>
 Z0 (Z5 .neq g.1 (J zA 0)) fun h=>
 Zj h
 (some (g.1,g.2))
 (Bc p0 p1 H g.2)
theorem My:Bf x0 x1 H0 H =
 Z0 (Zu x0) fun h=>
 Z0 (Z6 0 h) fun j=>
 Z0 (forgetE.run [j,x1] H) fun g=>
 some ((J zA 0),g.2):=Z9 [4,7]
theorem JR:Bc x0 x1 H0 H =
 Z0 (Zu x0) fun h=>
 Z0 (Z6 0 h) fun j=>
 Z0 (Z6 0 j) fun u=>
 Z0 (Z3 false 1 u H) fun w=>
 Z0 (Xv [w,x1] H) fun g=>
 Z0 (Z5 .neq g.1 (J zA 0)) fun y=>
 Zj y
 (some (g.1,g.2))
 (Bf x0 x1 H0 g.2):=Z9 [4,7]
theorem KM:WW [p0,p1] H=Qa p0 p1 H:=Be 28 [4,7] Tryz.func102
def ZcV:Z4:=
 Z0 (Zbk ZeW [p0] H) fun g=>
 some (g.1,g.2)
theorem Zhm:EV [p0] H=ZcV p0 H:=Be 5 [] Tryz.func124
def FC:Z4:=ba 125 22 Tryz.f125 [1,1] H0 [] H
def Rq:Z4:=
 Z0 (Yr (.pointer 124) .eql p0 .nilp) fun C=>
 Zj C
 (some ((J zA 5),H))
 (Z0 (Zu p0) fun h=>
 Z0 (Z6 6 h) fun j=>
 Z0 (Z3 false 1 j H) fun u=>
 Zj u
 (some ((J zA 8),H))
 (Z0 (Zu p0) fun w=>
 Z0 (Z6 0 w) fun y=>
 Z0 (Z6 2 y) fun z=>
 Z0 (Z3 false 1 z H) fun A=>
 Z0 (Zh YQ [A,p1] H) fun g=>
 Z0 (XL .not g.1) fun B=>
 Zj B
 (some ((J zA 5),g.2))
 (FC H g.2)))
theorem EJ:FC H0 H =
 some ((J zA 0),H):=Z9 [7]
theorem Sn:Xj [p0,p1] H=Rq p0 p1 H:=Be 22 [7] Tryz.func125
def Aj:Z4:=ba 126 27 Tryz.f126 [1,1,1] H0 [(4,x4)] H
def QB:KL:=Zc (Mz 126 27 Tryz.f126 [1,1,1]) (Zf cfg 27 126 Tryz.f126 H0)
theorem ZaF:ZS 27 (QB H0):=Zw (C:=cfg) (kp:=cfg.keep 126) (bb Tryz.f126 [1,1,1]) (Zy 126 Tryz.f126 H0)
def Al:Z4:=ZM 126 27 (bb Tryz.f126 [1,1,0,1,0,0,1,1,1]) (Zc (VX 126 27 Tryz.f126 [1,1,0,1,0,0]) (Z7 0 (QB H0))) [(4,x4),(9,x9),(10,x10),(11,x11)] H
def Zil:KL:=Zc (Mz 126 27 Tryz.f126 [1,1,0,1,0,0,1,1,1]) (Zc (VX 126 27 Tryz.f126 [1,1,0,1,0,0]) (Z7 0 (QB H0)))
def An:Z4:=ZM 126 27 (bb Tryz.f126 [1,1,0,1,0,0,1,1,0,0,1,1,1]) (Z7 1 (Zil H0)) [(4,x4),(7,x7),(9,x9),(10,x10),(11,x11)] H
def Ak:Z4:=ZM 126 27 (bb Tryz.f126 [1,1,0,1,0,0,1,1]) (Zc (VX 126 27 Tryz.f126 [1,1,0,1,0,0]) (Z7 0 (QB H0))) [(4,x4),(9,x9),(10,x10),(11,x11),(12,x12)] H
def GA:Z4:=PY 126 27 (bb Tryz.f126 [1,1,0,1,0,0]) (Z7 0 (QB H0)) [(4,x4),(9,x9),(10,x10),(11,x11)] H
def IM:Z4:=
 Z0 (some ((.ptr H.length 0),H++[.bld 201 5 []])) fun h=>
 Z0 (Zk (.slice 9) p0) fun g=>
 GA h.1 p0 g (J zA 0) H h.2
theorem Ze5:Aj x4 H0 H =
 Z0 (stringE.run [x4] H) fun g=>
 some ((.tuple [g.1,(J zA 0)]),g.2):=Z9 [4,8,9,10]
theorem Ze6:Al x4 x9 x10 x11 H0 H =
 Z0 (Z5 .add x11 (J zA 1)) fun g=>
 GA x4 x9 x10 g H0 H:=Z9 [4,8,9,10]
theorem Ze7:An x4 x7 x9 x10 x11 H0 H =
 Z0 (textE.run [x4,x7] H) fun g=>
 Al x4 x9 x10 x11 H0 g.2:=Z9 [4,8,9,10]
theorem Mg:Ak x4 x9 x10 x11 x12 H0 H =
 Z0 (Zo 1 x9 x11) fun j=>
 Z0 (Z3 false 1 j H) fun u=>
 Z0 (Zh PS [u] H) fun g=>
 Z0 (ZL g.1 0) fun w=>
 Z0 (ZL g.1 1) fun h=>
 Z0 (Z5 .neq h (J zA 0)) fun y=>
 Zj y
 (some ((.tuple [(.str []),h]),g.2))
 (An x4 w x9 x10 x11 H0 g.2):=Z9 [4,8,9,10]
theorem Mh:GA x4 x9 x10 x11 H0 H =
 Z0 (Z5 .lss x11 x10) fun g=>
 Zj g
 (Ak x4 x9 x10 x11 g H0 H)
 (Aj x4 H0 H):=(ZC (C:=cfg) [4,8,9,10] (Zn 0 (ZaF H0)) _ _).trans (by kernel_rfl)
theorem Zf3:PR [p0] H=IM p0 H:=Be 27 [4,8,9,10] Tryz.func126
def Do:Z4:=ba 127 29 Tryz.f127 [1,1,1] H0 [(3,x3)] H
def V4:KL:=Zc (Mz 127 29 Tryz.f127 [1,1,1]) (Zf cfg 29 127 Tryz.f127 H0)
theorem Nv:ZS 29 (V4 H0):=Zw (C:=cfg) (kp:=cfg.keep 127) (bb Tryz.f127 [1,1,1]) (Zy 127 Tryz.f127 H0)
def Qg:Z4:=ZM 127 29 (bb Tryz.f127 [1,1,0,1,0,0,1,1,1]) (Zc (VX 127 29 Tryz.f127 [1,1,0,1,0,0]) (Z7 0 (V4 H0))) [(0,x0),(3,x3),(10,x10),(11,x11),(12,x12)] H
def Dp:Z4:=ZM 127 29 (bb Tryz.f127 [1,1,0,1,0,0,1,1]) (Zc (VX 127 29 Tryz.f127 [1,1,0,1,0,0]) (Z7 0 (V4 H0))) [(0,x0),(3,x3),(10,x10),(11,x11),(12,x12),(13,x13)] H
def V5:Z4:=PY 127 29 (bb Tryz.f127 [1,1,0,1,0,0]) (Z7 0 (V4 H0)) [(0,x0),(3,x3),(10,x10),(11,x11),(12,x12)] H
def DY:Z4:=
 Z0 (Zu p0) fun j=>
 Z0 (Z6 0 j) fun u=>
 Z0 (Z3 false 1 u H) fun t9=>
 Z0 (JQ Xn [t9] H) fun g=>
 Z0 (Zk (.slice 108) g.1) fun h=>
 V5 p0 (J zA 0) g.1 h (J zA 0) H g.2
theorem Lb:Do x3 H0 H =
 some (x3,H):=Z9 [4,7,8]
theorem G0:Qg x0 x3 x10 x11 x12 H0 H =
 Z0 (Z5 .add x12 (J zA 1)) fun g=>
 V5 x0 x3 x10 x11 g H0 H:=Z9 [4,7,8]
theorem Lc:Dp x0 x3 x10 x11 x12 x13 H0 H =
 Z0 (Zo 3 x10 x12) fun u=>
 Z0 (Z3 true 3 u H) fun w=>
 Z0 (some ((.ptr H.length 0),H++[.cells [(.str []),(J zA 0),(J zA 0)]])) fun j=>
 Z0 (Za 3 j.1 w j.2) fun g=>
 Z0 (Zu x0) fun y=>
 Z0 (Z6 2 y) fun z=>
 Z0 (Z3 false 1 z g.2) fun A=>
 Z0 (Z6 0 j.1) fun B=>
 Z0 (Z3 false 1 B g.2) fun C=>
 Z0 (Zh YQ [A,C] g.2) fun h=>
 Zj h.1
 (Z0 (Z6 1 j.1) fun D=>
 Z0 (Z3 false 1 D h.2) fun E=>
 Z0 (Z5 .add x3 E) fun F=>
 Qg x0 F x10 x11 x12 H0 h.2)
 (Qg x0 x3 x10 x11 x12 H0 h.2):=Z9 [4,7,8]
theorem G1:V5 x0 x3 x10 x11 x12 H0 H =
 Z0 (Z5 .lss x12 x11) fun g=>
 Zj g
 (Dp x0 x3 x10 x11 x12 g H0 H)
 (Do x3 H0 H):=(ZC (C:=cfg) [4,7,8] (Zn 0 (Nv H0)) _ _).trans (by kernel_rfl)
theorem LX:XV [p0] H=DY p0 H:=Be 29 [4,7,8] Tryz.func127
def U9:Z4:=
 Z0 (Zh Wt [p0,p1] H) fun g=>
 Z0 (Z5 .geq g.1 (J zA 0)) fun h=>
 some (h,g.2)
theorem GL:YQ [p0,p1] H=U9 p0 p1 H:=Be 9 [] Tryz.func163
def Ao:Z4:=ba 164 23 Tryz.f164 [1,1] H0 [(0,x0)] H
def IN:Z4:=
 Z0 (Zk .string p0) fun g=>
 Z0 (Z5 .gtr g (J zA 4096)) fun h=>
 Zj h
 (some ((.tuple [(.str []),(J zA 3)]),H))
 (Ao p0 H H)
theorem Ze8:Ao x0 H0 H =
 Z0 (Zk .string x0) fun t9=>
 Z0 (Z5 .shr t9 (.int .u64 8)) fun j=>
 Z0 (Yq .u8 j) fun u=>
 Z0 (Zk .string x0) fun w=>
 Z0 (Yq .u8 w) fun y=>
 Z0 ((ZB 1 [(0,u),(1,y)] [(.int .u8 0),(.int .u8 0)]).map (.vs 1 .clip)) fun z=>
 Z0 (Qb z H) fun A=>
 Z0 (YR .add A x0) fun h=>
 Z0 (Zh NA [h] H) fun g=>
 Z0 (YR .add h g.1) fun B=>
 some ((.tuple [B,(J zA 0)]),g.2):=Z9 [3]
theorem Zf4:PS [p0] H=IN p0 H:=Be 23 [3] Tryz.func164
def Fy:Z4:=ba 166 49 Tryz.f166 [1,1,1,1,1,1,1] H0 [(2,x2),(12,x12),(13,x13)] H
def Fx:Z4:=ba 166 49 Tryz.f166 [1,1,1,1,1] H0 [(2,x2),(10,x10)] H
def Fw:Z4:=ba 166 49 Tryz.f166 [1,1,1,1] H0 [(2,x2),(10,x10)] H
def Fu:Z4:=ba 166 49 Tryz.f166 [1,1] H0 [(0,x0),(1,x1),(2,x2)] H
def Jv:Z4:=
 Z0 (Xj [p0,p1] H) fun g=>
 Z0 (Z5 .neq g.1 (J zA 0)) fun h=>
 Zj h
 (some ((.tuple [(.str []),(J zA 0),g.1]),g.2))
 (Fu p0 p1 p2 H g.2)
theorem EF:Fy x2 x12 x13 H0 H =
 Z0 (Z5 .add x2 x13) fun g=>
 some ((.tuple [x12,g,(J zA 0)]),H):=Z9 [4,7,9,12]
theorem ED:Fx x2 x10 H0 H =
 Z0 (Zh ER [x10,(J zA 0)] H) fun g=>
 Z0 (ZL g.1 0) fun j=>
 Z0 (ZL g.1 1) fun u=>
 Z0 (ZL g.1 2) fun h=>
 Z0 (Z5 .neq h (J zA 0)) fun w=>
 Zj w
 (some ((.tuple [(.str []),(J zA 0),h]),g.2))
 (Fy x2 j u H0 g.2):=Z9 [4,7,9,12]
theorem GJ:Fw x2 x10 H0 H =
 Z0 (YR .eql x10 (.str [])) fun g=>
 Zj g
 (some ((.tuple [(.str []),(J zA 0),(J zA 5)]),H))
 (Fx x2 x10 H0 H):=Z9 [4,7,9,12]
theorem Ur:Fu x0 x1 x2 H0 H =
 Z0 (Zu x0) fun j=>
 Z0 (Z6 0 j) fun u=>
 Z0 (Z6 0 u) fun w=>
 Z0 (Z3 false 1 w H) fun y=>
 Z0 (Vx [y,x1,x2,(J zA 4102)] H) fun g=>
 Z0 (ZL g.1 0) fun z=>
 Z0 (ZL g.1 1) fun h=>
 Z0 (Z5 .neq h (J zA 0)) fun A=>
 Zj A
 (some ((.tuple [(.str []),(J zA 0),h]),g.2))
 (Fw x2 z H0 g.2):=Z9 [4,7,9,12]
theorem GT:VL [p0,p1,p2] H=Jv p0 p1 p2 H:=Be 49 [4,7,9,12] Tryz.func166
def UM:Z4:=ba 194 19 Tryz.f194 [1,1] H0 [] H
def X4:KL:=Zc (Mz 194 19 Tryz.f194 [1,1]) (Zf cfg 19 194 Tryz.f194 H0)
theorem GM:ZS 19 (X4 H0):=Zw (C:=cfg) (kp:=cfg.keep 194) (bb Tryz.f194 [1,1]) (Zy 194 Tryz.f194 H0)
def UO:Z4:=ZM 194 19 (bb Tryz.f194 [1,0,1,0,0,1,1,1]) (Zc (VX 194 19 Tryz.f194 [1,0,1,0,0]) (Z7 0 (X4 H0))) [(0,x0),(1,x1),(7,x7),(8,x8)] H
def UN:Z4:=ZM 194 19 (bb Tryz.f194 [1,0,1,0,0,1,1]) (Zc (VX 194 19 Tryz.f194 [1,0,1,0,0]) (Z7 0 (X4 H0))) [(0,x0),(1,x1),(7,x7),(8,x8),(9,x9)] H
def X5:Z4:=PY 194 19 (bb Tryz.f194 [1,0,1,0,0]) (Z7 0 (X4 H0)) [(0,x0),(1,x1),(7,x7),(8,x8)] H
def Q9:Z4:=
 Z0 (Zk (.slice 9) p0) fun g=>
 X5 p0 p1 g (J zA 0) H H
theorem BE:UM H0 H =
 some ((J zA (-1)),H):=Z9 [3,6,7]
theorem BG:UO x0 x1 x7 x8 H0 H =
 Z0 (Z5 .add x8 (J zA 1)) fun g=>
 X5 x0 x1 x7 g H0 H:=Z9 [3,6,7]
theorem BF:UN x0 x1 x7 x8 x9 H0 H =
 Z0 (Zo 1 x0 x8) fun g=>
 Z0 (Z3 false 1 g H) fun h=>
 Z0 (YR .eql x1 h) fun j=>
 Zj j
 (some (x8,H))
 (UO x0 x1 x7 x8 H0 H):=Z9 [3,6,7]
theorem VS:X5 x0 x1 x7 x8 H0 H =
 Z0 (Z5 .lss x8 x7) fun t9=>
 Zj t9
 (UN x0 x1 x7 x8 t9 H0 H)
 (UM H0 H):=(ZC (C:=cfg) [3,6,7] (Zn 0 (GM H0)) _ _).trans (by kernel_rfl)
theorem Dw:Wt [p0,p1] H=Q9 p0 p1 H:=Be 19 [3,6,7] Tryz.func194
def ZfJ:Z4:=
 Z0 (Zh AR [p0] H) fun g=>
 Z0 (Yq .u8 g.1) fun B=>
 Z0 (Z5 .shr g.1 (.int .u64 8)) fun t9=>
 Z0 (Yq .u8 t9) fun h=>
 Z0 (Z5 .shr g.1 (.int .u64 16)) fun j=>
 Z0 (Yq .u8 j) fun u=>
 Z0 (Z5 .shr g.1 (.int .u64 24)) fun w=>
 Z0 (Yq .u8 w) fun y=>
 Z0 ((ZB 1 [(0,B),(1,h),(2,u),(3,y)] [(.int .u8 0),(.int .u8 0),(.int .u8 0),(.int .u8 0)]).map (.vs 1 .clip)) fun z=>
 Z0 (Qb z g.2) fun A=>
 some (A,g.2)
theorem Zje:NA [p0] H=ZfJ p0 H:=Be 19 [] Tryz.func195
def ZbO:Z4:=ba 196 58 Tryz.f196 [1,1,1,1,1,1,1,1] H0 [(1,x1),(7,x7),(8,x8)] H
def ZbN:Z4:=ba 196 58 Tryz.f196 [1,1,1,1,1,1,1] H0 [(1,x1),(7,x7),(8,x8)] H
def ZbM:Z4:=ba 196 58 Tryz.f196 [1,1,1,1,1,1] H0 [(1,x1),(7,x7),(8,x8)] H
def ZbL:Z4:=ba 196 58 Tryz.f196 [1,1,1,1] H0 [(1,x1),(7,x7)] H
def ZbK:Z4:=ba 196 58 Tryz.f196 [1,1] H0 [(0,x0),(1,x1)] H
def ZcS:Z4:=
 Z0 (Z5 .lss p1 (J zA 0)) fun g=>
 Z0 (Z8 g false ap (some p1)) fun h=>
 Z0 (Z8 g false ap (some p0)) fun j=>
 Z0 (Z8 g false ap (Zk .string j)) fun u=>
 Z0 (Z8 g false ap (Z5 .gtr h u)) fun w=>
 Z0 (Zi g (.bool true) w) fun y=>
 Zj y
 (some ((.tuple [(.str []),(J zA 0),(J zA 2)]),H))
 (ZbK p0 p1 H H)
theorem ZgR:ZbO x1 x7 x8 H0 H =
 Z0 (Z5 .add x8 (J zA 2)) fun g=>
 Z0 (Y8 x7 (some (J zA 2)) (some g) none) fun h=>
 Z0 (Z5 .add x1 x8) fun j=>
 Z0 (Z5 .add j (J zA 6)) fun u=>
 some ((.tuple [h,u,(J zA 0)]),H):=Z9 bf
theorem ZgQ:ZbN x1 x7 x8 H0 H =
 Z0 (Z5 .add x8 (J zA 2)) fun h=>
 Z0 (Z5 .add x8 (J zA 6)) fun j=>
 Z0 (Y8 x7 (some h) (some j) none) fun u=>
 Z0 (Z5 .add x8 (J zA 2)) fun w=>
 Z0 (Y8 x7 none (some w) none) fun y=>
 Z0 (Zh NA [y] H) fun g=>
 Z0 (YR .neq u g.1) fun z=>
 Zj z
 (some ((.tuple [(.str []),(J zA 0),(J zA 13)]),g.2))
 (ZbO x1 x7 x8 H0 g.2):=Z9 bf
theorem ZgP:ZbM x1 x7 x8 H0 H =
 Z0 (Zk .string x7) fun g=>
 Z0 (Z5 .add x8 (J zA 6)) fun h=>
 Z0 (Z5 .lss g h) fun t37=>
 Zj t37
 (some ((.tuple [(.str []),(J zA 0),(J zA 14)]),H))
 (ZbN x1 x7 x8 H0 H):=Z9 bf
theorem ZgO:ZbL x1 x7 H0 H =
 Z0 (Zx x7 (J zA 0)) fun h=>
 Z0 (Yq .i64 h) fun j=>
 Z0 (Z5 .shl j (.int .u64 8)) fun u=>
 Z0 (Zx x7 (J zA 1)) fun w=>
 Z0 (Yq .i64 w) fun y=>
 Z0 (Z5 .or u y) fun g=>
 Z0 (Z5 .gtr g (J zA 4096)) fun z=>
 Zj z
 (some ((.tuple [(.str []),(J zA 0),(J zA 13)]),H))
 (ZbM x1 x7 g H0 H):=Z9 bf
theorem ZgN:ZbK x0 x1 H0 H =
 Z0 (Y8 x0 (some x1) none none) fun g=>
 Z0 (Zk .string g) fun h=>
 Z0 (Z5 .lss h (J zA 2)) fun j=>
 Zj j
 (some ((.tuple [(.str []),(J zA 0),(J zA 14)]),H))
 (ZbL x1 g H0 H):=Z9 bf
theorem Zhk:ER [p0,p1] H=ZcS p0 p1 H:=Be 58 [3,6,9,11,13] Tryz.func196
def Ze2:Z4:=ba 209 33 Tryz.f209 [1,1,1] H0 [(3,x3)] H
def TB:KL:=Zc (Mz 209 33 Tryz.f209 [1,1,1]) (Zf cfg 33 209 Tryz.f209 H0)
theorem Zfn:ZS 33 (TB H0):=Zw (C:=cfg) (kp:=cfg.keep 209) (bb Tryz.f209 [1,1,1]) (Zy 209 Tryz.f209 H0)
def Ze4:Z4:=ZM 209 33 (bb Tryz.f209 [1,1,0,1,0,0,1,1,1]) (Zc (VX 209 33 Tryz.f209 [1,1,0,1,0,0]) (Z7 0 (TB H0))) [(0,x0),(3,x3),(6,x6),(7,x7)] H
def Ze3:Z4:=ZM 209 33 (bb Tryz.f209 [1,1,0,1,0,0,1,1]) (Zc (VX 209 33 Tryz.f209 [1,1,0,1,0,0]) (Z7 0 (TB H0))) [(0,x0),(3,x3),(6,x6),(7,x7),(8,x8)] H
def TC:Z4:=PY 209 33 (bb Tryz.f209 [1,1,0,1,0,0]) (Z7 0 (TB H0)) [(0,x0),(3,x3),(6,x6),(7,x7)] H
def ZfI:Z4:=
 Z0 (Zk .string p0) fun g=>
 TC p0 (.int .u32 4294967295) g (J zA 0) H H
theorem Zii:Ze2 x3 H0 H =
 Z0 (XL .xor x3) fun g=>
 some (g,H):=Z9 [4,8,9]
theorem Zik:Ze4 x0 x3 x6 x7 H0 H =
 Z0 (Z5 .add x7 (J zA 1)) fun g=>
 TC x0 x3 x6 g H0 H:=Z9 [4,8,9]
theorem Zij:Ze3 x0 x3 x6 x7 x8 H0 H =
 Z0 (Zx x0 x7) fun j=>
 Z0 (Yq .u32 j) fun u=>
 Z0 (Z5 .xor x3 u) fun g=>
 Z0 (Z5 .and g (.int .u32 15)) fun w=>
 Z0 (WO 16 1 Zq7 w) fun y=>
 Z0 (Z3 false 1 y H) fun z=>
 Z0 (Z5 .shr g (.int .u64 4)) fun A=>
 Z0 (Z5 .xor z A) fun h=>
 Z0 (Z5 .and h (.int .u32 15)) fun B=>
 Z0 (WO 16 1 Zq7 B) fun C=>
 Z0 (Z3 false 1 C H) fun D=>
 Z0 (Z5 .shr h (.int .u64 4)) fun E=>
 Z0 (Z5 .xor D E) fun F=>
 Ze4 x0 F x6 x7 H0 H:=Z9 [4,8,9]
theorem Ai:TC x0 x3 x6 x7 H0 H =
 Z0 (Z5 .lss x7 x6) fun g=>
 Zj g
 (Ze3 x0 x3 x6 x7 g H0 H)
 (Ze2 x3 H0 H):=(ZC (C:=cfg) [4,8,9] (Zn 0 (Zfn H0)) _ _).trans (by kernel_rfl)
theorem Zjd:AR [p0] H=ZfI p0 H:=Be 33 [4,8,9] Tryz.func209
end
end Go.Am
