/- The functions of the translation over the abstract machine -/
import Derived.Test.YtnaneekpogohaaaGreatDoorXeGx
open Go.Am.AV renaming int->J
open Go.IntKind renaming i64->zA
namespace Go.Am
open Go.Proofs
set_option maxRecDepth 100000
noncomputable abbrev AN (f n:Nat):=Yn cfg (Zb cfg) (Y5 cfg (cfg.keep f) n) (cfg.keep f) n Zc Z7
noncomputable abbrev Zum (f n:Nat):=Y5 cfg (cfg.keep f) n
noncomputable section
abbrev Zyi (f n:Nat)(F:Func)(p:List Nat):KL->AL->Hp->Z4:=fun k g H=>AN f n (sub (Z1 F) p) k (Y3 (cfg.keep f) (sub (Z1 F) p) g) H
abbrev Zup (f n:Nat)(F:Func)(p:List Nat):KL->AL->Hp->Z4:=fun k g H=>Zum f n (sub (Z1 F) p) k (Y3 (cfg.keep f) (sub (Z1 F) p) g) H
variable (p0 p1 p2 p3 x0 x1 x2 x3 x4 x5 x6 x7 x8 x9 x10 x11:AV)(H0 H:Hp)
noncomputable abbrev b9 (f n:Nat)(F:Func)(p:List Nat)(G:Hp):=fun k K=>AN f n (sub (Z1 F) p) (Zf cfg n f F G) k K
def TL:Z4:=b9 25 22 Tryz.f25 [1,1,1,1] H0 [(7,x7)] H
def Az:Z4:=b9 25 22 Tryz.f25 [1,1] H0 [(2,x2),(3,x3),(4,x4)] H
def IT:Z4:=
 Z0 (ZQ p0 H) fun w=>
 Z0 (ZQ p1 w.2) fun h=>
 Z0 (Z3 true 5 h.1 h.2) fun y=>
 Z0 (Zh Wv [y] h.2) fun j=>
 Z0 (Z5 .neq j.1 (J zA 0)) fun u=>
 Zj u
 (Z0 (Zh Ym [p2] j.2) fun g=>
 some (g.1,g.2))
 (Az p2 w.1 h.1 H j.2)
theorem Mn:TL x7 H0 H =
 some (x7,H):=Z9 [3,6]
theorem Zeq:Az x2 x3 x4 H0 H =
 Qd x3 H fun z3 z=>
 Qd x4 z fun z4 A=>
 Z0 (some (.fn (.func 55) [] [z3,z4])) fun j=>
 Z0 (Zh YO [x2,j] A) fun g=>
 Z0 (Z6 3 z4) fun u=>
 Z0 (Z3 false 1 u g.2) fun w=>
 Zj w
 (Z0 (some (.fn (.func 58) [] [z3,z4])) fun y=>
 Z0 (Zh UG [g.1,y] g.2) fun h=>
 TL h.1 H0 h.2)
 (TL g.1 H0 g.2):=Z9 [3,6]
theorem Zf7:UA [p0,p1,p2] H=IT p0 p1 p2 H:=Be 22 [3,6] Tryz.func25
def UL:Z4:=b9 53 8 Tryz.f53 [1,1] H0 [(0,x0)] H
def Q8:Z4:=
 Z0 (Yr (.slice 9) .eql p0 .nils) fun t4=>
 Zj t4
 (some (.nils,H))
 (UL p0 H H)
theorem BD:UL x0 H0 H =
 Z0 ((ZB 1 [] []).map (.vs 1 .clip)) fun t5=>
 Z0 (Y9 1 16 t5 x0 H) fun g=>
 some (g.1,g.2):=Z9 [3]
theorem Dv:Ym [p0] H=Q8 p0 H:=Be 8 [3] Tryz.func53
def QG:Z4:=b9 54 67 Tryz.f54 [1,1,1,1,1,1] H0 [(6,x6),(7,x7),(8,x8)] H
def WF:KL:=Zc (Zyi 54 67 Tryz.f54 [1,1,1,1,1,1]) (Zf cfg 67 54 Tryz.f54 H0)
theorem Bt:ZS 67 (WF H0):=Zw (C:=cfg) (kp:=cfg.keep 54) (sub (Z1 Tryz.f54) [1,1,1,1,1,1]) (Zy 54 Tryz.f54 H0)
def QH:Z4:=AN 54 67 (sub (Z1 Tryz.f54) [1,1,1,1,1,0,0,0,1]) (Zc (Zup 54 67 Tryz.f54 [1,1,1,1,1,0,0,0]) (Z7 0 (WF H0))) [(1,x1),(6,x6),(7,x7),(8,x8)] H
def YH:Z4:=Zum 54 67 (sub (Z1 Tryz.f54) [1,1,1,1,1,0,0,0]) (Z7 0 (WF H0)) [(1,x1),(6,x6),(7,x7),(8,x8)] H
def QF:Z4:=b9 54 67 Tryz.f54 [1,1] H0 [(0,x0),(1,x1)] H
def Xm:Z4:=
 Z0 (Zk (.slice 9) p0) fun h=>
 Z0 (Z5 .lss h (J zA 2)) fun j=>
 Zj j
 (Z0 (Zh Ym [p0] H) fun g=>
 some (g.1,g.2))
 (QF p0 p1 H H)
theorem Uw:QG x6 x7 x8 H0 H =
 Z0 (Y9 1 16 x8 x6 H) fun g=>
 Z0 (Y9 1 16 g.1 x7 g.2) fun h=>
 some (h.1,h.2):=Z9 [3,7,12]
theorem Ux:QH x1 x6 x7 x8 H0 H =
 Z0 (Zo 1 x6 (J zA 0)) fun u=>
 Z0 (Z3 false 1 u H) fun w=>
 Z0 (Zo 1 x7 (J zA 0)) fun y=>
 Z0 (Z3 false 1 y H) fun z=>
 Z0 (Yf cfg (Zb cfg) x1 [w,z] H) fun g=>
 Zj g.1
 (Z0 (Zo 1 x7 (J zA 0)) fun A=>
 Z0 (Z3 false 1 A g.2) fun B=>
 Z0 ((ZB 1 [(0,B)] [(.str [])]).map (.vs 1 .clip)) fun C=>
 Z0 (Y9 1 16 x8 C g.2) fun h=>
 Z0 (Yg 1 x7 (some (J zA 1)) none none) fun D=>
 YH x1 x6 D h.1 H0 h.2)
 (Z0 (Zo 1 x6 (J zA 0)) fun E=>
 Z0 (Z3 false 1 E g.2) fun F=>
 Z0 ((ZB 1 [(0,F)] [(.str [])]).map (.vs 1 .clip)) fun I=>
 Z0 (Y9 1 16 x8 I g.2) fun j=>
 Z0 (Yg 1 x6 (some (J zA 1)) none none) fun K=>
 YH x1 K x7 j.1 H0 j.2):=Z9 [3,7,12]
theorem YV:YH x1 x6 x7 x8 H0 H =
 Z0 (Zk (.slice 9) x6) fun h=>
 Z0 (Z5 .gtr h (J zA 0)) fun g=>
 Z0 (Z8 g true ap (some x7)) fun j=>
 Z0 (Z8 g true ap (Zk (.slice 9) j)) fun u=>
 Z0 (Z8 g true ap (Z5 .gtr u (J zA 0))) fun w=>
 Z0 (Zi g w (.bool false)) fun t37=>
 Zj t37
 (QH x1 x6 x7 x8 H0 H)
 (QG x6 x7 x8 H0 H):=(ZC (C:=cfg) [3,7,12] (Zn 0 (Bt H0)) _ _).trans (by kernel_rfl)
theorem Fm:QF x0 x1 H0 H =
 Z0 (Zk (.slice 9) x0) fun w=>
 Z0 (Z5 .quo w (J zA 2)) fun u=>
 Z0 (Yg 1 x0 none (some u) none) fun y=>
 Z0 (Zh YO [y,x1] H) fun g=>
 Z0 (Yg 1 x0 (some u) none none) fun z=>
 Z0 (Zh YO [z,x1] g.2) fun h=>
 Z0 (Zk (.slice 9) x0) fun A=>
 Z0 (K2 1 16 false (.str []) (J zA 0) A h.2) fun j=>
 YH x1 g.1 h.1 j.1 H0 j.2:=Z9 [3,7,12]
theorem Wc:YO [p0,p1] H=Xm p0 p1 H:=Be 67 [3,7,12] Tryz.func54
def Sb:Z4:=
 Z0 (Z3 true 6 p2 H) fun j=>
 Z0 (Z3 true 5 p3 H) fun u=>
 Z0 (Zh Qp [j,u,p0,p1] H) fun g=>
 Z0 (Z5 .gtr g.1 (J zA 0)) fun h=>
 some (h,g.2)
theorem Zc4:ES [p0,p1,p2,p3] H=Sb p0 p1 p2 p3 H:=Be 13 [] Tryz.func55
def GE:Z4:=b9 57 35 Tryz.f57 [1,1,1] H0 [(5,x5)] H
def Wr:KL:=Zc (Zyi 57 35 Tryz.f57 [1,1,1]) (Zf cfg 35 57 Tryz.f57 H0)
theorem TM:ZS 35 (Wr H0):=Zw (C:=cfg) (kp:=cfg.keep 57) (sub (Z1 Tryz.f57) [1,1,1]) (Zy 57 Tryz.f57 H0)
def Wq:Z4:=AN 57 35 (sub (Z1 Tryz.f57) [1,1,0,1,0,0,1,1,1]) (Zc (Zup 57 35 Tryz.f57 [1,1,0,1,0,0]) (Z7 0 (Wr H0))) [(1,x1),(5,x5),(8,x8),(9,x9),(10,x10)] H
def Uk:Z4:=AN 57 35 (sub (Z1 Tryz.f57) [1,1,0,1,0,0,1,1]) (Zc (Zup 57 35 Tryz.f57 [1,1,0,1,0,0]) (Z7 0 (Wr H0))) [(1,x1),(5,x5),(8,x8),(9,x9),(10,x10),(11,x11)] H
def Ws:Z4:=Zum 57 35 (sub (Z1 Tryz.f57) [1,1,0,1,0,0]) (Z7 0 (Wr H0)) [(1,x1),(5,x5),(8,x8),(9,x9),(10,x10)] H
def GS:Z4:=
 Z0 (Zk (.slice 9) p0) fun t9=>
 Ws p1 .nils p0 t9 (J zA 0) H H
theorem Nl:GE x5 H0 H =
 some (x5,H):=Z9 [4,7,8]
theorem No:Wq x1 x5 x8 x9 x10 H0 H =
 Z0 (Z5 .add x10 (J zA 1)) fun g=>
 Ws x1 x5 x8 x9 g H0 H:=Z9 [4,7,8]
theorem Nn:Uk x1 x5 x8 x9 x10 x11 H0 H =
 Z0 (Zo 1 x8 x10) fun w=>
 Z0 (Z3 false 1 w H) fun u=>
 Z0 (Zk (.slice 9) x5) fun y=>
 Z0 (Z5 .eql y (J zA 0)) fun g=>
 Z0 (Z8 g false ap (some x1)) fun z=>
 Z0 (Z8 g false ap (some x5)) fun A=>
 Z0 (Z8 g false ap (some x5)) fun B=>
 Z0 (Z8 g false ap (Zk (.slice 9) B)) fun C=>
 Z0 (Z8 g false ap (Z5 .sub C (J zA 1))) fun D=>
 Z0 (Z8 g false ap (Zo 1 A D)) fun E=>
 Z0 (Z8 g false ap (Z3 false 1 E H)) fun F=>
 Z0 (Z8 g false ap (some u)) fun I=>
 Z0 (Z8 g false (ap,H) (Yf cfg (Zb cfg) z [F,I] H)) fun h=>
 Z0 (Z8 g false ap (XL .not h.1)) fun K=>
 Z0 (Zi g (.bool true) K) fun L=>
 Zj L
 (Z0 ((ZB 1 [(0,u)] [(.str [])]).map (.vs 1 .clip)) fun M=>
 Z0 (Y9 1 16 x5 M h.2) fun j=>
 Wq x1 j.1 x8 x9 x10 H0 j.2)
 (Wq x1 x5 x8 x9 x10 H0 h.2):=Z9 [4,7,8]
theorem JE:Ws x1 x5 x8 x9 x10 H0 H =
 Z0 (Z5 .lss x10 x9) fun g=>
 Zj g
 (Uk x1 x5 x8 x9 x10 g H0 H)
 (GE x5 H0 H):=(ZC (C:=cfg) [4,7,8] (Zn 0 (TM H0)) _ _).trans (by kernel_rfl)
theorem NO:UG [p0,p1] H=GS p0 p1 H:=Be 35 [4,7,8] Tryz.func57
def Sd:Z4:=
 Z0 (Z3 true 6 p2 H) fun j=>
 Z0 (Z3 true 5 p3 H) fun u=>
 Z0 (Zh WN [j,u,p0,p1] H) fun g=>
 Z0 (Z5 .eql g.1 (J zA 0)) fun h=>
 some (h,g.2)
theorem Zc5:ET [p0,p1,p2,p3] H=Sd p0 p1 p2 p3 H:=Be 13 [] Tryz.func58
end
end Go.Am
