/- The functions of the translation over the abstract machine -/
import Derived.Test.YtnaneekpogohaaaGreatDoorXeGx
namespace Go.Am
open Go.Proofs
set_option maxRecDepth 100000
noncomputable abbrev He (f n:Nat):=Yc cfg (Z9 cfg) (Y7 cfg (cfg.keep f) n) (cfg.keep f) n Zc Z7
noncomputable abbrev ZuI (f n:Nat):=Y7 cfg (cfg.keep f) n
noncomputable section
abbrev Zzo (f n:Nat)(F:Func)(p:List Nat):KL->AL->Hp->Z4:=fun k g H=>He f n (sub (Z1 F) p) k (ZW (cfg.keep f) (sub (Z1 F) p) g) H
abbrev ZuL (f n:Nat)(F:Func)(p:List Nat):KL->AL->Hp->Z4:=fun k g H=>ZuI f n (sub (Z1 F) p) k (ZW (cfg.keep f) (sub (Z1 F) p) g) H
variable (p0 p1 p2 p3 x0 x1 x2 x3 x4 x5 x6 x7 x8 x9 x10 x11:AV)(H0 H:Hp)
def RF:Z4:=He 25 22 (sub (Z1 Tryz.f25) [1,1,1,1]) (Zh cfg 22 25 Tryz.f25 H0) [(7,x7)] H
def CQ:Z4:=He 25 22 (sub (Z1 Tryz.f25) [1,1]) (Zh cfg 22 25 Tryz.f25 H0) [(2,x2),(3,x3),(4,x4)] H
def Aw:Z4:=
 Z0 (ZN p0 H) fun y=>
 Z0 (ZN p1 y.2) fun j=>
 Z0 (Z3 true 5 j.1 j.2) fun z=>
 Z0 (Zf Wb [z] j.2) fun u=>
 Z0 (Z5 .neq u.1 (.int .i64 0)) fun w=>
 Zk w
 (Z0 (Zf Yj [p2] u.2) fun g=>
 some (g.1,g.2))
 (CQ p2 y.1 j.1 H u.2)
theorem N6:RF x7 H0 H =
 some (x7,H):=Za [3,6]
theorem Zdb:CQ x2 x3 x4 H0 H =
 WS x3 H fun z3 A=>
 WS x4 A fun z4 B=>
 Z0 (some (.fn (.func 55) [] [z3,z4])) fun u=>
 Z0 (Zf YL [x2,u] B) fun g=>
 Z0 (Z6 3 z4) fun w=>
 Z0 (Z3 false 1 w g.2) fun y=>
 Zk y
 (Z0 (some (.fn (.func 58) [] [z3,z4])) fun z=>
 Z0 (Zf U1 [g.1,z] g.2) fun j=>
 RF j.1 H0 j.2)
 (RF g.1 H0 g.2):=Za [3,6]
theorem ZdU:G5 [p0,p1,p2] H=Aw p0 p1 p2 H:=Be 22 [3,6] Tryz.func25
def U6:Z4:=He 53 8 (sub (Z1 Tryz.f53) [1,1]) (Zh cfg 8 53 Tryz.f53 H0) [(0,x0)] H
def Us:Z4:=
 Z0 (Yy (.slice 9) .eql p0 .nils) fun t4=>
 Zk t4
 (some (.nils,H))
 (U6 p0 H H)
theorem Gw:U6 x0 H0 H =
 Z0 ((ZE 1 [] []).map (.vs 1 .clip)) fun t5=>
 Z0 (Ym 1 16 t5 x0 H) fun g=>
 some (g.1,g.2):=Za [3]
theorem Bq:Yj [p0] H=Us p0 H:=Be 8 [3] Tryz.func53
def UW:Z4:=He 54 67 (sub (Z1 Tryz.f54) [1,1,1,1,1,1]) (Zh cfg 67 54 Tryz.f54 H0) [(6,x6),(7,x7),(8,x8)] H
def Wn:KL:=Zc (Zzo 54 67 Tryz.f54 [1,1,1,1,1,1]) (Zh cfg 67 54 Tryz.f54 H0)
theorem Gj:ZX 67 (Wn H0):=Zx (C:=cfg) (kp:=cfg.keep 54) (sub (Z1 Tryz.f54) [1,1,1,1,1,1]) (ZA 54 Tryz.f54 H0)
def UX:Z4:=He 54 67 (sub (Z1 Tryz.f54) [1,1,1,1,1,0,0,0,1]) (Zc (ZuL 54 67 Tryz.f54 [1,1,1,1,1,0,0,0]) (Z7 0 (Wn H0))) [(1,x1),(6,x6),(7,x7),(8,x8)] H
def YH:Z4:=ZuI 54 67 (sub (Z1 Tryz.f54) [1,1,1,1,1,0,0,0]) (Z7 0 (Wn H0)) [(1,x1),(6,x6),(7,x7),(8,x8)] H
def UV:Z4:=He 54 67 (sub (Z1 Tryz.f54) [1,1]) (Zh cfg 67 54 Tryz.f54 H0) [(0,x0),(1,x1)] H
def Xi:Z4:=
 Z0 (Zl (.slice 9) p0) fun j=>
 Z0 (Z5 .lss j (.int .i64 2)) fun u=>
 Zk u
 (Z0 (Zf Yj [p0] H) fun g=>
 some (g.1,g.2))
 (UV p0 p1 H H)
theorem VQ:UW x6 x7 x8 H0 H =
 Z0 (Ym 1 16 x8 x6 H) fun g=>
 Z0 (Ym 1 16 g.1 x7 g.2) fun j=>
 some (j.1,j.2):=Za [3,7,12]
theorem VR:UX x1 x6 x7 x8 H0 H =
 Z0 (Zp 1 x6 (.int .i64 0)) fun w=>
 Z0 (Z3 false 1 w H) fun y=>
 Z0 (Zp 1 x7 (.int .i64 0)) fun z=>
 Z0 (Z3 false 1 z H) fun A=>
 Z0 (Yn cfg (Z9 cfg) x1 [y,A] H) fun g=>
 Zk g.1
 (Z0 (Zp 1 x7 (.int .i64 0)) fun B=>
 Z0 (Z3 false 1 B g.2) fun C=>
 Z0 ((ZE 1 [(0,C)] [(.str [])]).map (.vs 1 .clip)) fun D=>
 Z0 (Ym 1 16 x8 D g.2) fun j=>
 Z0 (Yo 1 x7 (some (.int .i64 1)) none none) fun E=>
 YH x1 x6 E j.1 H0 j.2)
 (Z0 (Zp 1 x6 (.int .i64 0)) fun F=>
 Z0 (Z3 false 1 F g.2) fun I=>
 Z0 ((ZE 1 [(0,I)] [(.str [])]).map (.vs 1 .clip)) fun J=>
 Z0 (Ym 1 16 x8 J g.2) fun u=>
 Z0 (Yo 1 x6 (some (.int .i64 1)) none none) fun K=>
 YH x1 K x7 u.1 H0 u.2):=Za [3,7,12]
theorem YU:YH x1 x6 x7 x8 H0 H =
 Z0 (Zl (.slice 9) x6) fun j=>
 Z0 (Z5 .gtr j (.int .i64 0)) fun g=>
 Z0 (Z8 g true (.tuple []) (some x7)) fun u=>
 Z0 (Z8 g true (.tuple []) (Zl (.slice 9) u)) fun w=>
 Z0 (Z8 g true (.tuple []) (Z5 .gtr w (.int .i64 0))) fun y=>
 Z0 (Zj g y (.bool false)) fun t37=>
 Zk t37
 (UX x1 x6 x7 x8 H0 H)
 (UW x6 x7 x8 H0 H):=(ZD (C:=cfg) [3,7,12] (Zm 0 (Gj H0)) _ _).trans (by kernel_rfl)
theorem Dl:UV x0 x1 H0 H =
 Z0 (Zl (.slice 9) x0) fun y=>
 Z0 (Z5 .quo y (.int .i64 2)) fun w=>
 Z0 (Yo 1 x0 none (some w) none) fun z=>
 Z0 (Zf YL [z,x1] H) fun g=>
 Z0 (Yo 1 x0 (some w) none none) fun A=>
 Z0 (Zf YL [A,x1] g.2) fun j=>
 Z0 (Zl (.slice 9) x0) fun B=>
 Z0 (Rf 1 16 false (.str []) (.int .i64 0) B j.2) fun u=>
 YH x1 g.1 j.1 u.1 H0 u.2:=Za [3,7,12]
theorem XV:YL [p0,p1] H=Xi p0 p1 H:=Be 67 [3,7,12] Tryz.func54
def LA:Z4:=
 Z0 (Z3 true 6 p2 H) fun u=>
 Z0 (Z3 true 5 p3 H) fun w=>
 Z0 (Zf UG [u,w,p0,p1] H) fun g=>
 Z0 (Z5 .gtr g.1 (.int .i64 0)) fun j=>
 some (j,g.2)
theorem ZaA:Lo [p0,p1,p2,p3] H=LA p0 p1 p2 p3 H:=Be 13 [] Tryz.func55
def Kp:Z4:=He 57 35 (sub (Z1 Tryz.f57) [1,1,1]) (Zh cfg 35 57 Tryz.f57 H0) [(5,x5)] H
def W8:KL:=Zc (Zzo 57 35 Tryz.f57 [1,1,1]) (Zh cfg 35 57 Tryz.f57 H0)
theorem RG:ZX 35 (W8 H0):=Zx (C:=cfg) (kp:=cfg.keep 57) (sub (Z1 Tryz.f57) [1,1,1]) (ZA 57 Tryz.f57 H0)
def W7:Z4:=He 57 35 (sub (Z1 Tryz.f57) [1,1,0,1,0,0,1,1,1]) (Zc (ZuL 57 35 Tryz.f57 [1,1,0,1,0,0]) (Z7 0 (W8 H0))) [(1,x1),(5,x5),(8,x8),(9,x9),(10,x10)] H
def VF:Z4:=He 57 35 (sub (Z1 Tryz.f57) [1,1,0,1,0,0,1,1]) (Zc (ZuL 57 35 Tryz.f57 [1,1,0,1,0,0]) (Z7 0 (W8 H0))) [(1,x1),(5,x5),(8,x8),(9,x9),(10,x10),(11,x11)] H
def W9:Z4:=ZuI 57 35 (sub (Z1 Tryz.f57) [1,1,0,1,0,0]) (Z7 0 (W8 H0)) [(1,x1),(5,x5),(8,x8),(9,x9),(10,x10)] H
def KG:Z4:=
 Z0 (Zl (.slice 9) p0) fun t9=>
 W9 p1 .nils p0 t9 (.int .i64 0) H H
theorem P6:Kp x5 H0 H =
 some (x5,H):=Za [4,7,8]
theorem P8:W7 x1 x5 x8 x9 x10 H0 H =
 Z0 (Z5 .add x10 (.int .i64 1)) fun g=>
 W9 x1 x5 x8 x9 g H0 H:=Za [4,7,8]
theorem P7:VF x1 x5 x8 x9 x10 x11 H0 H =
 Z0 (Zp 1 x8 x10) fun y=>
 Z0 (Z3 false 1 y H) fun w=>
 Z0 (Zl (.slice 9) x5) fun z=>
 Z0 (Z5 .eql z (.int .i64 0)) fun g=>
 Z0 (Z8 g false (.tuple []) (some x1)) fun A=>
 Z0 (Z8 g false (.tuple []) (some x5)) fun B=>
 Z0 (Z8 g false (.tuple []) (some x5)) fun C=>
 Z0 (Z8 g false (.tuple []) (Zl (.slice 9) C)) fun D=>
 Z0 (Z8 g false (.tuple []) (Z5 .sub D (.int .i64 1))) fun E=>
 Z0 (Z8 g false (.tuple []) (Zp 1 B E)) fun F=>
 Z0 (Z8 g false (.tuple []) (Z3 false 1 F H)) fun I=>
 Z0 (Z8 g false (.tuple []) (some w)) fun J=>
 Z0 (Z8 g false ((.tuple []),H) (Yn cfg (Z9 cfg) A [I,J] H)) fun j=>
 Z0 (Z8 g false (.tuple []) (Xk .not j.1)) fun K=>
 Z0 (Zj g (.bool true) K) fun L=>
 Zk L
 (Z0 ((ZE 1 [(0,w)] [(.str [])]).map (.vs 1 .clip)) fun M=>
 Z0 (Ym 1 16 x5 M j.2) fun u=>
 W7 x1 u.1 x8 x9 x10 H0 u.2)
 (W7 x1 x5 x8 x9 x10 H0 j.2):=Za [4,7,8]
theorem QL:W9 x1 x5 x8 x9 x10 H0 H =
 Z0 (Z5 .lss x10 x9) fun g=>
 Zk g
 (VF x1 x5 x8 x9 x10 g H0 H)
 (Kp x5 H0 H):=(ZD (C:=cfg) [4,7,8] (Zm 0 (RG H0)) _ _).trans (by kernel_rfl)
theorem PE:U1 [p0,p1] H=KG p0 p1 H:=Be 35 [4,7,8] Tryz.func57
def LB:Z4:=
 Z0 (Z3 true 6 p2 H) fun u=>
 Z0 (Z3 true 5 p3 H) fun w=>
 Z0 (Zf Wv [u,w,p0,p1] H) fun g=>
 Z0 (Z5 .eql g.1 (.int .i64 0)) fun j=>
 some (j,g.2)
theorem ZaB:Lp [p0,p1,p2,p3] H=LB p0 p1 p2 p3 H:=Be 13 [] Tryz.func58
end
end Go.Am
