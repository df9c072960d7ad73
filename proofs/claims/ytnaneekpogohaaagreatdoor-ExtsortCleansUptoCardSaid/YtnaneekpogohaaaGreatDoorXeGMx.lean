/- The functions of the translation over the abstract machine -/
import Derived.Test.YtnaneekpogohaaaGreatDoorXeGx
open Go.Am.AV renaming int->zA
open Go.IntKind renaming i64->J
namespace Go.Am
open Go.Proofs
set_option maxRecDepth 100000
noncomputable abbrev CZ (f n:Nat):=Yl cfg (Za cfg) (Y4 cfg (cfg.keep f) n) (cfg.keep f) n Zc Z6
noncomputable abbrev Zti (f n:Nat):=Y4 cfg (cfg.keep f) n
noncomputable section
abbrev Zx9 (f n:Nat)(F:Func)(p:List Nat):KL->AL->Hp->Z4:=fun k g H=>CZ f n (sub (Z1 F) p) k (Y3 (cfg.keep f) (sub (Z1 F) p) g) H
abbrev Ztl (f n:Nat)(F:Func)(p:List Nat):KL->AL->Hp->Z4:=fun k g H=>Zti f n (sub (Z1 F) p) k (Y3 (cfg.keep f) (sub (Z1 F) p) g) H
variable (p0 p1 p2 p3 x0 x1 x2 x3 x4 x5 x6 x7 x8 x9 x10 x11:AV)(H0 H:Hp)
noncomputable abbrev ax (f n:Nat)(F:Func)(p:List Nat)(G:Hp):=fun k K=>CZ f n (sub (Z1 F) p) (Zg cfg n f F G) k K
def RO:Z4:=ax 25 22 Tryz.f25 [1,1,1,1] H0 [(7,x7)] H
def CI:Z4:=ax 25 22 Tryz.f25 [1,1] H0 [(2,x2),(3,x3),(4,x4)] H
def Ak:Z4:=
 Z0 (ZN p0 H) fun w=>
 Z0 (ZN p1 w.2) fun h=>
 Z0 (Z3 true 5 h.1 h.2) fun y=>
 Z0 (Zf Wl [y] h.2) fun j=>
 Z0 (Z5 .neq j.1 (zA J 0)) fun u=>
 Zj u
 (Z0 (Zf Yk [p2] j.2) fun g=>
 some (g.1,g.2))
 (CI p2 w.1 h.1 H j.2)
theorem Nn:RO x7 H0 H =
 some (x7,H):=Z9 [3,6]
theorem Zdb:CI x2 x3 x4 H0 H =
 UI x3 H fun z3 z=>
 UI x4 z fun z4 A=>
 Z0 (some (.fn (.func 55) [] [z3,z4])) fun j=>
 Z0 (Zf YN [x2,j] A) fun g=>
 Z0 (Z7 3 z4) fun u=>
 Z0 (Z3 false 1 u g.2) fun w=>
 Zj w
 (Z0 (some (.fn (.func 58) [] [z3,z4])) fun y=>
 Z0 (Zf Ub [g.1,y] g.2) fun h=>
 RO h.1 H0 h.2)
 (RO g.1 H0 g.2):=Z9 [3,6]
theorem ZdS:QS [p0,p1,p2] H=Ak p0 p1 p2 H:=Be 22 [3,6] Tryz.func25
def Uh:Z4:=ax 53 8 Tryz.f53 [1,1] H0 [(0,x0)] H
def UD:Z4:=
 Z0 (Yy (.slice 9) .eql p0 .nils) fun t4=>
 Zj t4
 (some (.nils,H))
 (Uh p0 H H)
theorem GZ:Uh x0 H0 H =
 Z0 ((ZA 1 [] []).map (.vs 1 .clip)) fun t5=>
 Z0 (Y7 1 16 t5 x0 H) fun g=>
 some (g.1,g.2):=Z9 [3]
theorem BR:Yk [p0] H=UD p0 H:=Be 8 [3] Tryz.func53
def Qb:Z4:=ax 54 67 Tryz.f54 [1,1,1,1,1,1] H0 [(6,x6),(7,x7),(8,x8)] H
def Wv:KL:=Zc (Zx9 54 67 Tryz.f54 [1,1,1,1,1,1]) (Zg cfg 67 54 Tryz.f54 H0)
theorem GP:ZR 67 (Wv H0):=Zw (C:=cfg) (kp:=cfg.keep 54) (sub (Z1 Tryz.f54) [1,1,1,1,1,1]) (ZB 54 Tryz.f54 H0)
def Qc:Z4:=CZ 54 67 (sub (Z1 Tryz.f54) [1,1,1,1,1,0,0,0,1]) (Zc (Ztl 54 67 Tryz.f54 [1,1,1,1,1,0,0,0]) (Z6 0 (Wv H0))) [(1,x1),(6,x6),(7,x7),(8,x8)] H
def YF:Z4:=Zti 54 67 (sub (Z1 Tryz.f54) [1,1,1,1,1,0,0,0]) (Z6 0 (Wv H0)) [(1,x1),(6,x6),(7,x7),(8,x8)] H
def Qa:Z4:=ax 54 67 Tryz.f54 [1,1] H0 [(0,x0),(1,x1)] H
def Xg:Z4:=
 Z0 (Zk (.slice 9) p0) fun h=>
 Z0 (Z5 .lss h (zA J 2)) fun j=>
 Zj j
 (Z0 (Zf Yk [p0] H) fun g=>
 some (g.1,g.2))
 (Qa p0 p1 H H)
theorem U2:Qb x6 x7 x8 H0 H =
 Z0 (Y7 1 16 x8 x6 H) fun g=>
 Z0 (Y7 1 16 g.1 x7 g.2) fun h=>
 some (h.1,h.2):=Z9 [3,7,12]
theorem U3:Qc x1 x6 x7 x8 H0 H =
 Z0 (Zo 1 x6 (zA J 0)) fun u=>
 Z0 (Z3 false 1 u H) fun w=>
 Z0 (Zo 1 x7 (zA J 0)) fun y=>
 Z0 (Z3 false 1 y H) fun z=>
 Z0 (Yd cfg (Za cfg) x1 [w,z] H) fun g=>
 Zj g.1
 (Z0 (Zo 1 x7 (zA J 0)) fun A=>
 Z0 (Z3 false 1 A g.2) fun B=>
 Z0 ((ZA 1 [(0,B)] [(.str [])]).map (.vs 1 .clip)) fun C=>
 Z0 (Y7 1 16 x8 C g.2) fun h=>
 Z0 (Yx 1 x7 (some (zA J 1)) none none) fun D=>
 YF x1 x6 D h.1 H0 h.2)
 (Z0 (Zo 1 x6 (zA J 0)) fun E=>
 Z0 (Z3 false 1 E g.2) fun F=>
 Z0 ((ZA 1 [(0,F)] [(.str [])]).map (.vs 1 .clip)) fun K=>
 Z0 (Y7 1 16 x8 K g.2) fun j=>
 Z0 (Yx 1 x6 (some (zA J 1)) none none) fun L=>
 YF x1 L x7 j.1 H0 j.2):=Z9 [3,7,12]
theorem YS:YF x1 x6 x7 x8 H0 H =
 Z0 (Zk (.slice 9) x6) fun h=>
 Z0 (Z5 .gtr h (zA J 0)) fun g=>
 Z0 (Z8 g true ak (some x7)) fun j=>
 Z0 (Z8 g true ak (Zk (.slice 9) j)) fun u=>
 Z0 (Z8 g true ak (Z5 .gtr u (zA J 0))) fun w=>
 Z0 (Zi g w (.bool false)) fun t37=>
 Zj t37
 (Qc x1 x6 x7 x8 H0 H)
 (Qb x6 x7 x8 H0 H):=(ZC (C:=cfg) [3,7,12] (Zn 0 (GP H0)) _ _).trans (by kernel_rfl)
theorem DG:Qa x0 x1 H0 H =
 Z0 (Zk (.slice 9) x0) fun w=>
 Z0 (Z5 .quo w (zA J 2)) fun u=>
 Z0 (Yx 1 x0 none (some u) none) fun y=>
 Z0 (Zf YN [y,x1] H) fun g=>
 Z0 (Yx 1 x0 (some u) none none) fun z=>
 Z0 (Zf YN [z,x1] g.2) fun h=>
 Z0 (Zk (.slice 9) x0) fun A=>
 Z0 (Js 1 16 false (.str []) (zA J 0) A h.2) fun j=>
 YF x1 g.1 h.1 j.1 H0 j.2:=Z9 [3,7,12]
theorem W5:YN [p0,p1] H=Xg p0 p1 H:=Be 67 [3,7,12] Tryz.func54
def LJ:Z4:=
 Z0 (Z3 true 6 p2 H) fun j=>
 Z0 (Z3 true 5 p3 H) fun u=>
 Z0 (Zf UW [j,u,p0,p1] H) fun g=>
 Z0 (Z5 .gtr g.1 (zA J 0)) fun h=>
 some (h,g.2)
theorem ZaD:Ly [p0,p1,p2,p3] H=LJ p0 p1 p2 p3 H:=Be 13 [] Tryz.func55
def KZ:Z4:=ax 57 35 Tryz.f57 [1,1,1] H0 [(5,x5)] H
def Wi:KL:=Zc (Zx9 57 35 Tryz.f57 [1,1,1]) (Zg cfg 35 57 Tryz.f57 H0)
theorem RP:ZR 35 (Wi H0):=Zw (C:=cfg) (kp:=cfg.keep 57) (sub (Z1 Tryz.f57) [1,1,1]) (ZB 57 Tryz.f57 H0)
def Wh:Z4:=CZ 57 35 (sub (Z1 Tryz.f57) [1,1,0,1,0,0,1,1,1]) (Zc (Ztl 57 35 Tryz.f57 [1,1,0,1,0,0]) (Z6 0 (Wi H0))) [(1,x1),(5,x5),(8,x8),(9,x9),(10,x10)] H
def VQ:Z4:=CZ 57 35 (sub (Z1 Tryz.f57) [1,1,0,1,0,0,1,1]) (Zc (Ztl 57 35 Tryz.f57 [1,1,0,1,0,0]) (Z6 0 (Wi H0))) [(1,x1),(5,x5),(8,x8),(9,x9),(10,x10),(11,x11)] H
def Wj:Z4:=Zti 57 35 (sub (Z1 Tryz.f57) [1,1,0,1,0,0]) (Z6 0 (Wi H0)) [(1,x1),(5,x5),(8,x8),(9,x9),(10,x10)] H
def Gf:Z4:=
 Z0 (Zk (.slice 9) p0) fun t9=>
 Wj p1 .nils p0 t9 (zA J 0) H H
theorem Pm:KZ x5 H0 H =
 some (x5,H):=Z9 [4,7,8]
theorem Po:Wh x1 x5 x8 x9 x10 H0 H =
 Z0 (Z5 .add x10 (zA J 1)) fun g=>
 Wj x1 x5 x8 x9 g H0 H:=Z9 [4,7,8]
theorem Pn:VQ x1 x5 x8 x9 x10 x11 H0 H =
 Z0 (Zo 1 x8 x10) fun w=>
 Z0 (Z3 false 1 w H) fun u=>
 Z0 (Zk (.slice 9) x5) fun y=>
 Z0 (Z5 .eql y (zA J 0)) fun g=>
 Z0 (Z8 g false ak (some x1)) fun z=>
 Z0 (Z8 g false ak (some x5)) fun A=>
 Z0 (Z8 g false ak (some x5)) fun B=>
 Z0 (Z8 g false ak (Zk (.slice 9) B)) fun C=>
 Z0 (Z8 g false ak (Z5 .sub C (zA J 1))) fun D=>
 Z0 (Z8 g false ak (Zo 1 A D)) fun E=>
 Z0 (Z8 g false ak (Z3 false 1 E H)) fun F=>
 Z0 (Z8 g false ak (some u)) fun K=>
 Z0 (Z8 g false (ak,H) (Yd cfg (Za cfg) z [F,K] H)) fun h=>
 Z0 (Z8 g false ak (Xv .not h.1)) fun L=>
 Z0 (Zi g (.bool true) L) fun M=>
 Zj M
 (Z0 ((ZA 1 [(0,u)] [(.str [])]).map (.vs 1 .clip)) fun N=>
 Z0 (Y7 1 16 x5 N h.2) fun j=>
 Wh x1 j.1 x8 x9 x10 H0 j.2)
 (Wh x1 x5 x8 x9 x10 H0 h.2):=Z9 [4,7,8]
theorem J6:Wj x1 x5 x8 x9 x10 H0 H =
 Z0 (Z5 .lss x10 x9) fun g=>
 Zj g
 (VQ x1 x5 x8 x9 x10 g H0 H)
 (KZ x5 H0 H):=(ZC (C:=cfg) [4,7,8] (Zn 0 (RP H0)) _ _).trans (by kernel_rfl)
theorem PT:Ub [p0,p1] H=Gf p0 p1 H:=Be 35 [4,7,8] Tryz.func57
def LK:Z4:=
 Z0 (Z3 true 6 p2 H) fun j=>
 Z0 (Z3 true 5 p3 H) fun u=>
 Z0 (Zf WB [j,u,p0,p1] H) fun g=>
 Z0 (Z5 .eql g.1 (zA J 0)) fun h=>
 some (h,g.2)
theorem ZaE:Lz [p0,p1,p2,p3] H=LK p0 p1 p2 p3 H:=Be 13 [] Tryz.func58
end
end Go.Am
