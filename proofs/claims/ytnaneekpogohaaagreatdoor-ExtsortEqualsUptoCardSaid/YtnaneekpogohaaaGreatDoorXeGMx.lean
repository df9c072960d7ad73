/- The functions of the translation over the abstract machine -/
import Derived.Test.YtnaneekpogohaaaGreatDoorXeGx
namespace Go.Am
open Go.Proofs
set_option maxRecDepth 100000
noncomputable abbrev H9 (f n:Nat):=Y9 cfg (Z9 cfg) (Y6 cfg (cfg.keep f) n) (cfg.keep f) n Zc Z7
noncomputable abbrev ZuB (f n:Nat):=Y6 cfg (cfg.keep f) n
noncomputable section
abbrev Zzl (f n:Nat)(F:Func)(p:List Nat):KL->AL->Hp->Z3:=fun k g H=>H9 f n (sub (Z1 F) p) k (ZU (cfg.keep f) (sub (Z1 F) p) g) H
abbrev ZuE (f n:Nat)(F:Func)(p:List Nat):KL->AL->Hp->Z3:=fun k g H=>ZuB f n (sub (Z1 F) p) k (ZU (cfg.keep f) (sub (Z1 F) p) g) H
variable (p0 p1 p2 p3 x0 x1 x2 x3 x4 x5 x6 x7 x8 x9 x10 x11:AV)(H0 H:Hp)
def RA:Z3:=H9 25 22 (sub (Z1 Tryz.f25) [1,1,1,1]) (Zh cfg 22 25 Tryz.f25 H0) [(7,x7)] H
def CJ:Z3:=H9 25 22 (sub (Z1 Tryz.f25) [1,1]) (Zh cfg 22 25 Tryz.f25 H0) [(2,x2),(3,x3),(4,x4)] H
def Ar:Z3:=
 Z0 (ZM p0 H) fun y=>
 Z0 (ZM p1 y.2) fun j=>
 Z0 (Z4 true 5 j.1 j.2) fun z=>
 Z0 (Zf Wa [z] j.2) fun u=>
 Z0 (Z5 .neq u.1 (.int .i64 0)) fun w=>
 Zl w
 (Z0 (Zf Yk [p2] u.2) fun g=>
 some (g.1,g.2))
 (CJ p2 y.1 j.1 H u.2)
theorem N8:RA x7 H0 H =
 some (x7,H):=Za [3,6]
theorem ZcX:CJ x2 x3 x4 H0 H =
 V8 x3 H fun z3 A=>
 V8 x4 A fun z4 B=>
 Z0 (some (.fn (.func 55) [] [z3,z4])) fun u=>
 Z0 (Zf YM [x2,u] B) fun g=>
 Z0 (Z6 3 z4) fun w=>
 Z0 (Z4 false 1 w g.2) fun y=>
 Zl y
 (Z0 (some (.fn (.func 58) [] [z3,z4])) fun z=>
 Z0 (Zf U2 [g.1,z] g.2) fun j=>
 RA j.1 H0 j.2)
 (RA g.1 H0 g.2):=Za [3,6]
theorem ZdG:QA [p0,p1,p2] H=Ar p0 p1 p2 H:=Be 22 [3,6] Tryz.func25
def U9:Z3:=H9 53 8 (sub (Z1 Tryz.f53) [1,1]) (Zh cfg 8 53 Tryz.f53 H0) [(0,x0)] H
def Ux:Z3:=
 Z0 (YC (.slice 9) .eql p0 .nils) fun t4=>
 Zl t4
 (some (.nils,H))
 (U9 p0 H H)
theorem Gt:U9 x0 H0 H =
 Z0 ((ZE 1 [] []).map (.vs 1 .clip)) fun t5=>
 Z0 (Yl 1 16 t5 x0 H) fun g=>
 some (g.1,g.2):=Za [3]
theorem Bn:Yk [p0] H=Ux p0 H:=Be 8 [3] Tryz.func53
def UY:Z3:=H9 54 67 (sub (Z1 Tryz.f54) [1,1,1,1,1,1]) (Zh cfg 67 54 Tryz.f54 H0) [(6,x6),(7,x7),(8,x8)] H
def Wm:KL:=Zc (Zzl 54 67 Tryz.f54 [1,1,1,1,1,1]) (Zh cfg 67 54 Tryz.f54 H0)
theorem Gg:ZW 67 (Wm H0):=Zy (C:=cfg) (kp:=cfg.keep 54) (sub (Z1 Tryz.f54) [1,1,1,1,1,1]) (ZB 54 Tryz.f54 H0)
def UZ:Z3:=H9 54 67 (sub (Z1 Tryz.f54) [1,1,1,1,1,0,0,0,1]) (Zc (ZuE 54 67 Tryz.f54 [1,1,1,1,1,0,0,0]) (Z7 0 (Wm H0))) [(1,x1),(6,x6),(7,x7),(8,x8)] H
def YG:Z3:=ZuB 54 67 (sub (Z1 Tryz.f54) [1,1,1,1,1,0,0,0]) (Z7 0 (Wm H0)) [(1,x1),(6,x6),(7,x7),(8,x8)] H
def UX:Z3:=H9 54 67 (sub (Z1 Tryz.f54) [1,1]) (Zh cfg 67 54 Tryz.f54 H0) [(0,x0),(1,x1)] H
def Xg:Z3:=
 Z0 (Zk (.slice 9) p0) fun j=>
 Z0 (Z5 .lss j (.int .i64 2)) fun u=>
 Zl u
 (Z0 (Zf Yk [p0] H) fun g=>
 some (g.1,g.2))
 (UX p0 p1 H H)
theorem VQ:UY x6 x7 x8 H0 H =
 Z0 (Yl 1 16 x8 x6 H) fun g=>
 Z0 (Yl 1 16 g.1 x7 g.2) fun j=>
 some (j.1,j.2):=Za [3,7,12]
theorem VR:UZ x1 x6 x7 x8 H0 H =
 Z0 (Zo 1 x6 (.int .i64 0)) fun w=>
 Z0 (Z4 false 1 w H) fun y=>
 Z0 (Zo 1 x7 (.int .i64 0)) fun z=>
 Z0 (Z4 false 1 z H) fun A=>
 Z0 (Ym cfg (Z9 cfg) x1 [y,A] H) fun g=>
 Zl g.1
 (Z0 (Zo 1 x7 (.int .i64 0)) fun B=>
 Z0 (Z4 false 1 B g.2) fun C=>
 Z0 ((ZE 1 [(0,C)] [(.str [])]).map (.vs 1 .clip)) fun D=>
 Z0 (Yl 1 16 x8 D g.2) fun j=>
 Z0 (Yn 1 x7 (some (.int .i64 1)) none none) fun E=>
 YG x1 x6 E j.1 H0 j.2)
 (Z0 (Zo 1 x6 (.int .i64 0)) fun F=>
 Z0 (Z4 false 1 F g.2) fun I=>
 Z0 ((ZE 1 [(0,I)] [(.str [])]).map (.vs 1 .clip)) fun J=>
 Z0 (Yl 1 16 x8 J g.2) fun u=>
 Z0 (Yn 1 x6 (some (.int .i64 1)) none none) fun K=>
 YG x1 K x7 u.1 H0 u.2):=Za [3,7,12]
theorem YT:YG x1 x6 x7 x8 H0 H =
 Z0 (Zk (.slice 9) x6) fun j=>
 Z0 (Z5 .gtr j (.int .i64 0)) fun g=>
 Z0 (Z8 g true (.tuple []) (some x7)) fun u=>
 Z0 (Z8 g true (.tuple []) (Zk (.slice 9) u)) fun w=>
 Z0 (Z8 g true (.tuple []) (Z5 .gtr w (.int .i64 0))) fun y=>
 Z0 (Zi g y (.bool false)) fun t37=>
 Zl t37
 (UZ x1 x6 x7 x8 H0 H)
 (UY x6 x7 x8 H0 H):=(ZD (C:=cfg) [3,7,12] (Zn 0 (Gg H0)) _ _).trans (by kernel_rfl)
theorem Di:UX x0 x1 H0 H =
 Z0 (Zk (.slice 9) x0) fun y=>
 Z0 (Z5 .quo y (.int .i64 2)) fun w=>
 Z0 (Yn 1 x0 none (some w) none) fun z=>
 Z0 (Zf YM [z,x1] H) fun g=>
 Z0 (Yn 1 x0 (some w) none none) fun A=>
 Z0 (Zf YM [A,x1] g.2) fun j=>
 Z0 (Zk (.slice 9) x0) fun B=>
 Z0 (Ra 1 16 false (.str []) (.int .i64 0) B j.2) fun u=>
 YG x1 g.1 j.1 u.1 H0 u.2:=Za [3,7,12]
theorem XP:YM [p0,p1] H=Xg p0 p1 H:=Be 67 [3,7,12] Tryz.func54
def LB:Z3:=
 Z0 (Z4 true 6 p2 H) fun u=>
 Z0 (Z4 true 5 p3 H) fun w=>
 Z0 (Zf UL [u,w,p0,p1] H) fun g=>
 Z0 (Z5 .gtr g.1 (.int .i64 0)) fun j=>
 some (j,g.2)
theorem Zav:Lp [p0,p1,p2,p3] H=LB p0 p1 p2 p3 H:=Be 13 [] Tryz.func55
def Ku:Z3:=H9 57 35 (sub (Z1 Tryz.f57) [1,1,1]) (Zh cfg 35 57 Tryz.f57 H0) [(5,x5)] H
def W7:KL:=Zc (Zzl 57 35 Tryz.f57 [1,1,1]) (Zh cfg 35 57 Tryz.f57 H0)
theorem RB:ZW 35 (W7 H0):=Zy (C:=cfg) (kp:=cfg.keep 57) (sub (Z1 Tryz.f57) [1,1,1]) (ZB 57 Tryz.f57 H0)
def W6:Z3:=H9 57 35 (sub (Z1 Tryz.f57) [1,1,0,1,0,0,1,1,1]) (Zc (ZuE 57 35 Tryz.f57 [1,1,0,1,0,0]) (Z7 0 (W7 H0))) [(1,x1),(5,x5),(8,x8),(9,x9),(10,x10)] H
def VB:Z3:=H9 57 35 (sub (Z1 Tryz.f57) [1,1,0,1,0,0,1,1]) (Zc (ZuE 57 35 Tryz.f57 [1,1,0,1,0,0]) (Z7 0 (W7 H0))) [(1,x1),(5,x5),(8,x8),(9,x9),(10,x10),(11,x11)] H
def W8:Z3:=ZuB 57 35 (sub (Z1 Tryz.f57) [1,1,0,1,0,0]) (Z7 0 (W7 H0)) [(1,x1),(5,x5),(8,x8),(9,x9),(10,x10)] H
def KI:Z3:=
 Z0 (Zk (.slice 9) p0) fun t9=>
 W8 p1 .nils p0 t9 (.int .i64 0) H H
theorem P6:Ku x5 H0 H =
 some (x5,H):=Za [4,7,8]
theorem P8:W6 x1 x5 x8 x9 x10 H0 H =
 Z0 (Z5 .add x10 (.int .i64 1)) fun g=>
 W8 x1 x5 x8 x9 g H0 H:=Za [4,7,8]
theorem P7:VB x1 x5 x8 x9 x10 x11 H0 H =
 Z0 (Zo 1 x8 x10) fun y=>
 Z0 (Z4 false 1 y H) fun w=>
 Z0 (Zk (.slice 9) x5) fun z=>
 Z0 (Z5 .eql z (.int .i64 0)) fun g=>
 Z0 (Z8 g false (.tuple []) (some x1)) fun A=>
 Z0 (Z8 g false (.tuple []) (some x5)) fun B=>
 Z0 (Z8 g false (.tuple []) (some x5)) fun C=>
 Z0 (Z8 g false (.tuple []) (Zk (.slice 9) C)) fun D=>
 Z0 (Z8 g false (.tuple []) (Z5 .sub D (.int .i64 1))) fun E=>
 Z0 (Z8 g false (.tuple []) (Zo 1 B E)) fun F=>
 Z0 (Z8 g false (.tuple []) (Z4 false 1 F H)) fun I=>
 Z0 (Z8 g false (.tuple []) (some w)) fun J=>
 Z0 (Z8 g false ((.tuple []),H) (Ym cfg (Z9 cfg) A [I,J] H)) fun j=>
 Z0 (Z8 g false (.tuple []) (Xo .not j.1)) fun K=>
 Z0 (Zi g (.bool true) K) fun L=>
 Zl L
 (Z0 ((ZE 1 [(0,w)] [(.str [])]).map (.vs 1 .clip)) fun M=>
 Z0 (Yl 1 16 x5 M j.2) fun u=>
 W6 x1 u.1 x8 x9 x10 H0 u.2)
 (W6 x1 x5 x8 x9 x10 H0 j.2):=Za [4,7,8]
theorem QM:W8 x1 x5 x8 x9 x10 H0 H =
 Z0 (Z5 .lss x10 x9) fun g=>
 Zl g
 (VB x1 x5 x8 x9 x10 g H0 H)
 (Ku x5 H0 H):=(ZD (C:=cfg) [4,7,8] (Zn 0 (RB H0)) _ _).trans (by kernel_rfl)
theorem PI:U2 [p0,p1] H=KI p0 p1 H:=Be 35 [4,7,8] Tryz.func57
def LC:Z3:=
 Z0 (Z4 true 6 p2 H) fun u=>
 Z0 (Z4 true 5 p3 H) fun w=>
 Z0 (Zf Wu [u,w,p0,p1] H) fun g=>
 Z0 (Z5 .eql g.1 (.int .i64 0)) fun j=>
 some (j,g.2)
theorem Zaw:Lq [p0,p1,p2,p3] H=LC p0 p1 p2 p3 H:=Be 13 [] Tryz.func58
end
end Go.Am
