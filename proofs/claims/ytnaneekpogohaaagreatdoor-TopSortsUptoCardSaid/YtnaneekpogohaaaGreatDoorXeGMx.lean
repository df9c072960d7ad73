/- The functions of the translation over the abstract machine -/
import Derived.Test.YtnaneekpogohaaaGreatDoorXeGx
namespace Go.Am
open Go.Proofs
set_option maxRecDepth 100000
noncomputable abbrev QY (f n:Nat):=Y6 cfg (Z9 cfg) (ZZ cfg (cfg.keep f) n) (cfg.keep f) n Zc Z6
noncomputable abbrev Zlq (f n:Nat):=ZZ cfg (cfg.keep f) n
noncomputable section
abbrev Zpo (f n:Nat)(F:Func)(p:List Nat):KL->AL->Hp->Z4:=fun k g H=>QY f n (sub (Z1 F) p) k (ZS (cfg.keep f) (sub (Z1 F) p) g) H
abbrev ZfQ (f n:Nat)(F:Func)(p:List Nat):KL->AL->Hp->Z4:=fun k g H=>Zlq f n (sub (Z1 F) p) k (ZS (cfg.keep f) (sub (Z1 F) p) g) H
variable (p0 p1 p2 p3 x0 x1 x2 x3 x4 x5 x6 x7 x8 x9 x10 x11:AV)(H0 H:Hp)
def T7:Z4:=QY 25 22 (sub (Z1 Tryz.f25) [1,1,1,1]) (Zi cfg 22 25 Tryz.f25 H0) [(7,x7)] H
def HJ:Z4:=QY 25 22 (sub (Z1 Tryz.f25) [1,1]) (Zi cfg 22 25 Tryz.f25 H0) [(2,x2),(3,x3),(4,x4)] H
def If:Z4:=
 Z0 (ZO p0 H) fun y=>
 Z0 (ZO p1 y.2) fun j=>
 Z0 (Z3 true 5 j.1 j.2) fun z=>
 Z0 (Ze Xc [z] j.2) fun u=>
 Z0 (Z5 .neq u.1 (.int .i64 0)) fun w=>
 Zk w
 (Z0 (Ze Yi [p2] u.2) fun g=>
 some (g.1,g.2))
 (HJ p2 y.1 j.1 H u.2)
theorem NF:T7 x7 H0 H =
 some (x7,H):=Za [3,6]
theorem ZdY:HJ x2 x3 x4 H0 H =
 XG x3 H fun z3 A=>
 XG x4 A fun z4 B=>
 Z0 (some (.fn (.func 55) [] [z3,z4])) fun u=>
 Z0 (Ze YL [x2,u] B) fun g=>
 Z0 (Z7 3 z4) fun w=>
 Z0 (Z3 false 1 w g.2) fun y=>
 Zk y
 (Z0 (some (.fn (.func 58) [] [z3,z4])) fun z=>
 Z0 (Ze Wf [g.1,z] g.2) fun j=>
 T7 j.1 H0 j.2)
 (T7 g.1 H0 g.2):=Za [3,6]
theorem ZeI:WS [p0,p1,p2] H=If p0 p1 p2 H:=Be 22 [3,6] Tryz.func25
def Jo:Z4:=QY 28 50 (sub (Z1 Tryz.f28) [1,1,1,1,1,1,1]) (Zi cfg 50 28 Tryz.f28 H0) [(9,x9)] H
def Jn:Z4:=QY 28 50 (sub (Z1 Tryz.f28) [1,1,1,1,1,1]) (Zi cfg 50 28 Tryz.f28 H0) [(3,x3),(4,x4),(9,x9)] H
def Jp:KL:=Zc (Zpo 28 50 Tryz.f28 [1,1,1,1,1,1]) (Zi cfg 50 28 Tryz.f28 H0)
theorem IM:ZU 50 (Jp H0):=Zx (C:=cfg) (kp:=cfg.keep 28) (sub (Z1 Tryz.f28) [1,1,1,1,1,1]) (ZB 28 Tryz.f28 H0)
def Sg:Z4:=QY 28 50 (sub (Z1 Tryz.f28) [1,1,1,1,1,0,1,0,0,1,1]) (Zc (ZfQ 28 50 Tryz.f28 [1,1,1,1,1,0,1,0,0]) (Z6 0 (Jp H0))) [(3,x3),(4,x4),(7,x7),(8,x8),(9,x9)] H
def Sf:Z4:=QY 28 50 (sub (Z1 Tryz.f28) [1,1,1,1,1,0,1,0,0,1]) (Zc (ZfQ 28 50 Tryz.f28 [1,1,1,1,1,0,1,0,0]) (Z6 0 (Jp H0))) [(3,x3),(4,x4),(7,x7),(8,x8),(9,x9),(10,x10)] H
def Jq:Z4:=Zlq 28 50 (sub (Z1 Tryz.f28) [1,1,1,1,1,0,1,0,0]) (Z6 0 (Jp H0)) [(3,x3),(4,x4),(7,x7),(8,x8),(9,x9),(10,x10)] H
def Se:Z4:=QY 28 50 (sub (Z1 Tryz.f28) [1,1]) (Zi cfg 50 28 Tryz.f28 H0) [(2,x2),(3,x3),(4,x4)] H
def Cw:Z4:=
 Z0 (ZO p0 H) fun z=>
 Z0 (ZO p1 z.2) fun u=>
 Z0 (Z3 true 5 u.1 u.2) fun w=>
 Z0 (Ze Xc [w] u.2) fun g=>
 Z0 (Z5 .neq g.1 (.int .i64 0)) fun y=>
 Zk y
 (Z0 (F8 [p2] g.2) fun j=>
 NC H j.1 j.2)
 (Se p2 z.1 u.1 H g.2)
theorem ZbC:Jo x9 H0 H =
 NC H0 x9 H:=Za [3,8,9,11,13]
theorem ZbB:Jn x3 x4 x9 H0 H =
 Z0 (Z7 3 x4) fun j=>
 Z0 (Z3 false 1 j H) fun u=>
 Zk u
 (Z0 (some (.fn (.func 64) [] [x3,x4])) fun w=>
 Z0 (Ze Wf [x9,w] H) fun g=>
 Jo g.1 H0 g.2)
 (Jo x9 H0 H):=Za [3,8,9,11,13]
theorem ZbE:Sg x3 x4 x7 x8 x9 H0 H =
 Z0 (Kf [x8,x7] H) fun g=>
 Jq x3 x4 x7 x8 x9 g.1 H0 g.2:=Za [3,8,9,11,13]
theorem ZbD:Sf x3 x4 x7 x8 x9 x10 H0 H =
 Z0 (Zn 1 x8 x10) fun u=>
 Z0 (Z3 false 1 u H) fun w=>
 Z0 (Zn 1 w (.int .i64 0)) fun y=>
 Z0 (Z3 false 1 y H) fun z=>
 Z0 ((ZA 1 [(0,z)] [(.str [])]).map (.vs 1 .clip)) fun A=>
 Z0 (Ym 1 16 x9 A H) fun g=>
 Z0 (Zn 1 x8 x10) fun B=>
 Z0 (Z3 false 1 B g.2) fun C=>
 Z0 (Yk 1 C (some (.int .i64 1)) none none) fun D=>
 Z0 (Zn 1 x8 x10) fun E=>
 Z0 (Zf 1 E D g.2) fun j=>
 Sg x3 x4 x7 x8 g.1 H0 j.2:=Za [3,8,9,11,13]
theorem TI:Jq x3 x4 x7 x8 x9 x10 H0 H =
 Z0 (Z5 .geq x10 (.int .i64 0)) fun g=>
 Zk g
 (Sf x3 x4 x7 x8 x9 x10 H0 H)
 (Jn x3 x4 x9 H0 H):=(ZD (C:=cfg) [3,8,9,11,13] (Zm 0 (IM H0)) _ _).trans (by kernel_rfl)
theorem ZbA:Se x2 x3 x4 H0 H =
 XG x3 H fun z3 w=>
 XG x4 w fun z4 y=>
 Z0 (some (.fn (.func 61) [] [z3,z4])) fun u=>
 Z0 (XY [x2] y) fun g=>
 Z0 (Kf [g.1,u] g.2) fun j=>
 Jq z3 z4 u g.1 .nils j.1 H0 j.2:=Za [3,8,9,11,13]
theorem Zck:Rg [p0,p1,p2] H=Cw p0 p1 p2 H:=Be 50 [3,8,9,11,13] Tryz.func28
def Ud:Z4:=QY 53 8 (sub (Z1 Tryz.f53) [1,1]) (Zi cfg 8 53 Tryz.f53 H0) [(0,x0)] H
def UE:Z4:=
 Z0 (Ys (.slice 9) .eql p0 .nils) fun t4=>
 Zk t4
 (some (.nils,H))
 (Ud p0 H H)
theorem GI:Ud x0 H0 H =
 Z0 ((ZA 1 [] []).map (.vs 1 .clip)) fun t5=>
 Z0 (Ym 1 16 t5 x0 H) fun g=>
 some (g.1,g.2):=Za [3]
theorem BE:Yi [p0] H=UE p0 H:=Be 8 [3] Tryz.func53
def Q2:Z4:=QY 54 67 (sub (Z1 Tryz.f54) [1,1,1,1,1,1]) (Zi cfg 67 54 Tryz.f54 H0) [(6,x6),(7,x7),(8,x8)] H
def Wq:KL:=Zc (Zpo 54 67 Tryz.f54 [1,1,1,1,1,1]) (Zi cfg 67 54 Tryz.f54 H0)
theorem Gx:ZU 67 (Wq H0):=Zx (C:=cfg) (kp:=cfg.keep 54) (sub (Z1 Tryz.f54) [1,1,1,1,1,1]) (ZB 54 Tryz.f54 H0)
def Q3:Z4:=QY 54 67 (sub (Z1 Tryz.f54) [1,1,1,1,1,0,0,0,1]) (Zc (ZfQ 54 67 Tryz.f54 [1,1,1,1,1,0,0,0]) (Z6 0 (Wq H0))) [(1,x1),(6,x6),(7,x7),(8,x8)] H
def YG:Z4:=Zlq 54 67 (sub (Z1 Tryz.f54) [1,1,1,1,1,0,0,0]) (Z6 0 (Wq H0)) [(1,x1),(6,x6),(7,x7),(8,x8)] H
def Q1:Z4:=QY 54 67 (sub (Z1 Tryz.f54) [1,1]) (Zi cfg 67 54 Tryz.f54 H0) [(0,x0),(1,x1)] H
def Xk:Z4:=
 Z0 (Zl (.slice 9) p0) fun j=>
 Z0 (Z5 .lss j (.int .i64 2)) fun u=>
 Zk u
 (Z0 (Ze Yi [p0] H) fun g=>
 some (g.1,g.2))
 (Q1 p0 p1 H H)
theorem VV:Q2 x6 x7 x8 H0 H =
 Z0 (Ym 1 16 x8 x6 H) fun g=>
 Z0 (Ym 1 16 g.1 x7 g.2) fun j=>
 some (j.1,j.2):=Za [3,7,12]
theorem VW:Q3 x1 x6 x7 x8 H0 H =
 Z0 (Zn 1 x6 (.int .i64 0)) fun w=>
 Z0 (Z3 false 1 w H) fun y=>
 Z0 (Zn 1 x7 (.int .i64 0)) fun z=>
 Z0 (Z3 false 1 z H) fun A=>
 Z0 (Yd cfg (Z9 cfg) x1 [y,A] H) fun g=>
 Zk g.1
 (Z0 (Zn 1 x7 (.int .i64 0)) fun B=>
 Z0 (Z3 false 1 B g.2) fun C=>
 Z0 ((ZA 1 [(0,C)] [(.str [])]).map (.vs 1 .clip)) fun D=>
 Z0 (Ym 1 16 x8 D g.2) fun j=>
 Z0 (Yk 1 x7 (some (.int .i64 1)) none none) fun E=>
 YG x1 x6 E j.1 H0 j.2)
 (Z0 (Zn 1 x6 (.int .i64 0)) fun F=>
 Z0 (Z3 false 1 F g.2) fun I=>
 Z0 ((ZA 1 [(0,I)] [(.str [])]).map (.vs 1 .clip)) fun J=>
 Z0 (Ym 1 16 x8 J g.2) fun u=>
 Z0 (Yk 1 x6 (some (.int .i64 1)) none none) fun K=>
 YG x1 K x7 u.1 H0 u.2):=Za [3,7,12]
theorem YT:YG x1 x6 x7 x8 H0 H =
 Z0 (Zl (.slice 9) x6) fun j=>
 Z0 (Z5 .gtr j (.int .i64 0)) fun g=>
 Z0 (Z8 g true (.tuple []) (some x7)) fun u=>
 Z0 (Z8 g true (.tuple []) (Zl (.slice 9) u)) fun w=>
 Z0 (Z8 g true (.tuple []) (Z5 .gtr w (.int .i64 0))) fun y=>
 Z0 (Zj g y (.bool false)) fun t37=>
 Zk t37
 (Q3 x1 x6 x7 x8 H0 H)
 (Q2 x6 x7 x8 H0 H):=(ZD (C:=cfg) [3,7,12] (Zm 0 (Gx H0)) _ _).trans (by kernel_rfl)
theorem DC:Q1 x0 x1 H0 H =
 Z0 (Zl (.slice 9) x0) fun y=>
 Z0 (Z5 .quo y (.int .i64 2)) fun w=>
 Z0 (Yk 1 x0 none (some w) none) fun z=>
 Z0 (Ze YL [z,x1] H) fun g=>
 Z0 (Yk 1 x0 (some w) none none) fun A=>
 Z0 (Ze YL [A,x1] g.2) fun j=>
 Z0 (Zl (.slice 9) x0) fun B=>
 Z0 (RE 1 16 false (.str []) (.int .i64 0) B j.2) fun u=>
 YG x1 g.1 j.1 u.1 H0 u.2:=Za [3,7,12]
theorem XZ:YL [p0,p1] H=Xk p0 p1 H:=Be 67 [3,7,12] Tryz.func54
def Ec:Z4:=
 Z0 (Z3 true 6 p2 H) fun u=>
 Z0 (Z3 true 5 p3 H) fun w=>
 Z0 (Ze Wg [u,w,p0,p1] H) fun g=>
 Z0 (Z5 .gtr g.1 (.int .i64 0)) fun j=>
 some (j,g.2)
theorem Zbl:E2 [p0,p1,p2,p3] H=Ec p0 p1 p2 p3 H:=Be 13 [] Tryz.func55
def Ky:Z4:=QY 57 35 (sub (Z1 Tryz.f57) [1,1,1]) (Zi cfg 35 57 Tryz.f57 H0) [(5,x5)] H
def Wc:KL:=Zc (Zpo 57 35 Tryz.f57 [1,1,1]) (Zi cfg 35 57 Tryz.f57 H0)
theorem T8:ZU 35 (Wc H0):=Zx (C:=cfg) (kp:=cfg.keep 57) (sub (Z1 Tryz.f57) [1,1,1]) (ZB 57 Tryz.f57 H0)
def Wb:Z4:=QY 57 35 (sub (Z1 Tryz.f57) [1,1,0,1,0,0,1,1,1]) (Zc (ZfQ 57 35 Tryz.f57 [1,1,0,1,0,0]) (Z6 0 (Wc H0))) [(1,x1),(5,x5),(8,x8),(9,x9),(10,x10)] H
def VJ:Z4:=QY 57 35 (sub (Z1 Tryz.f57) [1,1,0,1,0,0,1,1]) (Zc (ZfQ 57 35 Tryz.f57 [1,1,0,1,0,0]) (Z6 0 (Wc H0))) [(1,x1),(5,x5),(8,x8),(9,x9),(10,x10),(11,x11)] H
def Wd:Z4:=Zlq 57 35 (sub (Z1 Tryz.f57) [1,1,0,1,0,0]) (Z6 0 (Wc H0)) [(1,x1),(5,x5),(8,x8),(9,x9),(10,x10)] H
def KR:Z4:=
 Z0 (Zl (.slice 9) p0) fun t9=>
 Wd p1 .nils p0 t9 (.int .i64 0) H H
theorem PF:Ky x5 H0 H =
 some (x5,H):=Za [4,7,8]
theorem PH:Wb x1 x5 x8 x9 x10 H0 H =
 Z0 (Z5 .add x10 (.int .i64 1)) fun g=>
 Wd x1 x5 x8 x9 g H0 H:=Za [4,7,8]
theorem PG:VJ x1 x5 x8 x9 x10 x11 H0 H =
 Z0 (Zn 1 x8 x10) fun y=>
 Z0 (Z3 false 1 y H) fun w=>
 Z0 (Zl (.slice 9) x5) fun z=>
 Z0 (Z5 .eql z (.int .i64 0)) fun g=>
 Z0 (Z8 g false (.tuple []) (some x1)) fun A=>
 Z0 (Z8 g false (.tuple []) (some x5)) fun B=>
 Z0 (Z8 g false (.tuple []) (some x5)) fun C=>
 Z0 (Z8 g false (.tuple []) (Zl (.slice 9) C)) fun D=>
 Z0 (Z8 g false (.tuple []) (Z5 .sub D (.int .i64 1))) fun E=>
 Z0 (Z8 g false (.tuple []) (Zn 1 B E)) fun F=>
 Z0 (Z8 g false (.tuple []) (Z3 false 1 F H)) fun I=>
 Z0 (Z8 g false (.tuple []) (some w)) fun J=>
 Z0 (Z8 g false ((.tuple []),H) (Yd cfg (Z9 cfg) A [I,J] H)) fun j=>
 Z0 (Z8 g false (.tuple []) (Xv .not j.1)) fun K=>
 Z0 (Zj g (.bool true) K) fun L=>
 Zk L
 (Z0 ((ZA 1 [(0,w)] [(.str [])]).map (.vs 1 .clip)) fun M=>
 Z0 (Ym 1 16 x5 M j.2) fun u=>
 Wb x1 u.1 x8 x9 x10 H0 u.2)
 (Wb x1 x5 x8 x9 x10 H0 j.2):=Za [4,7,8]
theorem QN:Wd x1 x5 x8 x9 x10 H0 H =
 Z0 (Z5 .lss x10 x9) fun g=>
 Zk g
 (VJ x1 x5 x8 x9 x10 g H0 H)
 (Ky x5 H0 H):=(ZD (C:=cfg) [4,7,8] (Zm 0 (T8 H0)) _ _).trans (by kernel_rfl)
theorem Nf:Wf [p0,p1] H=KR p0 p1 H:=Be 35 [4,7,8] Tryz.func57
def Ed:Z4:=
 Z0 (Z3 true 6 p2 H) fun u=>
 Z0 (Z3 true 5 p3 H) fun w=>
 Z0 (Ze XA [u,w,p0,p1] H) fun g=>
 Z0 (Z5 .eql g.1 (.int .i64 0)) fun j=>
 some (j,g.2)
theorem Zbm:E3 [p0,p1,p2,p3] H=Ed p0 p1 p2 p3 H:=Be 13 [] Tryz.func58
def MJ:Z4:=
 Z0 (Z3 true 6 p2 H) fun u=>
 Z0 (Z3 true 5 p3 H) fun w=>
 Z0 (Ze Wg [u,w,p0,p1] H) fun g=>
 Z0 (Z5 .gtr g.1 (.int .i64 0)) fun j=>
 some (j,g.2)
theorem Oi:MG [p0,p1,p2,p3] H=MJ p0 p1 p2 p3 H:=Be 13 [] Tryz.func61
def VY:Z4:=QY 62 8 (sub (Z1 Tryz.f62) [1,1]) (Zi cfg 8 62 Tryz.f62 H0) [(0,x0)] H
def Ua:Z4:=
 Z0 (Ys (.slice 29) .eql p0 .nils) fun t4=>
 Zk t4
 (some (.nils,H))
 (VY p0 H H)
theorem G4:VY x0 H0 H =
 Z0 ((ZA 1 [] []).map (.vs 1 .clip)) fun t5=>
 Z0 (Wk false 1 24 t5 x0 H) fun g=>
 some (g.1,g.2):=Za [3]
theorem Gi:XY [p0] H=Ua p0 H:=Be 8 [3] Tryz.func62
def Si:Z4:=QY 63 38 (sub (Z1 Tryz.f63) [1,1,1]) (Zi cfg 38 63 Tryz.f63 H0) [(5,x5)] H
def Js:KL:=Zc (Zpo 63 38 Tryz.f63 [1,1,1]) (Zi cfg 38 63 Tryz.f63 H0)
theorem IN:ZU 38 (Js H0):=Zx (C:=cfg) (kp:=cfg.keep 63) (sub (Z1 Tryz.f63) [1,1,1]) (ZB 63 Tryz.f63 H0)
def Jr:Z4:=QY 63 38 (sub (Z1 Tryz.f63) [1,1,0,1,0,0,1,1,1]) (Zc (ZfQ 63 38 Tryz.f63 [1,1,0,1,0,0]) (Z6 0 (Js H0))) [(0,x0),(1,x1),(5,x5),(8,x8),(9,x9),(10,x10)] H
def Sj:Z4:=QY 63 38 (sub (Z1 Tryz.f63) [1,1,0,1,0,0,1,1]) (Zc (ZfQ 63 38 Tryz.f63 [1,1,0,1,0,0]) (Z6 0 (Js H0))) [(0,x0),(1,x1),(5,x5),(8,x8),(9,x9),(10,x10),(11,x11)] H
def Jt:Z4:=Zlq 63 38 (sub (Z1 Tryz.f63) [1,1,0,1,0,0]) (Z6 0 (Js H0)) [(0,x0),(1,x1),(5,x5),(8,x8),(9,x9),(10,x10)] H
def Cx:Z4:=
 Z0 (Zl (.slice 29) p0) fun t9=>
 Jt p0 p1 (.int .i64 (-1)) p0 t9 (.int .i64 0) H H
theorem ZbF:Si x5 H0 H =
 some (x5,H):=Za [4,7,8]
theorem ZbH:Jr x0 x1 x5 x8 x9 x10 H0 H =
 Z0 (Z5 .add x10 (.int .i64 1)) fun g=>
 Jt x0 x1 x5 x8 x9 g H0 H:=Za [4,7,8]
theorem ZbG:Sj x0 x1 x5 x8 x9 x10 x11 H0 H =
 Z0 (Zn 1 x8 x10) fun y=>
 Z0 (Z3 false 1 y H) fun w=>
 Z0 (Zl (.slice 9) w) fun z=>
 Z0 (Z5 .gtr z (.int .i64 0)) fun j=>
 Z0 (Z8 j true (.tuple []) (some x5)) fun A=>
 Z0 (Z8 j true (.tuple []) (Z5 .lss A (.int .i64 0))) fun B=>
 Z0 (Z8 j true (.tuple []) (some B)) fun g=>
 Z0 (Z8 g false (.tuple []) (some x1)) fun C=>
 Z0 (Z8 g false (.tuple []) (some x0)) fun D=>
 Z0 (Z8 g false (.tuple []) (some x5)) fun E=>
 Z0 (Z8 g false (.tuple []) (Zn 1 D E)) fun F=>
 Z0 (Z8 g false (.tuple []) (Z3 false 1 F H)) fun I=>
 Z0 (Z8 g false (.tuple []) (Zn 1 I (.int .i64 0))) fun J=>
 Z0 (Z8 g false (.tuple []) (Z3 false 1 J H)) fun K=>
 Z0 (Z8 g false (.tuple []) (some w)) fun L=>
 Z0 (Z8 g false (.tuple []) (Zn 1 L (.int .i64 0))) fun M=>
 Z0 (Z8 g false (.tuple []) (Z3 false 1 M H)) fun N=>
 Z0 (Z8 g false ((.tuple []),H) (Yd cfg (Z9 cfg) C [K,N] H)) fun u=>
 Z0 (Z8 j true (.tuple []) (Zj g (.bool true) u.1)) fun O=>
 Z0 (Zj j O (.bool false)) fun Q=>
 Zk Q
 (Jr x0 x1 x10 x8 x9 x10 H0 u.2)
 (Jr x0 x1 x5 x8 x9 x10 H0 u.2):=Za [4,7,8]
theorem TN:Jt x0 x1 x5 x8 x9 x10 H0 H =
 Z0 (Z5 .lss x10 x9) fun g=>
 Zk g
 (Sj x0 x1 x5 x8 x9 x10 g H0 H)
 (Si x5 H0 H):=(ZD (C:=cfg) [4,7,8] (Zm 0 (IN H0)) _ _).trans (by kernel_rfl)
theorem Zcl:Kf [p0,p1] H=Cx p0 p1 H:=Be 38 [4,7,8] Tryz.func63
def MK:Z4:=
 Z0 (Z3 true 6 p2 H) fun u=>
 Z0 (Z3 true 5 p3 H) fun w=>
 Z0 (Ze XA [u,w,p0,p1] H) fun g=>
 Z0 (Z5 .eql g.1 (.int .i64 0)) fun j=>
 some (j,g.2)
theorem Oj:MH [p0,p1,p2,p3] H=MK p0 p1 p2 p3 H:=Be 13 [] Tryz.func64
end
end Go.Am
