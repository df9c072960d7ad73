/- The functions of the translation over the abstract machine -/
import Derived.Test.YtnaneekpogohaaaGreatDoorXeGx
namespace Go.Am
open Go.Proofs
set_option maxRecDepth 100000
noncomputable abbrev HZ (f n:Nat):=Y6 cfg (Z9 cfg) (ZZ cfg (cfg.keep f) n) (cfg.keep f) n Zc Z6
noncomputable abbrev ZuY (f n:Nat):=ZZ cfg (cfg.keep f) n
noncomputable section
abbrev Zpp (f n:Nat)(F:Func)(p:List Nat):KL->AL->Hp->Z4:=fun k g H=>HZ f n (sub (Z1 F) p) k (ZS (cfg.keep f) (sub (Z1 F) p) g) H
abbrev Zj7 (f n:Nat)(F:Func)(p:List Nat):KL->AL->Hp->Z4:=fun k g H=>ZuY f n (sub (Z1 F) p) k (ZS (cfg.keep f) (sub (Z1 F) p) g) H
variable (p0 p1 x1 x5 x6 x7 x8 x11 x12 x13 x14 x15 x16 x17 x18:AV)(H0 H:Hp)
def Mu:Z4:=HZ 27 61 (sub (Z1 Tryz.f27) [1,1,1,1,1,1]) (Zi cfg 61 27 Tryz.f27 H0) [(6,x6)] H
def Zb8:Z4:=HZ 27 61 (sub (Z1 Tryz.f27) [1,1,1,1,1]) (Zi cfg 61 27 Tryz.f27 H0) [(5,x5),(6,x6),(7,x7)] H
def JV:KL:=Zc (Zpp 27 61 Tryz.f27 [1,1,1,1,1]) (Zi cfg 61 27 Tryz.f27 H0)
theorem Ze5:ZU 61 (JV H0):=Zx (C:=cfg) (kp:=cfg.keep 27) (sub (Z1 Tryz.f27) [1,1,1,1,1]) (ZB 27 Tryz.f27 H0)
def Zba:Z4:=HZ 27 61 (sub (Z1 Tryz.f27) [1,1,1,1,0,1,0,0,1,1,1]) (Zc (Zj7 27 61 Tryz.f27 [1,1,1,1,0,1,0,0]) (Z6 0 (JV H0))) [(1,x1),(5,x5),(6,x6),(7,x7),(8,x8),(15,x15),(16,x16),(17,x17)] H
def Zl8:KL:=Zc (Zpp 27 61 Tryz.f27 [1,1,1,1,0,1,0,0,1,1,1]) (Zc (Zj7 27 61 Tryz.f27 [1,1,1,1,0,1,0,0]) (Z6 0 (JV H0)))
def Mv:Z4:=HZ 27 61 (sub (Z1 Tryz.f27) [1,1,1,1,0,1,0,0,1,1,0,0,1,1,1]) (Z6 1 (Zl8 H0)) [(1,x1),(5,x5),(6,x6),(7,x7),(8,x8),(11,x11),(15,x15),(16,x16),(17,x17)] H
def Zb9:Z4:=HZ 27 61 (sub (Z1 Tryz.f27) [1,1,1,1,0,1,0,0,1,1]) (Zc (Zj7 27 61 Tryz.f27 [1,1,1,1,0,1,0,0]) (Z6 0 (JV H0))) [(1,x1),(5,x5),(6,x6),(7,x7),(8,x8),(15,x15),(16,x16),(17,x17),(18,x18)] H
def F7:Z4:=ZuY 27 61 (sub (Z1 Tryz.f27) [1,1,1,1,0,1,0,0]) (Z6 0 (JV H0)) [(1,x1),(5,x5),(6,x6),(7,x7),(8,x8),(15,x15),(16,x16),(17,x17)] H
def Zco:Z4:=
 Z0 (Ze Yi [p0] H) fun g=>
 Z0 (Zl (.slice 9) g.1) fun j=>
 F7 p1 g.1 .nils (.int .i64 0) (.int .i64 0) g.1 j (.int .i64 0) H g.2
theorem ZgD:Mu x6 H0 H =
 some (x6,H):=Za [6,11,12,13,16]
theorem ZgC:Zb8 x5 x6 x7 H0 H =
 Z0 (Zl (.slice 9) x5) fun g=>
 Z0 (Z5 .gtr g (.int .i64 0)) fun u=>
 Zk u
 (Z0 (Yk 1 x5 (some x7) (some g) (some g)) fun w=>
 Z0 ((ZA 1 [(0,w)] [.nils]).map (.vs 1 .clip)) fun y=>
 Z0 (Wk false 1 24 x6 y H) fun j=>
 Mu j.1 H0 j.2)
 (Mu x6 H0 H):=Za [6,11,12,13,16]
theorem Ff:Zba x1 x5 x6 x7 x8 x15 x16 x17 H0 H =
 Z0 (Z5 .add x17 (.int .i64 1)) fun g=>
 F7 x1 x5 x6 x7 x8 x15 x16 g H0 H:=Za [6,11,12,13,16]
theorem Fh:Mv x1 x5 x6 x7 x8 x11 x15 x16 x17 H0 H =
 Z0 (Z5 .add x8 x11) fun g=>
 Zba x1 x5 x6 x7 g x15 x16 x17 H0 H:=Za [6,11,12,13,16]
theorem ZgE:Zb9 x1 x5 x6 x7 x8 x15 x16 x17 x18 H0 H =
 Z0 (Zn 1 x15 x17) fun w=>
 Z0 (Z3 false 1 w H) fun y=>
 Z0 (Zl .string y) fun z=>
 Z0 (Z5 .add z (.int .i64 16)) fun j=>
 Z0 (Z5 .gtr x17 x7) fun g=>
 Z0 (Z8 g true (.tuple []) (some x8)) fun A=>
 Z0 (Z8 g true (.tuple []) (some j)) fun B=>
 Z0 (Z8 g true (.tuple []) (Z5 .add A B)) fun C=>
 Z0 (Z8 g true (.tuple []) (some x1)) fun D=>
 Z0 (Z8 g true (.tuple []) (Z5 .gtr C D)) fun E=>
 Z0 (Zj g E (.bool false)) fun F=>
 Zk F
 (Z0 (Yk 1 x5 (some x7) (some x17) (some x17)) fun I=>
 Z0 ((ZA 1 [(0,I)] [.nils]).map (.vs 1 .clip)) fun J=>
 Z0 (Wk false 1 24 x6 J H) fun u=>
 Mv x1 x5 u.1 x17 (.int .i64 0) j x15 x16 x17 H0 u.2)
 (Mv x1 x5 x6 x7 x8 j x15 x16 x17 H0 H):=Za [6,11,12,13,16]
theorem Sv:F7 x1 x5 x6 x7 x8 x15 x16 x17 H0 H =
 Z0 (Z5 .lss x17 x16) fun g=>
 Zk g
 (Zb9 x1 x5 x6 x7 x8 x15 x16 x17 g H0 H)
 (Zb8 x5 x6 x7 H0 H):=(ZD (C:=cfg) [6,11,12,13,16] (Zm 0 (Ze5 H0)) _ _).trans (by kernel_rfl)
theorem Zh1:Rh [p0,p1] H=Zco p0 p1 H:=Be 61 [6,11,12,13,16] Tryz.func27
def Zb4:Z4:=HZ 77 38 (sub (Z1 Tryz.f77) [1,1,1,1]) (Zi cfg 38 77 Tryz.f77 H0) [(5,x5)] H
def JT:KL:=Zc (Zpp 77 38 Tryz.f77 [1,1,1,1]) (Zi cfg 38 77 Tryz.f77 H0)
theorem Ze0:ZU 38 (JT H0):=Zx (C:=cfg) (kp:=cfg.keep 77) (sub (Z1 Tryz.f77) [1,1,1,1]) (ZB 77 Tryz.f77 H0)
def Zb6:Z4:=HZ 77 38 (sub (Z1 Tryz.f77) [1,1,1,0,1,0,0,1,1,1]) (Zc (Zj7 77 38 Tryz.f77 [1,1,1,0,1,0,0]) (Z6 0 (JT H0))) [(1,x1),(5,x5),(12,x12),(13,x13)] H
def Zl5:KL:=Zc (Zpp 77 38 Tryz.f77 [1,1,1,0,1,0,0,1,1,1]) (Zc (Zj7 77 38 Tryz.f77 [1,1,1,0,1,0,0]) (Z6 0 (JT H0)))
def F3:Z4:=HZ 77 38 (sub (Z1 Tryz.f77) [1,1,1,0,1,0,0,1,1,0,0,1,1]) (Z6 1 (Zl5 H0)) [(1,x1),(5,x5),(6,x6),(12,x12),(13,x13)] H
def Zb5:Z4:=HZ 77 38 (sub (Z1 Tryz.f77) [1,1,1,0,1,0,0,1,1]) (Zc (Zj7 77 38 Tryz.f77 [1,1,1,0,1,0,0]) (Z6 0 (JT H0))) [(1,x1),(5,x5),(12,x12),(13,x13),(14,x14)] H
def F4:Z4:=ZuY 77 38 (sub (Z1 Tryz.f77) [1,1,1,0,1,0,0]) (Z6 0 (JT H0)) [(1,x1),(5,x5),(12,x12),(13,x13)] H
def Zcm:Z4:=
 Z0 (Ki p1 (.int .i64 2)) fun t9=>
 Z0 (UU t9 (.int .i64 32)) fun g=>
 Z0 (Ki p0 (.int .i64 0)) fun j=>
 F4 g .nils j (.int .i64 0) H H
theorem Zgp:Zb4 x5 H0 H =
 some (x5,H):=Za [5,8,10,11]
theorem Zgr:Zb6 x1 x5 x12 x13 H0 H =
 Z0 (Z5 .add x13 (.int .i64 1)) fun g=>
 F4 x1 x5 x12 g H0 H:=Za [5,8,10,11]
theorem Zgs:F3 x1 x5 x6 x12 x13 H0 H =
 Z0 (Zl (.slice 38) x5) fun w=>
 Z0 (Z5 .sub w (.int .i64 1)) fun u=>
 Z0 (Zn 1 x5 u) fun y=>
 Z0 (Z3 false 1 y H) fun z=>
 Z0 ((ZA 1 [(0,x6)] [(.int .i64 0)]).map (.vs 1 .clip)) fun A=>
 Z0 (Ym 1 8 z A H) fun g=>
 Z0 (Zn 1 x5 u) fun B=>
 Z0 (Zf 1 B g.1 g.2) fun j=>
 Zb6 x1 x5 x12 x13 H0 j.2:=Za [5,8,10,11]
theorem Zgq:Zb5 x1 x5 x12 x13 x14 H0 H =
 Z0 (Z5 .rem x13 x1) fun j=>
 Z0 (Z5 .eql j (.int .i64 0)) fun u=>
 Zk u
 (Z0 ((ZA 1 [(0,.nils)] [.nils]).map (.vs 1 .clip)) fun w=>
 Z0 (Wk false 1 24 x5 w H) fun g=>
 F3 x1 g.1 x13 x12 x13 H0 g.2)
 (F3 x1 x5 x13 x12 x13 H0 H):=Za [5,8,10,11]
theorem Sk:F4 x1 x5 x12 x13 H0 H =
 Z0 (Z5 .lss x13 x12) fun g=>
 Zk g
 (Zb5 x1 x5 x12 x13 g H0 H)
 (Zb4 x5 H0 H):=(ZD (C:=cfg) [5,8,10,11] (Zm 0 (Ze0 H0)) _ _).trans (by kernel_rfl)
theorem ZgZ:E4 [p0,p1] H=Zcm p0 p1 H:=Be 38 [5,8,10,11] Tryz.func77
end
end Go.Am
