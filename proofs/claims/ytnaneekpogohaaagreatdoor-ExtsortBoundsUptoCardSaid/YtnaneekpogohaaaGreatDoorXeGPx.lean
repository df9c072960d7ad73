/- The functions of the translation over the abstract machine -/
import Derived.Test.YtnaneekpogohaaaGreatDoorXeGx
namespace Go.Am
open Go.Proofs
set_option maxRecDepth 100000
noncomputable abbrev Hf (f n:Nat):=Yc cfg (Z9 cfg) (Y7 cfg (cfg.keep f) n) (cfg.keep f) n Zc Z7
noncomputable abbrev ZuJ (f n:Nat):=Y7 cfg (cfg.keep f) n
noncomputable section
abbrev ZoU (f n:Nat)(F:Func)(p:List Nat):KL->AL->Hp->Z4:=fun k g H=>Hf f n (sub (Z1 F) p) k (ZW (cfg.keep f) (sub (Z1 F) p) g) H
abbrev Zik (f n:Nat)(F:Func)(p:List Nat):KL->AL->Hp->Z4:=fun k g H=>ZuJ f n (sub (Z1 F) p) k (ZW (cfg.keep f) (sub (Z1 F) p) g) H
variable (p0 p1 x1 x5 x6 x7 x8 x11 x12 x13 x14 x15 x16 x17 x18:AV)(H0 H:Hp)
def NS:Z4:=Hf 27 61 (sub (Z1 Tryz.f27) [1,1,1,1,1,1]) (Zh cfg 61 27 Tryz.f27 H0) [(6,x6)] H
def Zao:Z4:=Hf 27 61 (sub (Z1 Tryz.f27) [1,1,1,1,1]) (Zh cfg 61 27 Tryz.f27 H0) [(5,x5),(6,x6),(7,x7)] H
def JL:KL:=Zc (ZoU 27 61 Tryz.f27 [1,1,1,1,1]) (Zh cfg 61 27 Tryz.f27 H0)
theorem Zdh:ZX 61 (JL H0):=Zx (C:=cfg) (kp:=cfg.keep 27) (sub (Z1 Tryz.f27) [1,1,1,1,1]) (ZA 27 Tryz.f27 H0)
def Zaq:Z4:=Hf 27 61 (sub (Z1 Tryz.f27) [1,1,1,1,0,1,0,0,1,1,1]) (Zc (Zik 27 61 Tryz.f27 [1,1,1,1,0,1,0,0]) (Z7 0 (JL H0))) [(1,x1),(5,x5),(6,x6),(7,x7),(8,x8),(15,x15),(16,x16),(17,x17)] H
def Zkm:KL:=Zc (ZoU 27 61 Tryz.f27 [1,1,1,1,0,1,0,0,1,1,1]) (Zc (Zik 27 61 Tryz.f27 [1,1,1,1,0,1,0,0]) (Z7 0 (JL H0)))
def NT:Z4:=Hf 27 61 (sub (Z1 Tryz.f27) [1,1,1,1,0,1,0,0,1,1,0,0,1,1,1]) (Z7 1 (Zkm H0)) [(1,x1),(5,x5),(6,x6),(7,x7),(8,x8),(11,x11),(15,x15),(16,x16),(17,x17)] H
def Zap:Z4:=Hf 27 61 (sub (Z1 Tryz.f27) [1,1,1,1,0,1,0,0,1,1]) (Zc (Zik 27 61 Tryz.f27 [1,1,1,1,0,1,0,0]) (Z7 0 (JL H0))) [(1,x1),(5,x5),(6,x6),(7,x7),(8,x8),(15,x15),(16,x16),(17,x17),(18,x18)] H
def DQ:Z4:=ZuJ 27 61 (sub (Z1 Tryz.f27) [1,1,1,1,0,1,0,0]) (Z7 0 (JL H0)) [(1,x1),(5,x5),(6,x6),(7,x7),(8,x8),(15,x15),(16,x16),(17,x17)] H
def Zbv:Z4:=
 Z0 (Zf Yj [p0] H) fun g=>
 Z0 (Zl (.slice 9) g.1) fun j=>
 DQ p1 g.1 .nils (.int .i64 0) (.int .i64 0) g.1 j (.int .i64 0) H g.2
theorem ZfM:NS x6 H0 H =
 some (x6,H):=Za [6,11,12,13,16]
theorem ZfL:Zao x5 x6 x7 H0 H =
 Z0 (Zl (.slice 9) x5) fun g=>
 Z0 (Z5 .gtr g (.int .i64 0)) fun u=>
 Zk u
 (Z0 (Yo 1 x5 (some x7) (some g) (some g)) fun w=>
 Z0 ((ZE 1 [(0,w)] [.nils]).map (.vs 1 .clip)) fun y=>
 Z0 (QE false 1 24 x6 y H) fun j=>
 NS j.1 H0 j.2)
 (NS x6 H0 H):=Za [6,11,12,13,16]
theorem DW:Zaq x1 x5 x6 x7 x8 x15 x16 x17 H0 H =
 Z0 (Z5 .add x17 (.int .i64 1)) fun g=>
 DQ x1 x5 x6 x7 x8 x15 x16 g H0 H:=Za [6,11,12,13,16]
theorem DX:NT x1 x5 x6 x7 x8 x11 x15 x16 x17 H0 H =
 Z0 (Z5 .add x8 x11) fun g=>
 Zaq x1 x5 x6 x7 g x15 x16 x17 H0 H:=Za [6,11,12,13,16]
theorem ZfN:Zap x1 x5 x6 x7 x8 x15 x16 x17 x18 H0 H =
 Z0 (Zp 1 x15 x17) fun w=>
 Z0 (Z3 false 1 w H) fun y=>
 Z0 (Zl .string y) fun z=>
 Z0 (Z5 .add z (.int .i64 16)) fun j=>
 Z0 (Z5 .gtr x17 x7) fun g=>
 Z0 (Z8 g true (.tuple []) (some x8)) fun A=>
 Z0 (Z8 g true (.tuple []) (some j)) fun B=>
 Z0 (Z8 g true (.tuple []) (Z5 .add A B)) fun C=>
 Z0 (Z8 g true (.tuple []) (some x1)) fun D=>
 Z0 (Z8 g true (.tuple []) (Z5 .gtr C D)) fun E=>
 Z0 (Zj g E (.bool false)) fun F=>
 Zk F
 (Z0 (Yo 1 x5 (some x7) (some x17) (some x17)) fun I=>
 Z0 ((ZE 1 [(0,I)] [.nils]).map (.vs 1 .clip)) fun J=>
 Z0 (QE false 1 24 x6 J H) fun u=>
 NT x1 x5 u.1 x17 (.int .i64 0) j x15 x16 x17 H0 u.2)
 (NT x1 x5 x6 x7 x8 j x15 x16 x17 H0 H):=Za [6,11,12,13,16]
theorem EC:DQ x1 x5 x6 x7 x8 x15 x16 x17 H0 H =
 Z0 (Z5 .lss x17 x16) fun g=>
 Zk g
 (Zap x1 x5 x6 x7 x8 x15 x16 x17 g H0 H)
 (Zao x5 x6 x7 H0 H):=(ZD (C:=cfg) [6,11,12,13,16] (Zm 0 (Zdh H0)) _ _).trans (by kernel_rfl)
theorem Zg9:Ls [p0,p1] H=Zbv p0 p1 H:=Be 61 [6,11,12,13,16] Tryz.func27
def Zaj:Z4:=Hf 77 38 (sub (Z1 Tryz.f77) [1,1,1,1]) (Zh cfg 38 77 Tryz.f77 H0) [(5,x5)] H
def JJ:KL:=Zc (ZoU 77 38 Tryz.f77 [1,1,1,1]) (Zh cfg 38 77 Tryz.f77 H0)
theorem Zdd:ZX 38 (JJ H0):=Zx (C:=cfg) (kp:=cfg.keep 77) (sub (Z1 Tryz.f77) [1,1,1,1]) (ZA 77 Tryz.f77 H0)
def Zal:Z4:=Hf 77 38 (sub (Z1 Tryz.f77) [1,1,1,0,1,0,0,1,1,1]) (Zc (Zik 77 38 Tryz.f77 [1,1,1,0,1,0,0]) (Z7 0 (JJ H0))) [(1,x1),(5,x5),(12,x12),(13,x13)] H
def Zkj:KL:=Zc (ZoU 77 38 Tryz.f77 [1,1,1,0,1,0,0,1,1,1]) (Zc (Zik 77 38 Tryz.f77 [1,1,1,0,1,0,0]) (Z7 0 (JJ H0)))
def DM:Z4:=Hf 77 38 (sub (Z1 Tryz.f77) [1,1,1,0,1,0,0,1,1,0,0,1,1]) (Z7 1 (Zkj H0)) [(1,x1),(5,x5),(6,x6),(12,x12),(13,x13)] H
def Zak:Z4:=Hf 77 38 (sub (Z1 Tryz.f77) [1,1,1,0,1,0,0,1,1]) (Zc (Zik 77 38 Tryz.f77 [1,1,1,0,1,0,0]) (Z7 0 (JJ H0))) [(1,x1),(5,x5),(12,x12),(13,x13),(14,x14)] H
def DN:Z4:=ZuJ 77 38 (sub (Z1 Tryz.f77) [1,1,1,0,1,0,0]) (Z7 0 (JJ H0)) [(1,x1),(5,x5),(12,x12),(13,x13)] H
def Zbt:Z4:=
 Z0 (Ql p1 (.int .i64 2)) fun t9=>
 Z0 (UJ t9 (.int .i64 32)) fun g=>
 Z0 (Ql p0 (.int .i64 0)) fun j=>
 DN g .nils j (.int .i64 0) H H
theorem Zfz:Zaj x5 H0 H =
 some (x5,H):=Za [5,8,10,11]
theorem ZfB:Zal x1 x5 x12 x13 H0 H =
 Z0 (Z5 .add x13 (.int .i64 1)) fun g=>
 DN x1 x5 x12 g H0 H:=Za [5,8,10,11]
theorem ZfC:DM x1 x5 x6 x12 x13 H0 H =
 Z0 (Zl (.slice 38) x5) fun w=>
 Z0 (Z5 .sub w (.int .i64 1)) fun u=>
 Z0 (Zp 1 x5 u) fun y=>
 Z0 (Z3 false 1 y H) fun z=>
 Z0 ((ZE 1 [(0,x6)] [(.int .i64 0)]).map (.vs 1 .clip)) fun A=>
 Z0 (Ym 1 8 z A H) fun g=>
 Z0 (Zp 1 x5 u) fun B=>
 Z0 (Ze 1 B g.1 g.2) fun j=>
 Zal x1 x5 x12 x13 H0 j.2:=Za [5,8,10,11]
theorem ZfA:Zak x1 x5 x12 x13 x14 H0 H =
 Z0 (Z5 .rem x13 x1) fun j=>
 Z0 (Z5 .eql j (.int .i64 0)) fun u=>
 Zk u
 (Z0 ((ZE 1 [(0,.nils)] [.nils]).map (.vs 1 .clip)) fun w=>
 Z0 (QE false 1 24 x5 w H) fun g=>
 DM x1 g.1 x13 x12 x13 H0 g.2)
 (DM x1 x5 x13 x12 x13 H0 H):=Za [5,8,10,11]
theorem Eu:DN x1 x5 x12 x13 H0 H =
 Z0 (Z5 .lss x13 x12) fun g=>
 Zk g
 (Zak x1 x5 x12 x13 g H0 H)
 (Zaj x5 H0 H):=(ZD (C:=cfg) [5,8,10,11] (Zm 0 (Zdd H0)) _ _).trans (by kernel_rfl)
theorem Zg7:Lq [p0,p1] H=Zbt p0 p1 H:=Be 38 [5,8,10,11] Tryz.func77
end
end Go.Am
