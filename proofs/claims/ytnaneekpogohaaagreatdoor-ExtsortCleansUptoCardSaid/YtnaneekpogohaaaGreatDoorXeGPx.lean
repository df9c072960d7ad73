/- The functions of the translation over the abstract machine -/
import Derived.Test.YtnaneekpogohaaaGreatDoorXeGx
open Go.Am.AV renaming int->zA
open Go.IntKind renaming i64->J
namespace Go.Am
open Go.Proofs
set_option maxRecDepth 100000
noncomputable abbrev H9 (f n:Nat):=Yl cfg (Za cfg) (Y4 cfg (cfg.keep f) n) (cfg.keep f) n Zc Z6
noncomputable abbrev Ztj (f n:Nat):=Y4 cfg (cfg.keep f) n
noncomputable section
abbrev Zom (f n:Nat)(F:Func)(p:List Nat):KL->AL->Hp->Z4:=fun k g H=>H9 f n (sub (Z1 F) p) k (Y3 (cfg.keep f) (sub (Z1 F) p) g) H
abbrev Zii (f n:Nat)(F:Func)(p:List Nat):KL->AL->Hp->Z4:=fun k g H=>Ztj f n (sub (Z1 F) p) k (Y3 (cfg.keep f) (sub (Z1 F) p) g) H
variable (p0 p1 x1 x5 x6 x7 x8 x11 x12 x13 x14 x15 x16 x17 x18:AV)(H0 H:Hp)
abbrev bj:List Nat:=[6,11,12,13,16]
def NY:Z4:=H9 27 61 (sub (Z1 Tryz.f27) [1,1,1,1,1,1]) (Zg cfg 61 27 Tryz.f27 H0) [(6,x6)] H
def Zas:Z4:=H9 27 61 (sub (Z1 Tryz.f27) [1,1,1,1,1]) (Zg cfg 61 27 Tryz.f27 H0) [(5,x5),(6,x6),(7,x7)] H
def Kh:KL:=Zc (Zom 27 61 Tryz.f27 [1,1,1,1,1]) (Zg cfg 61 27 Tryz.f27 H0)
theorem Zdh:ZR 61 (Kh H0):=Zw (C:=cfg) (kp:=cfg.keep 27) (sub (Z1 Tryz.f27) [1,1,1,1,1]) (ZB 27 Tryz.f27 H0)
def Zau:Z4:=H9 27 61 (sub (Z1 Tryz.f27) [1,1,1,1,0,1,0,0,1,1,1]) (Zc (Zii 27 61 Tryz.f27 [1,1,1,1,0,1,0,0]) (Z6 0 (Kh H0))) [(1,x1),(5,x5),(6,x6),(7,x7),(8,x8),(15,x15),(16,x16),(17,x17)] H
def Zki:KL:=Zc (Zom 27 61 Tryz.f27 [1,1,1,1,0,1,0,0,1,1,1]) (Zc (Zii 27 61 Tryz.f27 [1,1,1,1,0,1,0,0]) (Z6 0 (Kh H0)))
def NZ:Z4:=H9 27 61 (sub (Z1 Tryz.f27) [1,1,1,1,0,1,0,0,1,1,0,0,1,1,1]) (Z6 1 (Zki H0)) [(1,x1),(5,x5),(6,x6),(7,x7),(8,x8),(11,x11),(15,x15),(16,x16),(17,x17)] H
def Zat:Z4:=H9 27 61 (sub (Z1 Tryz.f27) [1,1,1,1,0,1,0,0,1,1]) (Zc (Zii 27 61 Tryz.f27 [1,1,1,1,0,1,0,0]) (Z6 0 (Kh H0))) [(1,x1),(5,x5),(6,x6),(7,x7),(8,x8),(15,x15),(16,x16),(17,x17),(18,x18)] H
def F8:Z4:=Ztj 27 61 (sub (Z1 Tryz.f27) [1,1,1,1,0,1,0,0]) (Z6 0 (Kh H0)) [(1,x1),(5,x5),(6,x6),(7,x7),(8,x8),(15,x15),(16,x16),(17,x17)] H
def Zbw:Z4:=
 Z0 (Zf Yk [p0] H) fun g=>
 Z0 (Zk (.slice 9) g.1) fun h=>
 F8 p1 g.1 .nils (zA J 0) (zA J 0) g.1 h (zA J 0) H g.2
theorem ZfV:NY x6 H0 H =
 some (x6,H):=Z9 bj
theorem ZfU:Zas x5 x6 x7 H0 H =
 Z0 (Zk (.slice 9) x5) fun g=>
 Z0 (Z5 .gtr g (zA J 0)) fun j=>
 Zj j
 (Z0 (Yx 1 x5 (some x7) (some g) (some g)) fun u=>
 Z0 ((ZA 1 [(0,u)] [.nils]).map (.vs 1 .clip)) fun w=>
 Z0 (Gj false 1 24 x6 w H) fun h=>
 NY h.1 H0 h.2)
 (NY x6 H0 H):=Z9 bj
theorem Fe:Zau x1 x5 x6 x7 x8 x15 x16 x17 H0 H =
 Z0 (Z5 .add x17 (zA J 1)) fun g=>
 F8 x1 x5 x6 x7 x8 x15 x16 g H0 H:=Z9 bj
theorem Ff:NZ x1 x5 x6 x7 x8 x11 x15 x16 x17 H0 H =
 Z0 (Z5 .add x8 x11) fun g=>
 Zau x1 x5 x6 x7 g x15 x16 x17 H0 H:=Z9 bj
theorem ZfW:Zat x1 x5 x6 x7 x8 x15 x16 x17 x18 H0 H =
 Z0 (Zo 1 x15 x17) fun u=>
 Z0 (Z3 false 1 u H) fun w=>
 Z0 (Zk .string w) fun y=>
 Z0 (Z5 .add y (zA J 16)) fun h=>
 Z0 (Z5 .gtr x17 x7) fun g=>
 Z0 (Z8 g true ak (some x8)) fun z=>
 Z0 (Z8 g true ak (some h)) fun A=>
 Z0 (Z8 g true ak (Z5 .add z A)) fun B=>
 Z0 (Z8 g true ak (some x1)) fun C=>
 Z0 (Z8 g true ak (Z5 .gtr B C)) fun D=>
 Z0 (Zi g D (.bool false)) fun E=>
 Zj E
 (Z0 (Yx 1 x5 (some x7) (some x17) (some x17)) fun F=>
 Z0 ((ZA 1 [(0,F)] [.nils]).map (.vs 1 .clip)) fun K=>
 Z0 (Gj false 1 24 x6 K H) fun j=>
 NZ x1 x5 j.1 x17 (zA J 0) h x15 x16 x17 H0 j.2)
 (NZ x1 x5 x6 x7 x8 h x15 x16 x17 H0 H):=Z9 bj
theorem EA:F8 x1 x5 x6 x7 x8 x15 x16 x17 H0 H =
 Z0 (Z5 .lss x17 x16) fun g=>
 Zj g
 (Zat x1 x5 x6 x7 x8 x15 x16 x17 g H0 H)
 (Zas x5 x6 x7 H0 H):=(ZC (C:=cfg) [6,11,12,13,16] (Zn 0 (Zdh H0)) _ _).trans (by kernel_rfl)
theorem Zga:LC [p0,p1] H=Zbw p0 p1 H:=Be 61 [6,11,12,13,16] Tryz.func27
def Zao:Z4:=H9 77 38 (sub (Z1 Tryz.f77) [1,1,1,1]) (Zg cfg 38 77 Tryz.f77 H0) [(5,x5)] H
def Kf:KL:=Zc (Zom 77 38 Tryz.f77 [1,1,1,1]) (Zg cfg 38 77 Tryz.f77 H0)
theorem Zdd:ZR 38 (Kf H0):=Zw (C:=cfg) (kp:=cfg.keep 77) (sub (Z1 Tryz.f77) [1,1,1,1]) (ZB 77 Tryz.f77 H0)
def Zaq:Z4:=H9 77 38 (sub (Z1 Tryz.f77) [1,1,1,0,1,0,0,1,1,1]) (Zc (Zii 77 38 Tryz.f77 [1,1,1,0,1,0,0]) (Z6 0 (Kf H0))) [(1,x1),(5,x5),(12,x12),(13,x13)] H
def Zkd:KL:=Zc (Zom 77 38 Tryz.f77 [1,1,1,0,1,0,0,1,1,1]) (Zc (Zii 77 38 Tryz.f77 [1,1,1,0,1,0,0]) (Z6 0 (Kf H0)))
def F4:Z4:=H9 77 38 (sub (Z1 Tryz.f77) [1,1,1,0,1,0,0,1,1,0,0,1,1]) (Z6 1 (Zkd H0)) [(1,x1),(5,x5),(6,x6),(12,x12),(13,x13)] H
def Zap:Z4:=H9 77 38 (sub (Z1 Tryz.f77) [1,1,1,0,1,0,0,1,1]) (Zc (Zii 77 38 Tryz.f77 [1,1,1,0,1,0,0]) (Z6 0 (Kf H0))) [(1,x1),(5,x5),(12,x12),(13,x13),(14,x14)] H
def F5:Z4:=Ztj 77 38 (sub (Z1 Tryz.f77) [1,1,1,0,1,0,0]) (Z6 0 (Kf H0)) [(1,x1),(5,x5),(12,x12),(13,x13)] H
def Zbu:Z4:=
 Z0 (KN p1 (zA J 2)) fun t9=>
 Z0 (UY t9 (zA J 32)) fun g=>
 Z0 (KN p0 (zA J 0)) fun h=>
 F5 g .nils h (zA J 0) H H
theorem ZfL:Zao x5 H0 H =
 some (x5,H):=Z9 [5,8,10,11]
theorem ZfN:Zaq x1 x5 x12 x13 H0 H =
 Z0 (Z5 .add x13 (zA J 1)) fun g=>
 F5 x1 x5 x12 g H0 H:=Z9 [5,8,10,11]
theorem ZfO:F4 x1 x5 x6 x12 x13 H0 H =
 Z0 (Zk (.slice 38) x5) fun u=>
 Z0 (Z5 .sub u (zA J 1)) fun j=>
 Z0 (Zo 1 x5 j) fun w=>
 Z0 (Z3 false 1 w H) fun y=>
 Z0 ((ZA 1 [(0,x6)] [(zA J 0)]).map (.vs 1 .clip)) fun z=>
 Z0 (Y7 1 8 y z H) fun g=>
 Z0 (Zo 1 x5 j) fun A=>
 Z0 (Zb 1 A g.1 g.2) fun h=>
 Zaq x1 x5 x12 x13 H0 h.2:=Z9 [5,8,10,11]
theorem ZfM:Zap x1 x5 x12 x13 x14 H0 H =
 Z0 (Z5 .rem x13 x1) fun h=>
 Z0 (Z5 .eql h (zA J 0)) fun j=>
 Zj j
 (Z0 ((ZA 1 [(0,.nils)] [.nils]).map (.vs 1 .clip)) fun u=>
 Z0 (Gj false 1 24 x5 u H) fun g=>
 F4 x1 g.1 x13 x12 x13 H0 g.2)
 (F4 x1 x5 x13 x12 x13 H0 H):=Z9 [5,8,10,11]
theorem Es:F5 x1 x5 x12 x13 H0 H =
 Z0 (Z5 .lss x13 x12) fun g=>
 Zj g
 (Zap x1 x5 x12 x13 g H0 H)
 (Zao x5 H0 H):=(ZC (C:=cfg) [5,8,10,11] (Zn 0 (Zdd H0)) _ _).trans (by kernel_rfl)
theorem Zg8:LA [p0,p1] H=Zbu p0 p1 H:=Be 38 [5,8,10,11] Tryz.func77
end
end Go.Am
