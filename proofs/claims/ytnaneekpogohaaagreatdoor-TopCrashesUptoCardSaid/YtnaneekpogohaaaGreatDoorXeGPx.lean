/- The functions of the translation over the abstract machine -/
import Derived.Test.YtnaneekpogohaaaGreatDoorXeGx
open Go.Am.AV renaming int->J
open Go.IntKind renaming i64->zA
namespace Go.Am
open Go.Proofs
set_option maxRecDepth 100000
noncomputable abbrev AO (f n:Nat):=Yn cfg (Zb cfg) (Y5 cfg (cfg.keep f) n) (cfg.keep f) n Zc Z7
noncomputable abbrev Zun (f n:Nat):=Y5 cfg (cfg.keep f) n
noncomputable section
abbrev Zpq (f n:Nat)(F:Func)(p:List Nat):KL->AL->Hp->Z4:=fun k g H=>AO f n (sub (Z1 F) p) k (Y3 (cfg.keep f) (sub (Z1 F) p) g) H
abbrev Zji (f n:Nat)(F:Func)(p:List Nat):KL->AL->Hp->Z4:=fun k g H=>Zun f n (sub (Z1 F) p) k (Y3 (cfg.keep f) (sub (Z1 F) p) g) H
variable (p0 p1 x1 x5 x6 x7 x8 x11 x12 x13 x14 x15 x16 x17 x18:AV)(H0 H:Hp)
abbrev bu (F:Func):=sub (Z1 F)
abbrev bw:List Nat:=[6,11,12,13,16]
def L3:Z4:=AO 27 61 (bu Tryz.f27 [1,1,1,1,1,1]) (Zf cfg 61 27 Tryz.f27 H0) [(6,x6)] H
def ZbT:Z4:=AO 27 61 (bu Tryz.f27 [1,1,1,1,1]) (Zf cfg 61 27 Tryz.f27 H0) [(5,x5),(6,x6),(7,x7)] H
def KW:KL:=Zc (Zpq 27 61 Tryz.f27 [1,1,1,1,1]) (Zf cfg 61 27 Tryz.f27 H0)
theorem Zew:ZS 61 (KW H0):=Zw (C:=cfg) (kp:=cfg.keep 27) (bu Tryz.f27 [1,1,1,1,1]) (Zy 27 Tryz.f27 H0)
def ZbV:Z4:=AO 27 61 (bu Tryz.f27 [1,1,1,1,0,1,0,0,1,1,1]) (Zc (Zji 27 61 Tryz.f27 [1,1,1,1,0,1,0,0]) (Z7 0 (KW H0))) [(1,x1),(5,x5),(6,x6),(7,x7),(8,x8),(15,x15),(16,x16),(17,x17)] H
def Zlm:KL:=Zc (Zpq 27 61 Tryz.f27 [1,1,1,1,0,1,0,0,1,1,1]) (Zc (Zji 27 61 Tryz.f27 [1,1,1,1,0,1,0,0]) (Z7 0 (KW H0)))
def L4:Z4:=AO 27 61 (bu Tryz.f27 [1,1,1,1,0,1,0,0,1,1,0,0,1,1,1]) (Z7 1 (Zlm H0)) [(1,x1),(5,x5),(6,x6),(7,x7),(8,x8),(11,x11),(15,x15),(16,x16),(17,x17)] H
def ZbU:Z4:=AO 27 61 (bu Tryz.f27 [1,1,1,1,0,1,0,0,1,1]) (Zc (Zji 27 61 Tryz.f27 [1,1,1,1,0,1,0,0]) (Z7 0 (KW H0))) [(1,x1),(5,x5),(6,x6),(7,x7),(8,x8),(15,x15),(16,x16),(17,x17),(18,x18)] H
def FW:Z4:=Zun 27 61 (bu Tryz.f27 [1,1,1,1,0,1,0,0]) (Z7 0 (KW H0)) [(1,x1),(5,x5),(6,x6),(7,x7),(8,x8),(15,x15),(16,x16),(17,x17)] H
def ZcW:Z4:=
 Z0 (Zh Ym [p0] H) fun g=>
 Z0 (Zk (.slice 9) g.1) fun h=>
 FW p1 g.1 .nils (J zA 0) (J zA 0) g.1 h (J zA 0) H g.2
theorem Zh7:L3 x6 H0 H =
 some (x6,H):=Z9 bw
theorem Zh6:ZbT x5 x6 x7 H0 H =
 Z0 (Zk (.slice 9) x5) fun g=>
 Z0 (Z5 .gtr g (J zA 0)) fun j=>
 Zj j
 (Z0 (Yg 1 x5 (some x7) (some g) (some g)) fun u=>
 Z0 ((ZB 1 [(0,u)] [.nils]).map (.vs 1 .clip)) fun w=>
 Z0 (GV false 1 24 x6 w H) fun h=>
 L3 h.1 H0 h.2)
 (L3 x6 H0 H):=Z9 bw
theorem R3:ZbV x1 x5 x6 x7 x8 x15 x16 x17 H0 H =
 Z0 (Z5 .add x17 (J zA 1)) fun g=>
 FW x1 x5 x6 x7 x8 x15 x16 g H0 H:=Z9 bw
theorem R4:L4 x1 x5 x6 x7 x8 x11 x15 x16 x17 H0 H =
 Z0 (Z5 .add x8 x11) fun g=>
 ZbV x1 x5 x6 x7 g x15 x16 x17 H0 H:=Z9 bw
theorem Zh8:ZbU x1 x5 x6 x7 x8 x15 x16 x17 x18 H0 H =
 Z0 (Zo 1 x15 x17) fun u=>
 Z0 (Z3 false 1 u H) fun w=>
 Z0 (Zk .string w) fun y=>
 Z0 (Z5 .add y (J zA 16)) fun h=>
 Z0 (Z5 .gtr x17 x7) fun g=>
 Z0 (Z8 g true ap (some x8)) fun z=>
 Z0 (Z8 g true ap (some h)) fun A=>
 Z0 (Z8 g true ap (Z5 .add z A)) fun B=>
 Z0 (Z8 g true ap (some x1)) fun C=>
 Z0 (Z8 g true ap (Z5 .gtr B C)) fun D=>
 Z0 (Zi g D (.bool false)) fun E=>
 Zj E
 (Z0 (Yg 1 x5 (some x7) (some x17) (some x17)) fun F=>
 Z0 ((ZB 1 [(0,F)] [.nils]).map (.vs 1 .clip)) fun I=>
 Z0 (GV false 1 24 x6 I H) fun j=>
 L4 x1 x5 j.1 x17 (J zA 0) h x15 x16 x17 H0 j.2)
 (L4 x1 x5 x6 x7 x8 h x15 x16 x17 H0 H):=Z9 bw
theorem Cd:FW x1 x5 x6 x7 x8 x15 x16 x17 H0 H =
 Z0 (Z5 .lss x17 x16) fun g=>
 Zj g
 (ZbU x1 x5 x6 x7 x8 x15 x16 x17 g H0 H)
 (ZbT x5 x6 x7 H0 H):=(ZC (C:=cfg) [6,11,12,13,16] (Zn 0 (Zew H0)) _ _).trans (by kernel_rfl)
theorem Zhn:EW [p0,p1] H=ZcW p0 p1 H:=Be 61 [6,11,12,13,16] Tryz.func27
def ZbP:Z4:=AO 77 38 (bu Tryz.f77 [1,1,1,1]) (Zf cfg 38 77 Tryz.f77 H0) [(5,x5)] H
def KU:KL:=Zc (Zpq 77 38 Tryz.f77 [1,1,1,1]) (Zf cfg 38 77 Tryz.f77 H0)
theorem Zes:ZS 38 (KU H0):=Zw (C:=cfg) (kp:=cfg.keep 77) (bu Tryz.f77 [1,1,1,1]) (Zy 77 Tryz.f77 H0)
def ZbR:Z4:=AO 77 38 (bu Tryz.f77 [1,1,1,0,1,0,0,1,1,1]) (Zc (Zji 77 38 Tryz.f77 [1,1,1,0,1,0,0]) (Z7 0 (KU H0))) [(1,x1),(5,x5),(12,x12),(13,x13)] H
def Zlf:KL:=Zc (Zpq 77 38 Tryz.f77 [1,1,1,0,1,0,0,1,1,1]) (Zc (Zji 77 38 Tryz.f77 [1,1,1,0,1,0,0]) (Z7 0 (KU H0)))
def FS:Z4:=AO 77 38 (bu Tryz.f77 [1,1,1,0,1,0,0,1,1,0,0,1,1]) (Z7 1 (Zlf H0)) [(1,x1),(5,x5),(6,x6),(12,x12),(13,x13)] H
def ZbQ:Z4:=AO 77 38 (bu Tryz.f77 [1,1,1,0,1,0,0,1,1]) (Zc (Zji 77 38 Tryz.f77 [1,1,1,0,1,0,0]) (Z7 0 (KU H0))) [(1,x1),(5,x5),(12,x12),(13,x13),(14,x14)] H
def FT:Z4:=Zun 77 38 (bu Tryz.f77 [1,1,1,0,1,0,0]) (Z7 0 (KU H0)) [(1,x1),(5,x5),(12,x12),(13,x13)] H
def ZcU:Z4:=
 Z0 (Qr p1 (J zA 2)) fun t9=>
 Z0 (VN t9 (J zA 32)) fun g=>
 Z0 (Qr p0 (J zA 0)) fun h=>
 FT g .nils h (J zA 0) H H
theorem ZgX:ZbP x5 H0 H =
 some (x5,H):=Z9 [5,8,10,11]
theorem ZgZ:ZbR x1 x5 x12 x13 H0 H =
 Z0 (Z5 .add x13 (J zA 1)) fun g=>
 FT x1 x5 x12 g H0 H:=Z9 [5,8,10,11]
theorem Zh0:FS x1 x5 x6 x12 x13 H0 H =
 Z0 (Zk (.slice 38) x5) fun u=>
 Z0 (Z5 .sub u (J zA 1)) fun j=>
 Z0 (Zo 1 x5 j) fun w=>
 Z0 (Z3 false 1 w H) fun y=>
 Z0 ((ZB 1 [(0,x6)] [(J zA 0)]).map (.vs 1 .clip)) fun z=>
 Z0 (Y9 1 8 y z H) fun g=>
 Z0 (Zo 1 x5 j) fun A=>
 Z0 (Za 1 A g.1 g.2) fun h=>
 ZbR x1 x5 x12 x13 H0 h.2:=Z9 [5,8,10,11]
theorem ZgY:ZbQ x1 x5 x12 x13 x14 H0 H =
 Z0 (Z5 .rem x13 x1) fun h=>
 Z0 (Z5 .eql h (J zA 0)) fun j=>
 Zj j
 (Z0 ((ZB 1 [(0,.nils)] [.nils]).map (.vs 1 .clip)) fun u=>
 Z0 (GV false 1 24 x5 u H) fun g=>
 FS x1 g.1 x13 x12 x13 H0 g.2)
 (FS x1 x5 x13 x12 x13 H0 H):=Z9 [5,8,10,11]
theorem C5:FT x1 x5 x12 x13 H0 H =
 Z0 (Z5 .lss x13 x12) fun g=>
 Zj g
 (ZbQ x1 x5 x12 x13 g H0 H)
 (ZbP x5 H0 H):=(ZC (C:=cfg) [5,8,10,11] (Zn 0 (Zes H0)) _ _).trans (by kernel_rfl)
theorem Zhl:EU [p0,p1] H=ZcU p0 p1 H:=Be 38 [5,8,10,11] Tryz.func77
end
end Go.Am
