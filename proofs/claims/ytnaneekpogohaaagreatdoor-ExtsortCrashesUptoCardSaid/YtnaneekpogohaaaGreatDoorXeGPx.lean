/- The functions of the translation over the abstract machine -/
import Derived.Test.YtnaneekpogohaaaGreatDoorXeGx
open Go.Am.AV renaming int->J
open Go.IntKind renaming i64->zA
namespace Go.Am
open Go.Proofs
set_option maxRecDepth 100000
noncomputable abbrev Ap (f n:Nat):=Yn cfg (Zb cfg) (Y5 cfg (cfg.keep f) n) (cfg.keep f) n Zc Z8
noncomputable abbrev ZuG (f n:Nat):=Y5 cfg (cfg.keep f) n
noncomputable section
abbrev ZpH (f n:Nat)(F:Func)(p:List Nat):KL->AL->Hp->Z5:=fun k g H=>Ap f n (sub (Z1 F) p) k (Y4 (cfg.keep f) (sub (Z1 F) p) g) H
abbrev Zjs (f n:Nat)(F:Func)(p:List Nat):KL->AL->Hp->Z5:=fun k g H=>ZuG f n (sub (Z1 F) p) k (Y4 (cfg.keep f) (sub (Z1 F) p) g) H
variable (p0 p1 x1 x5 x6 x7 x8 x11 x12 x13 x14 x15 x16 x17 x18:AV)(H0 H:Hp)
abbrev bt (F:Func):=sub (Z1 F)
abbrev bu:List Nat:=[6,11,12,13,16]
def Mq:Z5:=Ap 27 61 (bt Tryz.f27 [1,1,1,1,1,1]) (Zf cfg 61 27 Tryz.f27 H0) [(6,x6)] H
def Zbx:Z5:=Ap 27 61 (bt Tryz.f27 [1,1,1,1,1]) (Zf cfg 61 27 Tryz.f27 H0) [(5,x5),(6,x6),(7,x7)] H
def KE:KL:=Zc (ZpH 27 61 Tryz.f27 [1,1,1,1,1]) (Zf cfg 61 27 Tryz.f27 H0)
theorem Zem:ZS 61 (KE H0):=Zw (C:=cfg) (kp:=cfg.keep 27) (bt Tryz.f27 [1,1,1,1,1]) (Zz 27 Tryz.f27 H0)
def Zbz:Z5:=Ap 27 61 (bt Tryz.f27 [1,1,1,1,0,1,0,0,1,1,1]) (Zc (Zjs 27 61 Tryz.f27 [1,1,1,1,0,1,0,0]) (Z8 0 (KE H0))) [(1,x1),(5,x5),(6,x6),(7,x7),(8,x8),(15,x15),(16,x16),(17,x17)] H
def ZlB:KL:=Zc (ZpH 27 61 Tryz.f27 [1,1,1,1,0,1,0,0,1,1,1]) (Zc (Zjs 27 61 Tryz.f27 [1,1,1,1,0,1,0,0]) (Z8 0 (KE H0)))
def Mr:Z5:=Ap 27 61 (bt Tryz.f27 [1,1,1,1,0,1,0,0,1,1,0,0,1,1,1]) (Z8 1 (ZlB H0)) [(1,x1),(5,x5),(6,x6),(7,x7),(8,x8),(11,x11),(15,x15),(16,x16),(17,x17)] H
def Zby:Z5:=Ap 27 61 (bt Tryz.f27 [1,1,1,1,0,1,0,0,1,1]) (Zc (Zjs 27 61 Tryz.f27 [1,1,1,1,0,1,0,0]) (Z8 0 (KE H0))) [(1,x1),(5,x5),(6,x6),(7,x7),(8,x8),(15,x15),(16,x16),(17,x17),(18,x18)] H
def Ft:Z5:=ZuG 27 61 (bt Tryz.f27 [1,1,1,1,0,1,0,0]) (Z8 0 (KE H0)) [(1,x1),(5,x5),(6,x6),(7,x7),(8,x8),(15,x15),(16,x16),(17,x17)] H
def ZcB:Z5:=
 Z0 (Zh Ym [p0] H) fun g=>
 Z0 (Zk (.slice 9) g.1) fun h=>
 Ft p1 g.1 .nils (J zA 0) (J zA 0) g.1 h (J zA 0) H g.2
theorem Zh4:Mq x6 H0 H =
 some (x6,H):=Z9 bu
theorem Zh3:Zbx x5 x6 x7 H0 H =
 Z0 (Zk (.slice 9) x5) fun g=>
 Z0 (Z4 .gtr g (J zA 0)) fun j=>
 Zj j
 (Z0 (Yg 1 x5 (some x7) (some g) (some g)) fun u=>
 Z0 ((ZB 1 [(0,u)] [.nils]).map (.vs 1 .clip)) fun w=>
 Z0 (Gy false 1 24 x6 w H) fun h=>
 Mq h.1 H0 h.2)
 (Mq x6 H0 H):=Z9 bu
theorem FB:Zbz x1 x5 x6 x7 x8 x15 x16 x17 H0 H =
 Z0 (Z4 .add x17 (J zA 1)) fun g=>
 Ft x1 x5 x6 x7 x8 x15 x16 g H0 H:=Z9 bu
theorem FC:Mr x1 x5 x6 x7 x8 x11 x15 x16 x17 H0 H =
 Z0 (Z4 .add x8 x11) fun g=>
 Zbz x1 x5 x6 x7 g x15 x16 x17 H0 H:=Z9 bu
theorem Zh5:Zby x1 x5 x6 x7 x8 x15 x16 x17 x18 H0 H =
 Z0 (Zo 1 x15 x17) fun u=>
 Z0 (Z3 false 1 u H) fun w=>
 Z0 (Zk .string w) fun y=>
 Z0 (Z4 .add y (J zA 16)) fun h=>
 Z0 (Z4 .gtr x17 x7) fun g=>
 Z0 (Z7 g true am (some x8)) fun z=>
 Z0 (Z7 g true am (some h)) fun A=>
 Z0 (Z7 g true am (Z4 .add z A)) fun B=>
 Z0 (Z7 g true am (some x1)) fun C=>
 Z0 (Z7 g true am (Z4 .gtr B C)) fun D=>
 Z0 (Zi g D (.bool false)) fun E=>
 Zj E
 (Z0 (Yg 1 x5 (some x7) (some x17) (some x17)) fun F=>
 Z0 ((ZB 1 [(0,F)] [.nils]).map (.vs 1 .clip)) fun I=>
 Z0 (Gy false 1 24 x6 I H) fun j=>
 Mr x1 x5 j.1 x17 (J zA 0) h x15 x16 x17 H0 j.2)
 (Mr x1 x5 x6 x7 x8 h x15 x16 x17 H0 H):=Z9 bu
theorem SJ:Ft x1 x5 x6 x7 x8 x15 x16 x17 H0 H =
 Z0 (Z4 .lss x17 x16) fun g=>
 Zj g
 (Zby x1 x5 x6 x7 x8 x15 x16 x17 g H0 H)
 (Zbx x5 x6 x7 H0 H):=(ZC (C:=cfg) [6,11,12,13,16] (Zn 0 (Zem H0)) _ _).trans (by kernel_rfl)
theorem Zhl:En [p0,p1] H=ZcB p0 p1 H:=Be 61 [6,11,12,13,16] Tryz.func27
def Zbt:Z5:=Ap 77 38 (bt Tryz.f77 [1,1,1,1]) (Zf cfg 38 77 Tryz.f77 H0) [(5,x5)] H
def KB:KL:=Zc (ZpH 77 38 Tryz.f77 [1,1,1,1]) (Zf cfg 38 77 Tryz.f77 H0)
theorem Zei:ZS 38 (KB H0):=Zw (C:=cfg) (kp:=cfg.keep 77) (bt Tryz.f77 [1,1,1,1]) (Zz 77 Tryz.f77 H0)
def Zbv:Z5:=Ap 77 38 (bt Tryz.f77 [1,1,1,0,1,0,0,1,1,1]) (Zc (Zjs 77 38 Tryz.f77 [1,1,1,0,1,0,0]) (Z8 0 (KB H0))) [(1,x1),(5,x5),(12,x12),(13,x13)] H
def Zlu:KL:=Zc (ZpH 77 38 Tryz.f77 [1,1,1,0,1,0,0,1,1,1]) (Zc (Zjs 77 38 Tryz.f77 [1,1,1,0,1,0,0]) (Z8 0 (KB H0)))
def Fo:Z5:=Ap 77 38 (bt Tryz.f77 [1,1,1,0,1,0,0,1,1,0,0,1,1]) (Z8 1 (Zlu H0)) [(1,x1),(5,x5),(6,x6),(12,x12),(13,x13)] H
def Zbu:Z5:=Ap 77 38 (bt Tryz.f77 [1,1,1,0,1,0,0,1,1]) (Zc (Zjs 77 38 Tryz.f77 [1,1,1,0,1,0,0]) (Z8 0 (KB H0))) [(1,x1),(5,x5),(12,x12),(13,x13),(14,x14)] H
def Fp:Z5:=ZuG 77 38 (bt Tryz.f77 [1,1,1,0,1,0,0]) (Z8 0 (KB H0)) [(1,x1),(5,x5),(12,x12),(13,x13)] H
def Zcz:Z5:=
 Z0 (Qe p1 (J zA 2)) fun t9=>
 Z0 (VE t9 (J zA 32)) fun g=>
 Z0 (Qe p0 (J zA 0)) fun h=>
 Fp g .nils h (J zA 0) H H
theorem ZgU:Zbt x5 H0 H =
 some (x5,H):=Z9 [5,8,10,11]
theorem ZgW:Zbv x1 x5 x12 x13 H0 H =
 Z0 (Z4 .add x13 (J zA 1)) fun g=>
 Fp x1 x5 x12 g H0 H:=Z9 [5,8,10,11]
theorem ZgX:Fo x1 x5 x6 x12 x13 H0 H =
 Z0 (Zk (.slice 38) x5) fun u=>
 Z0 (Z4 .sub u (J zA 1)) fun j=>
 Z0 (Zo 1 x5 j) fun w=>
 Z0 (Z3 false 1 w H) fun y=>
 Z0 ((ZB 1 [(0,x6)] [(J zA 0)]).map (.vs 1 .clip)) fun z=>
 Z0 (Y9 1 8 y z H) fun g=>
 Z0 (Zo 1 x5 j) fun A=>
 Z0 (Za 1 A g.1 g.2) fun h=>
 Zbv x1 x5 x12 x13 H0 h.2:=Z9 [5,8,10,11]
theorem ZgV:Zbu x1 x5 x12 x13 x14 H0 H =
 Z0 (Z4 .rem x13 x1) fun h=>
 Z0 (Z4 .eql h (J zA 0)) fun j=>
 Zj j
 (Z0 ((ZB 1 [(0,.nils)] [.nils]).map (.vs 1 .clip)) fun u=>
 Z0 (Gy false 1 24 x5 u H) fun g=>
 Fo x1 g.1 x13 x12 x13 H0 g.2)
 (Fo x1 x5 x13 x12 x13 H0 H):=Z9 [5,8,10,11]
theorem SB:Fp x1 x5 x12 x13 H0 H =
 Z0 (Z4 .lss x13 x12) fun g=>
 Zj g
 (Zbu x1 x5 x12 x13 g H0 H)
 (Zbt x5 H0 H):=(ZC (C:=cfg) [5,8,10,11] (Zn 0 (Zei H0)) _ _).trans (by kernel_rfl)
theorem Zhj:El [p0,p1] H=Zcz p0 p1 H:=Be 38 [5,8,10,11] Tryz.func77
end
end Go.Am
