/- The functions of the translation over the abstract machine -/
import Derived.Test.YtnaneekpogohaaaGreatDoorXeGx
namespace Go.Am
open Go.Proofs
set_option maxRecDepth 100000
noncomputable abbrev Ha (f n:Nat):=Y9 cfg (Z9 cfg) (Y6 cfg (cfg.keep f) n) (cfg.keep f) n Zc Z7
noncomputable abbrev ZuC (f n:Nat):=Y6 cfg (cfg.keep f) n
noncomputable section
abbrev ZoR (f n:Nat)(F:Func)(p:List Nat):KL->AL->Hp->Z3:=fun k g H=>Ha f n (sub (Z1 F) p) k (ZU (cfg.keep f) (sub (Z1 F) p) g) H
abbrev Zid (f n:Nat)(F:Func)(p:List Nat):KL->AL->Hp->Z3:=fun k g H=>ZuC f n (sub (Z1 F) p) k (ZU (cfg.keep f) (sub (Z1 F) p) g) H
variable (p0 p1 x1 x5 x6 x7 x8 x11 x12 x13 x14 x15 x16 x17 x18:AV)(H0 H:Hp)
def NU:Z3:=Ha 27 61 (sub (Z1 Tryz.f27) [1,1,1,1,1,1]) (Zh cfg 61 27 Tryz.f27 H0) [(6,x6)] H
def Zaj:Z3:=Ha 27 61 (sub (Z1 Tryz.f27) [1,1,1,1,1]) (Zh cfg 61 27 Tryz.f27 H0) [(5,x5),(6,x6),(7,x7)] H
def JN:KL:=Zc (ZoR 27 61 Tryz.f27 [1,1,1,1,1]) (Zh cfg 61 27 Tryz.f27 H0)
theorem Zd3:ZW 61 (JN H0):=Zy (C:=cfg) (kp:=cfg.keep 27) (sub (Z1 Tryz.f27) [1,1,1,1,1]) (ZB 27 Tryz.f27 H0)
def Zal:Z3:=Ha 27 61 (sub (Z1 Tryz.f27) [1,1,1,1,0,1,0,0,1,1,1]) (Zc (Zid 27 61 Tryz.f27 [1,1,1,1,0,1,0,0]) (Z7 0 (JN H0))) [(1,x1),(5,x5),(6,x6),(7,x7),(8,x8),(15,x15),(16,x16),(17,x17)] H
def Zkj:KL:=Zc (ZoR 27 61 Tryz.f27 [1,1,1,1,0,1,0,0,1,1,1]) (Zc (Zid 27 61 Tryz.f27 [1,1,1,1,0,1,0,0]) (Z7 0 (JN H0)))
def NV:Z3:=Ha 27 61 (sub (Z1 Tryz.f27) [1,1,1,1,0,1,0,0,1,1,0,0,1,1,1]) (Z7 1 (Zkj H0)) [(1,x1),(5,x5),(6,x6),(7,x7),(8,x8),(11,x11),(15,x15),(16,x16),(17,x17)] H
def Zak:Z3:=Ha 27 61 (sub (Z1 Tryz.f27) [1,1,1,1,0,1,0,0,1,1]) (Zc (Zid 27 61 Tryz.f27 [1,1,1,1,0,1,0,0]) (Z7 0 (JN H0))) [(1,x1),(5,x5),(6,x6),(7,x7),(8,x8),(15,x15),(16,x16),(17,x17),(18,x18)] H
def DM:Z3:=ZuC 27 61 (sub (Z1 Tryz.f27) [1,1,1,1,0,1,0,0]) (Z7 0 (JN H0)) [(1,x1),(5,x5),(6,x6),(7,x7),(8,x8),(15,x15),(16,x16),(17,x17)] H
def Zbn:Z3:=
 Z0 (Zf Yk [p0] H) fun g=>
 Z0 (Zk (.slice 9) g.1) fun j=>
 DM p1 g.1 .nils (.int .i64 0) (.int .i64 0) g.1 j (.int .i64 0) H g.2
theorem ZfB:NU x6 H0 H =
 some (x6,H):=Za [6,11,12,13,16]
theorem ZfA:Zaj x5 x6 x7 H0 H =
 Z0 (Zk (.slice 9) x5) fun g=>
 Z0 (Z5 .gtr g (.int .i64 0)) fun u=>
 Zl u
 (Z0 (Yn 1 x5 (some x7) (some g) (some g)) fun w=>
 Z0 ((ZE 1 [(0,w)] [.nils]).map (.vs 1 .clip)) fun y=>
 Z0 (QG false 1 24 x6 y H) fun j=>
 NU j.1 H0 j.2)
 (NU x6 H0 H):=Za [6,11,12,13,16]
theorem DT:Zal x1 x5 x6 x7 x8 x15 x16 x17 H0 H =
 Z0 (Z5 .add x17 (.int .i64 1)) fun g=>
 DM x1 x5 x6 x7 x8 x15 x16 g H0 H:=Za [6,11,12,13,16]
theorem DU:NV x1 x5 x6 x7 x8 x11 x15 x16 x17 H0 H =
 Z0 (Z5 .add x8 x11) fun g=>
 Zal x1 x5 x6 x7 g x15 x16 x17 H0 H:=Za [6,11,12,13,16]
theorem ZfC:Zak x1 x5 x6 x7 x8 x15 x16 x17 x18 H0 H =
 Z0 (Zo 1 x15 x17) fun w=>
 Z0 (Z4 false 1 w H) fun y=>
 Z0 (Zk .string y) fun z=>
 Z0 (Z5 .add z (.int .i64 16)) fun j=>
 Z0 (Z5 .gtr x17 x7) fun g=>
 Z0 (Z8 g true (.tuple []) (some x8)) fun A=>
 Z0 (Z8 g true (.tuple []) (some j)) fun B=>
 Z0 (Z8 g true (.tuple []) (Z5 .add A B)) fun C=>
 Z0 (Z8 g true (.tuple []) (some x1)) fun D=>
 Z0 (Z8 g true (.tuple []) (Z5 .gtr C D)) fun E=>
 Z0 (Zi g E (.bool false)) fun F=>
 Zl F
 (Z0 (Yn 1 x5 (some x7) (some x17) (some x17)) fun I=>
 Z0 ((ZE 1 [(0,I)] [.nils]).map (.vs 1 .clip)) fun J=>
 Z0 (QG false 1 24 x6 J H) fun u=>
 NV x1 x5 u.1 x17 (.int .i64 0) j x15 x16 x17 H0 u.2)
 (NV x1 x5 x6 x7 x8 j x15 x16 x17 H0 H):=Za [6,11,12,13,16]
theorem EC:DM x1 x5 x6 x7 x8 x15 x16 x17 H0 H =
 Z0 (Z5 .lss x17 x16) fun g=>
 Zl g
 (Zak x1 x5 x6 x7 x8 x15 x16 x17 g H0 H)
 (Zaj x5 x6 x7 H0 H):=(ZD (C:=cfg) [6,11,12,13,16] (Zn 0 (Zd3 H0)) _ _).trans (by kernel_rfl)
theorem ZfZ:Lt [p0,p1] H=Zbn p0 p1 H:=Be 61 [6,11,12,13,16] Tryz.func27
def Zaf:Z3:=Ha 77 38 (sub (Z1 Tryz.f77) [1,1,1,1]) (Zh cfg 38 77 Tryz.f77 H0) [(5,x5)] H
def JL:KL:=Zc (ZoR 77 38 Tryz.f77 [1,1,1,1]) (Zh cfg 38 77 Tryz.f77 H0)
theorem ZcZ:ZW 38 (JL H0):=Zy (C:=cfg) (kp:=cfg.keep 77) (sub (Z1 Tryz.f77) [1,1,1,1]) (ZB 77 Tryz.f77 H0)
def Zah:Z3:=Ha 77 38 (sub (Z1 Tryz.f77) [1,1,1,0,1,0,0,1,1,1]) (Zc (Zid 77 38 Tryz.f77 [1,1,1,0,1,0,0]) (Z7 0 (JL H0))) [(1,x1),(5,x5),(12,x12),(13,x13)] H
def Zke:KL:=Zc (ZoR 77 38 Tryz.f77 [1,1,1,0,1,0,0,1,1,1]) (Zc (Zid 77 38 Tryz.f77 [1,1,1,0,1,0,0]) (Z7 0 (JL H0)))
def DI:Z3:=Ha 77 38 (sub (Z1 Tryz.f77) [1,1,1,0,1,0,0,1,1,0,0,1,1]) (Z7 1 (Zke H0)) [(1,x1),(5,x5),(6,x6),(12,x12),(13,x13)] H
def Zag:Z3:=Ha 77 38 (sub (Z1 Tryz.f77) [1,1,1,0,1,0,0,1,1]) (Zc (Zid 77 38 Tryz.f77 [1,1,1,0,1,0,0]) (Z7 0 (JL H0))) [(1,x1),(5,x5),(12,x12),(13,x13),(14,x14)] H
def DJ:Z3:=ZuC 77 38 (sub (Z1 Tryz.f77) [1,1,1,0,1,0,0]) (Z7 0 (JL H0)) [(1,x1),(5,x5),(12,x12),(13,x13)] H
def Zbl:Z3:=
 Z0 (Kd p1 (.int .i64 2)) fun t9=>
 Z0 (UO t9 (.int .i64 32)) fun g=>
 Z0 (Kd p0 (.int .i64 0)) fun j=>
 DJ g .nils j (.int .i64 0) H H
theorem Zfo:Zaf x5 H0 H =
 some (x5,H):=Za [5,8,10,11]
theorem Zfq:Zah x1 x5 x12 x13 H0 H =
 Z0 (Z5 .add x13 (.int .i64 1)) fun g=>
 DJ x1 x5 x12 g H0 H:=Za [5,8,10,11]
theorem Zfr:DI x1 x5 x6 x12 x13 H0 H =
 Z0 (Zk (.slice 38) x5) fun w=>
 Z0 (Z5 .sub w (.int .i64 1)) fun u=>
 Z0 (Zo 1 x5 u) fun y=>
 Z0 (Z4 false 1 y H) fun z=>
 Z0 ((ZE 1 [(0,x6)] [(.int .i64 0)]).map (.vs 1 .clip)) fun A=>
 Z0 (Yl 1 8 z A H) fun g=>
 Z0 (Zo 1 x5 u) fun B=>
 Z0 (Ze 1 B g.1 g.2) fun j=>
 Zah x1 x5 x12 x13 H0 j.2:=Za [5,8,10,11]
theorem Zfp:Zag x1 x5 x12 x13 x14 H0 H =
 Z0 (Z5 .rem x13 x1) fun j=>
 Z0 (Z5 .eql j (.int .i64 0)) fun u=>
 Zl u
 (Z0 ((ZE 1 [(0,.nils)] [.nils]).map (.vs 1 .clip)) fun w=>
 Z0 (QG false 1 24 x5 w H) fun g=>
 DI x1 g.1 x13 x12 x13 H0 g.2)
 (DI x1 x5 x13 x12 x13 H0 H):=Za [5,8,10,11]
theorem Et:DJ x1 x5 x12 x13 H0 H =
 Z0 (Z5 .lss x13 x12) fun g=>
 Zl g
 (Zag x1 x5 x12 x13 g H0 H)
 (Zaf x5 H0 H):=(ZD (C:=cfg) [5,8,10,11] (Zn 0 (ZcZ H0)) _ _).trans (by kernel_rfl)
theorem ZfX:Lr [p0,p1] H=Zbl p0 p1 H:=Be 38 [5,8,10,11] Tryz.func77
end
end Go.Am
