/-
  The functions of the translation over the abstract machine, a further part: written by program (wip/gen.py).
-/
import Derived.Test.YtehanadfidoodaaGreatDoorNkGx
namespace Go.Am
open Go.Proofs
set_option maxRecDepth 100000
set_option linter.unusedVariables false
set_option linter.unusedSimpArgs false
noncomputable abbrev Zen (f n:Nat):=Yl cfg (Za cfg) (Y8 cfg (cfg.keep f) n) (cfg.keep f) n Zd Z7
noncomputable abbrev ZqC (f n:Nat):=Y8 cfg (cfg.keep f) n
noncomputable section
abbrev ZqA (f n:Nat)(F:Func)(p:List Nat):KL→AL→Hp→Z3:=fun k al H=>Zen f n (sub (Z1 F) p) k (ZR (cfg.keep f) (sub (Z1 F) p) al) H
abbrev ZmA (f n:Nat)(F:Func)(p:List Nat):KL→AL→Hp→Z3:=fun k al H=>ZqC f n (sub (Z1 F) p) k (ZR (cfg.keep f) (sub (Z1 F) p) al) H
variable (p0 p1 x1 x5 x6 x12 x13 x14:AV)(H0 H:Hp)
def SY:Z3:=Zen 39 38 (sub (Z1 Tryz.f39) [1,1,1,1]) (Zi cfg 38 39 Tryz.f39 H0) [(5,x5)] H
def Qw:KL:=Zd (ZqA 39 38 Tryz.f39 [1,1,1,1]) (Zi cfg 38 39 Tryz.f39 H0)
theorem AI:ZT 38 (Qw H0):=Zw (C:=cfg) (kp:=cfg.keep 39) (sub (Z1 Tryz.f39) [1,1,1,1]) (ZA 39 Tryz.f39 H0)
def C0:Z3:=Zen 39 38 (sub (Z1 Tryz.f39) [1,1,1,0,1,0,0,1,1,1]) (Zd (ZmA 39 38 Tryz.f39 [1,1,1,0,1,0,0]) (Z7 0 (Qw H0))) [(1,x1),(5,x5),(12,x12),(13,x13)] H
def Ze6:KL:=Zd (ZqA 39 38 Tryz.f39 [1,1,1,0,1,0,0,1,1,1]) (Zd (ZmA 39 38 Tryz.f39 [1,1,1,0,1,0,0]) (Z7 0 (Qw H0)))
def Gy:Z3:=Zen 39 38 (sub (Z1 Tryz.f39) [1,1,1,0,1,0,0,1,1,0,0,1,1]) (Z7 1 (Ze6 H0)) [(1,x1),(5,x5),(6,x6),(12,x12),(13,x13)] H
def SZ:Z3:=Zen 39 38 (sub (Z1 Tryz.f39) [1,1,1,0,1,0,0,1,1]) (Zd (ZmA 39 38 Tryz.f39 [1,1,1,0,1,0,0]) (Z7 0 (Qw H0))) [(1,x1),(5,x5),(12,x12),(13,x13),(14,x14)] H
def Gz:Z3:=ZqC 39 38 (sub (Z1 Tryz.f39) [1,1,1,0,1,0,0]) (Z7 0 (Qw H0)) [(1,x1),(5,x5),(12,x12),(13,x13)] H
def Hf:Z3:=
 Z0 (Gw p1 (.int .i64 2)) fun t9=>
 Z0 (VJ t9 (.int .i64 32)) fun t10=>
 Z0 (Gw p0 (.int .i64 0)) fun t12=>
 Gz t10 .nils t12 (.int .i64 0) H H
theorem OY:SY x5 H0 H =
 some (x5,H):=Zb [5,8,10,11] (by kernel_rfl)
theorem Za0:C0 x1 x5 x12 x13 H0 H =
 Z0 (Z5 .add x13 (.int .i64 1)) fun t36=>
 Gz x1 x5 x12 t36 H0 H:=Zb [5,8,10,11] (by kernel_rfl)
theorem Za1:Gy x1 x5 x6 x12 x13 H0 H =
 Z0 (Zk (.slice 22) x5) fun t24=>
 Z0 (Z5 .sub t24 (.int .i64 1)) fun t25=>
 Z0 (Zn 1 x5 t25) fun t30=>
 Z0 (Z4 false 1 t30 H) fun t31=>
 Z0 ((ZF 1 [(0,x6)] [(.int .i64 0)]).map (.vs 1 .clip)) fun t33=>
 Z0 (Y6 1 8 t31 t33 H) fun r34=>
 Z0 (Zn 1 x5 t25) fun t35=>
 Z0 (Zh 1 t35 r34.1 r34.2) fun r_13=>
 C0 x1 x5 x12 x13 H0 r_13.2:=Zb [5,8,10,11] (by kernel_rfl)
theorem OZ:SZ x1 x5 x12 x13 x14 H0 H =
 Z0 (Z5 .rem x13 x1) fun t18=>
 Z0 (Z5 .eql t18 (.int .i64 0)) fun t19=>
 Zl t19
 (Z0 ((ZF 1 [(0,.nils)] [.nils]).map (.vs 1 .clip)) fun t21=>
 Z0 (Pe false 1 24 x5 t21 H) fun r22=>
 Gy x1 r22.1 x13 x12 x13 H0 r22.2)
 (Gy x1 x5 x13 x12 x13 H0 H):=Zb [5,8,10,11] (by kernel_rfl)
theorem PE:Gz x1 x5 x12 x13 H0 H =
 Z0 (Z5 .lss x13 x12) fun t14=>
 Zl t14
 (SZ x1 x5 x12 x13 t14 H0 H)
 (SY x5 H0 H):=(ZB (C:=cfg) [5,8,10,11] (Zo 0 (AI H0)) _ _).trans (by kernel_rfl)
theorem Zal:TN [p0,p1] H=Hf p0 p1 H:=(Zc (C:=cfg) (fn:=Tryz.f39) (c:=Z1 Tryz.f39) (n:=38) [5,8,10,11] Tryz.func39 (by kernel_rfl) (by kernel_rfl) [p0,p1] (by kernel_rfl) H).trans (by kernel_rfl)
end
end Go.Am
