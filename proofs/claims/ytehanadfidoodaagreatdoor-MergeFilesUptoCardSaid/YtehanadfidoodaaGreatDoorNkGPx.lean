/-
  The functions of the translation over the abstract machine, a further part: written by program (wip/gen.py).
-/
import Derived.Test.YtehanadfidoodaaGreatDoorNkGx
namespace Go.Am
open Go.Proofs
set_option maxRecDepth 100000
set_option linter.unusedVariables false
set_option linter.unusedSimpArgs false
noncomputable abbrev Zga (f n:Nat):=Yl cfg (Za cfg) (Ya cfg (cfg.keep f) n) (cfg.keep f) n Zc Z6
noncomputable abbrev Zs7 (f n:Nat):=Ya cfg (cfg.keep f) n
noncomputable section
abbrev Zs5 (f n:Nat)(F:Func)(p:List Nat):KL→AL→Hp→Z3:=fun k al H=>Zga f n (sub (Z1 F) p) k (ZX (cfg.keep f) (sub (Z1 F) p) al) H
abbrev Zol (f n:Nat)(F:Func)(p:List Nat):KL→AL→Hp→Z3:=fun k al H=>Zs7 f n (sub (Z1 F) p) k (ZX (cfg.keep f) (sub (Z1 F) p) al) H
variable (p0 p1 x1 x5 x6 x12 x13 x14:AV)(H0 H:Hp)
def Hm:Z3:=Zga 39 38 (sub (Z1 Tryz.f39) [1,1,1,1]) (Zh cfg 38 39 Tryz.f39 H0) [(5,x5)] H
def QO:KL:=Zc (Zs5 39 38 Tryz.f39 [1,1,1,1]) (Zh cfg 38 39 Tryz.f39 H0)
theorem Ob:ZR 38 (QO H0):=Zu (C:=cfg) (kp:=cfg.keep 39) (sub (Z1 Tryz.f39) [1,1,1,1]) (Zx 39 Tryz.f39 H0)
def Ho:Z3:=Zga 39 38 (sub (Z1 Tryz.f39) [1,1,1,0,1,0,0,1,1,1]) (Zc (Zol 39 38 Tryz.f39 [1,1,1,0,1,0,0]) (Z6 0 (QO H0))) [(1,x1),(5,x5),(12,x12),(13,x13)] H
def ZfR:KL:=Zc (Zs5 39 38 Tryz.f39 [1,1,1,0,1,0,0,1,1,1]) (Zc (Zol 39 38 Tryz.f39 [1,1,1,0,1,0,0]) (Z6 0 (QO H0)))
def B7:Z3:=Zga 39 38 (sub (Z1 Tryz.f39) [1,1,1,0,1,0,0,1,1,0,0,1,1]) (Z6 1 (ZfR H0)) [(1,x1),(5,x5),(6,x6),(12,x12),(13,x13)] H
def Hn:Z3:=Zga 39 38 (sub (Z1 Tryz.f39) [1,1,1,0,1,0,0,1,1]) (Zc (Zol 39 38 Tryz.f39 [1,1,1,0,1,0,0]) (Z6 0 (QO H0))) [(1,x1),(5,x5),(12,x12),(13,x13),(14,x14)] H
def B8:Z3:=Zs7 39 38 (sub (Z1 Tryz.f39) [1,1,1,0,1,0,0]) (Z6 0 (QO H0)) [(1,x1),(5,x5),(12,x12),(13,x13)] H
def AN:Z3:=
 Z0 (B5 p1 (.int .i64 2)) fun t9=>
 Z0 (U3 t9 (.int .i64 32)) fun t10=>
 Z0 (B5 p0 (.int .i64 0)) fun t12=>
 B8 t10 .nils t12 (.int .i64 0) H H
theorem ZbA:Hm x5 H0 H =
 some (x5,H):=Zb [5,8,10,11] (by kernel_rfl)
theorem ZbC:Ho x1 x5 x12 x13 H0 H =
 Z0 (Z5 .add x13 (.int .i64 1)) fun t36=>
 B8 x1 x5 x12 t36 H0 H:=Zb [5,8,10,11] (by kernel_rfl)
theorem ZbD:B7 x1 x5 x6 x12 x13 H0 H =
 Z0 (Zk (.slice 22) x5) fun t24=>
 Z0 (Z5 .sub t24 (.int .i64 1)) fun t25=>
 Z0 (Zl 1 x5 t25) fun t30=>
 Z0 (Z4 false 1 t30 H) fun t31=>
 Z0 ((ZA 1 [(0,x6)] [(.int .i64 0)]).map (.vs 1 .clip)) fun t33=>
 Z0 (Y7 1 8 t31 t33 H) fun r34=>
 Z0 (Zl 1 x5 t25) fun t35=>
 Z0 (Zi 1 t35 r34.1 r34.2) fun r_13=>
 Ho x1 x5 x12 x13 H0 r_13.2:=Zb [5,8,10,11] (by kernel_rfl)
theorem ZbB:Hn x1 x5 x12 x13 x14 H0 H =
 Z0 (Z5 .rem x13 x1) fun t18=>
 Z0 (Z5 .eql t18 (.int .i64 0)) fun t19=>
 Zm t19
 (Z0 ((ZA 1 [(0,.nils)] [.nils]).map (.vs 1 .clip)) fun t21=>
 Z0 (Gw false 1 24 x5 t21 H) fun r22=>
 B7 x1 r22.1 x13 x12 x13 H0 r22.2)
 (B7 x1 x5 x13 x12 x13 H0 H):=Zb [5,8,10,11] (by kernel_rfl)
theorem Nv:B8 x1 x5 x12 x13 H0 H =
 Z0 (Z5 .lss x13 x12) fun t14=>
 Zm t14
 (Hn x1 x5 x12 x13 t14 H0 H)
 (Hm x5 H0 H):=(Zy (C:=cfg) [5,8,10,11] (Zn 0 (Ob H0)) _ _).trans (by kernel_rfl)
theorem ZbZ:Px [p0,p1] H=AN p0 p1 H:=(Zd (C:=cfg) (fn:=Tryz.f39) (c:=Z1 Tryz.f39) (n:=38) [5,8,10,11] Tryz.func39 (by kernel_rfl) (by kernel_rfl) [p0,p1] (by kernel_rfl) H).trans (by kernel_rfl)
end
end Go.Am
