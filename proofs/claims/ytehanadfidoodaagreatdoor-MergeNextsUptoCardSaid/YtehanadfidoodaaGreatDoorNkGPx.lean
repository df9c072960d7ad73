/-
  The functions of the translation over the abstract machine, a further part: written by program (wip/gen.py).
-/
import Derived.Test.YtehanadfidoodaaGreatDoorNkGx
namespace Go.Am
open Go.Proofs
set_option maxRecDepth 100000
noncomputable abbrev ZjO (f n:Nat):=Y1 cfg (Za cfg) (ZQ cfg (cfg.keep f) n) (cfg.keep f) n Zb Z7
noncomputable abbrev ZvU (f n:Nat):=ZQ cfg (cfg.keep f) n
noncomputable section
abbrev ZvR (f n:Nat)(F:Func)(p:List Nat):KL→AL→Hp→Z4:=fun k al H=>ZjO f n (sub (Z1 F) p) k (ZP (cfg.keep f) (sub (Z1 F) p) al) H
abbrev ZrS (f n:Nat)(F:Func)(p:List Nat):KL→AL→Hp→Z4:=fun k al H=>ZvU f n (sub (Z1 F) p) k (ZP (cfg.keep f) (sub (Z1 F) p) al) H
variable (p0 p1 x1 x5 x6 x12 x13 x14:AV)(H0 H:Hp)
def AN:Z4:=ZjO 39 38 (sub (Z1 Tryz.f39) [1,1,1,1]) (Zf cfg 38 39 Tryz.f39 H0) [(5,x5)] H
def Qz:KL:=Zb (ZvR 39 38 Tryz.f39 [1,1,1,1]) (Zf cfg 38 39 Tryz.f39 H0)
theorem ZaV:ZL 38 (Qz H0):=Zu (C:=cfg) (kp:=cfg.keep 39) (sub (Z1 Tryz.f39) [1,1,1,1]) (Zv 39 Tryz.f39 H0)
def AP:Z4:=ZjO 39 38 (sub (Z1 Tryz.f39) [1,1,1,0,1,0,0,1,1,1]) (Zb (ZrS 39 38 Tryz.f39 [1,1,1,0,1,0,0]) (Z7 0 (Qz H0))) [(1,x1),(5,x5),(12,x12),(13,x13)] H
def Zjs:KL:=Zb (ZvR 39 38 Tryz.f39 [1,1,1,0,1,0,0,1,1,1]) (Zb (ZrS 39 38 Tryz.f39 [1,1,1,0,1,0,0]) (Z7 0 (Qz H0)))
def GS:Z4:=ZjO 39 38 (sub (Z1 Tryz.f39) [1,1,1,0,1,0,0,1,1,0,0,1,1]) (Z7 1 (Zjs H0)) [(1,x1),(5,x5),(6,x6),(12,x12),(13,x13)] H
def AO:Z4:=ZjO 39 38 (sub (Z1 Tryz.f39) [1,1,1,0,1,0,0,1,1]) (Zb (ZrS 39 38 Tryz.f39 [1,1,1,0,1,0,0]) (Z7 0 (Qz H0))) [(1,x1),(5,x5),(12,x12),(13,x13),(14,x14)] H
def GT:Z4:=ZvU 39 38 (sub (Z1 Tryz.f39) [1,1,1,0,1,0,0]) (Z7 0 (Qz H0)) [(1,x1),(5,x5),(12,x12),(13,x13)] H
def O5:Z4:=
 Z0 (GQ p1 (.int .i64 2)) fun t9=>
 Z0 (VO t9 (.int .i64 32)) fun t10=>
 Z0 (GQ p0 (.int .i64 0)) fun t12=>
 GT t10 .nils t12 (.int .i64 0) H H
theorem Ze4:AN x5 H0 H =
 some (x5,H):=Z9 [5,8,10,11] (by kernel_rfl)
theorem Ze6:AP x1 x5 x12 x13 H0 H =
 Z0 (Z5 .add x13 (.int .i64 1)) fun t36=>
 GT x1 x5 x12 t36 H0 H:=Z9 [5,8,10,11] (by kernel_rfl)
theorem Ze7:GS x1 x5 x6 x12 x13 H0 H =
 Z0 (Zj (.slice 22) x5) fun t24=>
 Z0 (Z5 .sub t24 (.int .i64 1)) fun t25=>
 Z0 (Zl 1 x5 t25) fun t30=>
 Z0 (Z3 false 1 t30 H) fun t31=>
 Z0 ((Zz 1 [(0,x6)] [(.int .i64 0)]).map (.vs 1 .clip)) fun t33=>
 Z0 (ZS 1 8 t31 t33 H) fun r34=>
 Z0 (Zl 1 x5 t25) fun t35=>
 Z0 (Zi 1 t35 r34.1 r34.2) fun r_13=>
 AP x1 x5 x12 x13 H0 r_13.2:=Z9 [5,8,10,11] (by kernel_rfl)
theorem Ze5:AO x1 x5 x12 x13 x14 H0 H =
 Z0 (Z5 .rem x13 x1) fun t18=>
 Z0 (Z5 .eql t18 (.int .i64 0)) fun t19=>
 Zk t19
 (Z0 ((Zz 1 [(0,.nils)] [.nils]).map (.vs 1 .clip)) fun t21=>
 Z0 (NK false 1 24 x5 t21 H) fun r22=>
 GS x1 r22.1 x13 x12 x13 H0 r22.2)
 (GS x1 x5 x13 x12 x13 H0 H):=Z9 [5,8,10,11] (by kernel_rfl)
theorem M9:GT x1 x5 x12 x13 H0 H =
 Z0 (Z5 .lss x13 x12) fun t14=>
 Zk t14
 (AO x1 x5 x12 x13 t14 H0 H)
 (AN x5 H0 H):=(Zx (C:=cfg) [5,8,10,11] (Zm 0 (ZaV H0)) _ _).trans (by kernel_rfl)
theorem ZeA:N0 [p0,p1] H=O5 p0 p1 H:=(Zd (C:=cfg) (fn:=Tryz.f39) (c:=Z1 Tryz.f39) (n:=38) [5,8,10,11] Tryz.func39 (by kernel_rfl) (by kernel_rfl) [p0,p1] (by kernel_rfl) H).trans (by kernel_rfl)
end
end Go.Am
