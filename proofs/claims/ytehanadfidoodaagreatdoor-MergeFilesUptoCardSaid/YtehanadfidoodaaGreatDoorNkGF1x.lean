/-
  Functions of the translation that are worked out at given arguments: written by program (wip/gen.py).
-/
import Derived.Test.YtehanadfidoodaaGreatDoorNkGx
import Derived.Test.YtehanadfidoodaaGreatDoorEmWx
namespace Go.Am
open Go.Proofs
set_option maxRecDepth 100000
set_option linter.unusedVariables false
noncomputable section
noncomputable abbrev Pq (f n:Nat):=Yl cfg (Za cfg) (Ya cfg (cfg.keep f) n) (cfg.keep f) n Zc Z6
noncomputable abbrev LPf (f n:Nat):=Ya cfg (cfg.keep f) n
def c31 (H:Hp):Z3:=Za cfg 31 [] H
def MO (H0:Hp)(x0 x1 x2 x3:AV)(H:Hp):Z3:=Pq 31 55 (sub (Z1 Tryz.f31) [1,1,1,1]) (Zh cfg 55 31 Tryz.f31 H0) [(0,x0),(1,x1),(2,x2),(3,x3)] H
def Zdb (H0:Hp):KL:=Zc (fun k al H=>Pq 31 55 (sub (Z1 Tryz.f31) [1,1,1,1]) k (ZX (cfg.keep 31) (sub (Z1 Tryz.f31) [1,1,1,1]) al) H) (Zh cfg 55 31 Tryz.f31 H0)
theorem ZkO (H0:Hp):ZR 55 (Zdb H0):=Zu (C:=cfg) (kp:=cfg.keep 31) (sub (Z1 Tryz.f31) [1,1,1,1]) (Zx 31 Tryz.f31 H0)
def MQ (H0:Hp)(x0 x1 x2 x3 x4:AV)(H:Hp):Z3:=Pq 31 55 (sub (Z1 Tryz.f31) [1,1,1,0,1,0,0,1,1]) (Zc (fun k al H=>LPf 31 55 (sub (Z1 Tryz.f31) [1,1,1,0,1,0,0]) k (ZX (cfg.keep 31) (sub (Z1 Tryz.f31) [1,1,1,0,1,0,0]) al) H) (Z6 0 (Zdb H0))) [(0,x0),(1,x1),(2,x2),(3,x3),(4,x4)] H
def ZqE (H0:Hp):KL:=Zc (fun k al H=>Pq 31 55 (sub (Z1 Tryz.f31) [1,1,1,0,1,0,0,1,1]) k (ZX (cfg.keep 31) (sub (Z1 Tryz.f31) [1,1,1,0,1,0,0,1,1]) al) H) (Zc (fun k al H=>LPf 31 55 (sub (Z1 Tryz.f31) [1,1,1,0,1,0,0]) k (ZX (cfg.keep 31) (sub (Z1 Tryz.f31) [1,1,1,0,1,0,0]) al) H) (Z6 0 (Zdb H0)))
def P4 (H0:Hp)(x0 x1 x2 x3 x4 x5 x6:AV)(H:Hp):Z3:=Pq 31 55 (sub (Z1 Tryz.f31) [1,1,1,0,1,0,0,1,0,0,1,1,1]) (Z6 1 (ZqE H0)) [(0,x0),(1,x1),(2,x2),(3,x3),(4,x4),(5,x5),(6,x6)] H
def P3 (H0:Hp)(x0 x1 x2 x3 x4 x5 x6:AV)(H:Hp):Z3:=Pq 31 55 (sub (Z1 Tryz.f31) [1,1,1,0,1,0,0,1,0,0,1,1]) (Z6 1 (ZqE H0)) [(0,x0),(1,x1),(2,x2),(3,x3),(4,x4),(5,x5),(6,x6)] H
def MP (H0:Hp)(x0 x1 x2 x3 x4:AV)(H:Hp):Z3:=Pq 31 55 (sub (Z1 Tryz.f31) [1,1,1,0,1,0,0,1]) (Zc (fun k al H=>LPf 31 55 (sub (Z1 Tryz.f31) [1,1,1,0,1,0,0]) k (ZX (cfg.keep 31) (sub (Z1 Tryz.f31) [1,1,1,0,1,0,0]) al) H) (Z6 0 (Zdb H0))) [(0,x0),(1,x1),(2,x2),(3,x3),(4,x4)] H
def Yq (H0:Hp)(x0 x1 x2 x3 x4:AV)(H:Hp):Z3:=LPf 31 55 (sub (Z1 Tryz.f31) [1,1,1,0,1,0,0]) (Z6 0 (Zdb H0)) [(0,x0),(1,x1),(2,x2),(3,x3),(4,x4)] H
def ZfX (x0 x1 x2 x3:AV)(H:Hp):Z3:=
 Z0 (Qe x2 H) fun t49=>
 Z0 (Z8 2 x1) fun t50=>
 Z0 (Zi 1 t50 t49 H) fun r_7=>
 Z0 (Qe x3 r_7.2) fun t52=>
 Z0 (Z8 3 x1) fun t53=>
 Z0 (Zi 1 t53 t52 r_7.2) fun r_10=>
 Z0 (Z4 true 6 x1 r_10.2) fun t54=>
 Z0 (Zi 6 x0 t54 r_10.2) fun r_12=>
 Z0 (Z4 true 6 x0 r_12.2) fun v0=>
 some (v0,r_12.2)
theorem Ztf (H0:Hp)(x0 x1 x2 x3:AV)(H:Hp):MO H0 x0 x1 x2 x3 H=ZfX x0 x1 x2 x3 H:=(VY [5,6,9,11,14] _ _ _ _).trans (by kernel_rfl)
theorem Zto:L4 (ZfX) (ZfX):=fun _ _ _ _ _=>
 bR fun _=>bR fun _=>bR fun _=>bR fun _=>bR fun _=>bR fun _=>bR fun _=>bR fun _=>bR fun _=>le_refl _
def ZfZ (Yq:A5)(x0 x1 x2 x3 x4:AV)(H:Hp):Z3:=
 Z0 (Z5 .add x4 (.int .i64 1)) fun t11=>
 Yq x0 x1 x2 x3 t11 H
theorem Zth (H0:Hp)(x0 x1 x2 x3 x4:AV)(H:Hp):MQ H0 x0 x1 x2 x3 x4 H=ZfZ (Yq H0) x0 x1 x2 x3 x4 H:=(VY [5,6,9,11,14] _ _ _ _).trans (by kernel_rfl)
theorem Ztq {Yq dj31_l1:A5}(hj31_l1:L5 Yq dj31_l1):L5 (ZfZ Yq) (ZfZ dj31_l1):=fun _ _ _ _ _ _=>
 bR fun _=>hj31_l1 _ _ _ _ _ _
def Zg1 (MQ:A5)(x0 x1 x2 x3 x4 x5 x6:AV)(H:Hp):Z3:=
 Z0 (Z8 1 x1) fun t34=>
 Z0 (Z4 false 1 t34 H) fun t35=>
 Z0 ((ZA 1 [(0,x4)] [(.int .i64 0)]).map (.vs 1 .clip)) fun t37=>
 Z0 (Y7 1 8 t35 t37 H) fun r38=>
 Z0 (Z8 1 x1) fun t39=>
 Z0 (Zi 1 t39 r38.1 r38.2) fun r_22=>
 Z0 ((ZA 1 [(0,x5)] [(.int .u8 0)]).map (.vs 1 .clip)) fun t42=>
 Z0 (Y7 1 1 x2 t42 r_22.2) fun r43=>
 Z0 ((ZA 1 [(0,x6)] [(.int .u8 0)]).map (.vs 1 .clip)) fun t46=>
 Z0 (Y7 1 1 x3 t46 r43.2) fun r47=>
 MQ x0 x1 r43.1 r47.1 x4 r47.2
theorem Ztj (H0:Hp)(x0 x1 x2 x3 x4 x5 x6:AV)(H:Hp):P4 H0 x0 x1 x2 x3 x4 x5 x6 H=Zg1 (MQ H0) x0 x1 x2 x3 x4 x5 x6 H:=(VY [5,6,9,11,14] _ _ _ _).trans (by kernel_rfl)
theorem Zts {MQ dj31_3:A5}(hj31_3:L5 MQ dj31_3):L7 (Zg1 MQ) (Zg1 dj31_3):=fun _ _ _ _ _ _ _ _=>
 bR fun _=>bR fun _=>bR fun _=>bR fun _=>bR fun _=>bR fun _=>bR fun _=>bR fun _=>bR fun _=>bR fun _=>hj31_3 _ _ _ _ _ _
def Zg0 (P4:A7)(x0 x1 x2 x3 x4 x5 x6:AV)(H:Hp):Z3:=
 Z0 (Z5 .geq x4 (.int .i64 97)) fun t26=>
 Z0 (Z7 t26 true (.tuple []) (some x4)) fun t28=>
 Z0 (Z7 t26 true (.tuple []) (Z5 .leq t28 (.int .i64 122))) fun t29=>
 Z0 (Zj t26 t29 (.bool false)) fun t30=>
 Zm t30
  (Z0 (Z5 .sub x4 (.int .i64 32)) fun t32=>
  Z0 (YR .u8 t32) fun t33=>
  P4 x0 x1 x2 x3 x4 x5 t33 H)
  (P4 x0 x1 x2 x3 x4 x5 x6 H)
theorem Zti (H0:Hp)(x0 x1 x2 x3 x4 x5 x6:AV)(H:Hp):P3 H0 x0 x1 x2 x3 x4 x5 x6 H=Zg0 (P4 H0) x0 x1 x2 x3 x4 x5 x6 H:=(VY [5,6,9,11,14] _ _ _ _).trans (by kernel_rfl)
theorem Ztr {P4 dj31_5:A7}(hj31_5:L7 P4 dj31_5):L7 (Zg0 P4) (Zg0 dj31_5):=fun _ _ _ _ _ _ _ _=>
 bR fun _=>bR fun _=>bR fun _=>bR fun _=>bK (bR fun _=>bR fun _=>hj31_5 _ _ _ _ _ _ _ _) (hj31_5 _ _ _ _ _ _ _ _)
def ZfY (P3:A7)(x0 x1 x2 x3 x4:AV)(H:Hp):Z3:=
 Z0 (YR .u8 x4) fun t13=>
 Z0 (YR .u8 x4) fun t15=>
 Z0 (Z5 .geq x4 (.int .i64 65)) fun t17=>
 Z0 (Z7 t17 true (.tuple []) (some x4)) fun t19=>
 Z0 (Z7 t17 true (.tuple []) (Z5 .leq t19 (.int .i64 90))) fun t20=>
 Z0 (Zj t17 t20 (.bool false)) fun t21=>
 Zm t21
  (Z0 (Z5 .add x4 (.int .i64 32)) fun t23=>
  Z0 (YR .u8 t23) fun t24=>
  P3 x0 x1 x2 x3 x4 t24 t15 H)
  (P3 x0 x1 x2 x3 x4 t13 t15 H)
theorem Ztg (H0:Hp)(x0 x1 x2 x3 x4:AV)(H:Hp):MP H0 x0 x1 x2 x3 x4 H=ZfY (P3 H0) x0 x1 x2 x3 x4 H:=(VY [5,6,9,11,14] _ _ _ _).trans (by kernel_rfl)
theorem Ztp {P3 dj31_4:A7}(hj31_4:L7 P3 dj31_4):L5 (ZfY P3) (ZfY dj31_4):=fun _ _ _ _ _ _=>
 bR fun _=>bR fun _=>bR fun _=>bR fun _=>bR fun _=>bR fun _=>bK (bR fun _=>bR fun _=>hj31_4 _ _ _ _ _ _ _ _) (hj31_4 _ _ _ _ _ _ _ _)
def ZcI (MO:A4)(MP:A5)(x0 x1 x2 x3 x4:AV)(H:Hp):Z3:=
 Z0 (Z5 .lss x4 (.int .i64 256)) fun t9=>
 Zm t9
  (MP x0 x1 x2 x3 x4 H)
  (MO x0 x1 x2 x3 H)
theorem Zsu (H0:Hp)(x0 x1 x2 x3 x4:AV)(H:Hp):Yq H0 x0 x1 x2 x3 x4 H=ZcI (MO H0) (MP H0) x0 x1 x2 x3 x4 H:=(Zy (C:=cfg) [5,6,9,11,14] (Zn 0 (ZkO H0)) _ _).trans (by kernel_rfl)
theorem ZsN {MO dj31_1:A4}(hj31_1:L4 MO dj31_1){MP dj31_2:A5}(hj31_2:L5 MP dj31_2):L5 (ZcI MO MP) (ZcI dj31_1 dj31_2):=fun _ _ _ _ _ _=>
 bR fun _=>bK (hj31_2 _ _ _ _ _ _) (hj31_1 _ _ _ _ _)
def ZnK:A4:=ZfX
theorem ZsW (H0:Hp):L4 (ZnK) (MO H0):=fun _ _ _ _ _=>Ub (Zto _ _ _ _ _) (Ztf H0 _ _ _ _ _)
def ZnM (Yq:A5):A5:=ZfZ Yq
theorem ZsY (H0:Hp){yj31_l1:A5}(hj31_l1:L5 yj31_l1 (Yq H0)):L5 (ZnM yj31_l1) (MQ H0):=fun _ _ _ _ _ _=>Ub (Ztq hj31_l1 _ _ _ _ _ _) (Zth H0 _ _ _ _ _ _)
def ZnO (Yq:A5):A7:=Zg1 (ZnM Yq)
theorem Zt0 (H0:Hp){yj31_l1:A5}(hj31_l1:L5 yj31_l1 (Yq H0)):L7 (ZnO yj31_l1) (P4 H0):=fun _ _ _ _ _ _ _ _=>Ub (Zts (ZsY H0 hj31_l1) _ _ _ _ _ _ _ _) (Ztj H0 _ _ _ _ _ _ _ _)
def ZnN (Yq:A5):A7:=Zg0 (ZnO Yq)
theorem ZsZ (H0:Hp){yj31_l1:A5}(hj31_l1:L5 yj31_l1 (Yq H0)):L7 (ZnN yj31_l1) (P3 H0):=fun _ _ _ _ _ _ _ _=>Ub (Ztr (Zt0 H0 hj31_l1) _ _ _ _ _ _ _ _) (Zti H0 _ _ _ _ _ _ _ _)
def ZnL (Yq:A5):A5:=ZfY (ZnN Yq)
theorem ZsX (H0:Hp){yj31_l1:A5}(hj31_l1:L5 yj31_l1 (Yq H0)):L5 (ZnL yj31_l1) (MP H0):=fun _ _ _ _ _ _=>Ub (Ztp (ZsZ H0 hj31_l1) _ _ _ _ _ _) (Ztg H0 _ _ _ _ _ _)
def Zjj (n:Nat):A5:=@Nat.rec (fun _=>A5) (fun _ _ _ _ _ _=>none) (fun _ Yq=>ZcI (ZnK) (ZnL Yq)) n
theorem Zs0 (H0:Hp)(n:Nat):L5 (Zjj n) (Yq H0):=by
 induction n with
 |zero=>exact fun _ _ _ _ _ _=>OH _
 |succ n hj31_l1=>exact fun _ _ _ _ _ _=>Ub (ZsN (ZsW H0) (ZsX H0 hj31_l1) _ _ _ _ _ _) (Zsu H0 _ _ _ _ _ _)
def ZjZ (Yq:A5)(H:Hp):Z3:=
 Z0 (some ((.ptr H.length 0),H++[.cells [(.str []),.nils,(.str []),(.str []),.nils,.nils]])) fun r0=>
 Z0 ((YZ [(0,1,(.str [112,111,115,105,120]))] [(.str []),.nils,(.str []),(.str []),.nils,.nils]).map .agg) fun t7=>
 Z0 (some ((.ptr r0.2.length 0),r0.2++[.cells [(.str []),.nils,(.str []),(.str []),.nils,.nils]])) fun r1=>
 Z0 (Zi 6 r1.1 t7 r1.2) fun r_4=>
 Yq r0.1 r1.1 .nils .nils (.int .i64 0) r_4.2
theorem ZtJ (H:Hp):c31 H=ZjZ (Yq H) H:=(Zd (C:=cfg) (fn:=Tryz.f31) (c:=Z1 Tryz.f31) (n:=55) [5,6,9,11,14] Tryz.func31 (by kernel_rfl) (by kernel_rfl) [] (by kernel_rfl) H).trans (by kernel_rfl)
theorem ZtL {Yq dj31_l1:A5}(hj31_l1:L5 Yq dj31_l1):L0 (ZjZ Yq) (ZjZ dj31_l1):=fun _=>
 bR fun _=>bR fun _=>bR fun _=>bR fun _=>hj31_l1 _ _ _ _ _ _
def ZsT:A0:=fun H=>ZjZ (Zjj 100000) H
theorem ZtO:L0 ZsT c31:=fun H=>Ub (ZtL (Zs0 H 100000) _) (ZtJ _)
def Zsk (p0 p1 p2:AV)(H:Hp):Z3:=Za cfg 224 [p0,p1,p2] H
def RB (H0:Hp)(x7:AV)(H:Hp):Z3:=Pq 224 40 (sub (Z1 Tryz.f224) [1,1,1]) (Zh cfg 40 224 Tryz.f224 H0) [(7,x7)] H
def Zda (H0:Hp):KL:=Zc (fun k al H=>Pq 224 40 (sub (Z1 Tryz.f224) [1,1,1]) k (ZX (cfg.keep 224) (sub (Z1 Tryz.f224) [1,1,1]) al) H) (Zh cfg 40 224 Tryz.f224 H0)
theorem ZiC (H0:Hp):ZR 40 (Zda H0):=Zu (C:=cfg) (kp:=cfg.keep 224) (sub (Z1 Tryz.f224) [1,1,1]) (Zx 224 Tryz.f224 H0)
def Dz (H0:Hp)(x0 x1 x2 x7 x11 x12:AV)(H:Hp):Z3:=Pq 224 40 (sub (Z1 Tryz.f224) [1,1,0,1,0,0,1,1,1]) (Zc (fun k al H=>LPf 224 40 (sub (Z1 Tryz.f224) [1,1,0,1,0,0]) k (ZX (cfg.keep 224) (sub (Z1 Tryz.f224) [1,1,0,1,0,0]) al) H) (Z6 0 (Zda H0))) [(0,x0),(1,x1),(2,x2),(7,x7),(11,x11),(12,x12)] H
def RC (H0:Hp)(x0 x1 x2 x7 x11 x12 x13:AV)(H:Hp):Z3:=Pq 224 40 (sub (Z1 Tryz.f224) [1,1,0,1,0,0,1,1]) (Zc (fun k al H=>LPf 224 40 (sub (Z1 Tryz.f224) [1,1,0,1,0,0]) k (ZX (cfg.keep 224) (sub (Z1 Tryz.f224) [1,1,0,1,0,0]) al) H) (Z6 0 (Zda H0))) [(0,x0),(1,x1),(2,x2),(7,x7),(11,x11),(12,x12),(13,x13)] H
def YH (H0:Hp)(x0 x1 x2 x7 x11 x12:AV)(H:Hp):Z3:=LPf 224 40 (sub (Z1 Tryz.f224) [1,1,0,1,0,0]) (Z6 0 (Zda H0)) [(0,x0),(1,x1),(2,x2),(7,x7),(11,x11),(12,x12)] H
def ZcF (x7:AV)(H:Hp):Z3:=
 Z0 (Qe x7 H) fun t39=>
 some (t39,H)
theorem Zsr (H0:Hp)(x7:AV)(H:Hp):RB H0 x7 H=ZcF x7 H:=(VY [4,8,9] _ _ _ _).trans (by kernel_rfl)
theorem ZsK:L1 (ZcF) (ZcF):=fun _ _=>
 bR fun _=>le_refl _
def ZcH (YH:A6)(x0 x1 x2 x7 x11 x12:AV)(H:Hp):Z3:=
 Z0 (Z5 .add x12 (.int .i64 1)) fun t37=>
 YH x0 x1 x2 x7 x11 t37 H
theorem Zst (H0:Hp)(x0 x1 x2 x7 x11 x12:AV)(H:Hp):Dz H0 x0 x1 x2 x7 x11 x12 H=ZcH (YH H0) x0 x1 x2 x7 x11 x12 H:=(VY [4,8,9] _ _ _ _).trans (by kernel_rfl)
theorem ZsM {YH dj224_l1:A6}(hj224_l1:L6 YH dj224_l1):L6 (ZcH YH) (ZcH dj224_l1):=fun _ _ _ _ _ _ _=>
 bR fun _=>hj224_l1 _ _ _ _ _ _ _
def ZcG (Dz:A6)(x0 x1 x2 x7 x11 x12 x13:AV)(H:Hp):Z3:=
 Z0 (YR .u8 x12) fun t18=>
 Z0 (Zl 1 x7 x12) fun t19=>
 Z0 (Zi 1 t19 t18 H) fun r_8=>
 Z0 (YR .u8 x12) fun t21=>
 Z0 (Z5 .geq t21 x0) fun t23=>
 Z0 (Z7 t23 true (.tuple []) (some x12)) fun t25=>
 Z0 (Z7 t23 true (.tuple []) (YR .u8 t25)) fun t26=>
 Z0 (Z7 t23 true (.tuple []) (some x1)) fun t27=>
 Z0 (Z7 t23 true (.tuple []) (Z5 .leq t26 t27)) fun t28=>
 Z0 (Zj t23 t28 (.bool false)) fun t29=>
 Zm t29
  (Z0 (Z5 .add x12 x2) fun t34=>
  Z0 (YR .u8 t34) fun t35=>
  Z0 (Zl 1 x7 x12) fun t36=>
  Z0 (Zi 1 t36 t35 r_8.2) fun r_19=>
  Dz x0 x1 x2 x7 x11 x12 r_19.2)
  (Dz x0 x1 x2 x7 x11 x12 r_8.2)
theorem Zss (H0:Hp)(x0 x1 x2 x7 x11 x12 x13:AV)(H:Hp):RC H0 x0 x1 x2 x7 x11 x12 x13 H=ZcG (Dz H0) x0 x1 x2 x7 x11 x12 x13 H:=(VY [4,8,9] _ _ _ _).trans (by kernel_rfl)
theorem ZsL {Dz dj224_3:A6}(hj224_3:L6 Dz dj224_3):L7 (ZcG Dz) (ZcG dj224_3):=fun _ _ _ _ _ _ _ _=>
 bR fun _=>bR fun _=>bR fun _=>bR fun _=>bR fun _=>bR fun _=>bR fun _=>bR fun _=>bR fun _=>bR fun _=>bK (bR fun _=>bR fun _=>bR fun _=>bR fun _=>hj224_3 _ _ _ _ _ _ _) (hj224_3 _ _ _ _ _ _ _)
def Oz (RB:A1)(RC:A7)(x0 x1 x2 x7 x11 x12:AV)(H:Hp):Z3:=
 Z0 (Z5 .lss x12 x11) fun t13=>
 Zm t13
  (RC x0 x1 x2 x7 x11 x12 t13 H)
  (RB x7 H)
theorem Zrg (H0:Hp)(x0 x1 x2 x7 x11 x12:AV)(H:Hp):YH H0 x0 x1 x2 x7 x11 x12 H=Oz (RB H0) (RC H0) x0 x1 x2 x7 x11 x12 H:=(Zy (C:=cfg) [4,8,9] (Zn 0 (ZiC H0)) _ _).trans (by kernel_rfl)
theorem ZrC {RB dj224_1:A1}(hj224_1:L1 RB dj224_1){RC dj224_2:A7}(hj224_2:L7 RC dj224_2):L6 (Oz RB RC) (Oz dj224_1 dj224_2):=fun _ _ _ _ _ _ _=>
 bR fun _=>bK (hj224_2 _ _ _ _ _ _ _ _) (hj224_1 _ _)
def Zjg:A1:=ZcF
theorem ZrX (H0:Hp):L1 (Zjg) (RB H0):=fun _ _=>Ub (ZsK _ _) (Zsr H0 _ _)
def Zji (YH:A6):A6:=ZcH YH
theorem ZrZ (H0:Hp){yj224_l1:A6}(hj224_l1:L6 yj224_l1 (YH H0)):L6 (Zji yj224_l1) (Dz H0):=fun _ _ _ _ _ _ _=>Ub (ZsM hj224_l1 _ _ _ _ _ _ _) (Zst H0 _ _ _ _ _ _ _)
def Zjh (YH:A6):A7:=ZcG (Zji YH)
theorem ZrY (H0:Hp){yj224_l1:A6}(hj224_l1:L6 yj224_l1 (YH H0)):L7 (Zjh yj224_l1) (RC H0):=fun _ _ _ _ _ _ _ _=>Ub (ZsL (ZrZ H0 hj224_l1) _ _ _ _ _ _ _ _) (Zss H0 _ _ _ _ _ _ _ _)
def Zhr (n:Nat):A6:=@Nat.rec (fun _=>A6) (fun _ _ _ _ _ _ _=>none) (fun _ YH=>Oz (Zjg) (Zjh YH)) n
theorem Zqi (H0:Hp)(n:Nat):L6 (Zhr n) (YH H0):=by
 induction n with
 |zero=>exact fun _ _ _ _ _ _ _=>OH _
 |succ n hj224_l1=>exact fun _ _ _ _ _ _ _=>Ub (ZrC (ZrX H0) (ZrY H0 hj224_l1) _ _ _ _ _ _ _) (Zrg H0 _ _ _ _ _ _ _)
def Zg3 (YH:A6)(p0 p1 p2:AV)(H:Hp):Z3:=
 Z0 (K7 1 1 false (.int .u8 0) (.int .i64 256) (.int .i64 256) H) fun r9=>
 Z0 (Zk (.slice 5) r9.1) fun t11=>
 YH p0 p1 p2 r9.1 t11 (.int .i64 0) r9.2
theorem Ztl (p0 p1 p2:AV)(H:Hp):Zsk p0 p1 p2 H=Zg3 (YH H) p0 p1 p2 H:=(Zd (C:=cfg) (fn:=Tryz.f224) (c:=Z1 Tryz.f224) (n:=40) [4,8,9] Tryz.func224 (by kernel_rfl) (by kernel_rfl) [p0,p1,p2] (by kernel_rfl) H).trans (by kernel_rfl)
theorem Ztu {YH dj224_l1:A6}(hj224_l1:L6 YH dj224_l1):L3 (Zg3 YH) (Zg3 dj224_l1):=fun _ _ _ _=>
 bR fun _=>bR fun _=>hj224_l1 _ _ _ _ _ _ _
def ZqG:A3:=fun p0 p1 p2 H=>Zg3 (Zhr 100000) p0 p1 p2 H
theorem Zty:L3 ZqG Zsk:=fun _ _ _ H=>Ub (Ztu (Zqi H 100000) _ _ _ _) (Ztl _ _ _ _)
def Oe:A3:=fun p0 p1 p2 H=>Ze (Za cfg 224) [p0,p1,p2] H
def ZqI:A3:=fun p0 p1 p2 H=>Ze (ZpY (ZqG)) [p0,p1,p2] H
theorem Ztz:L3 ZqI Oe:=fun _ _ _ _=>Zrl (ZrJ (Zty)) _ _
def Zsj (H:Hp):Z3:=Za cfg 187 [] H
def Ry (H0:Hp)(x0 x1:AV)(H:Hp):Z3:=Pq 187 18 (sub (Z1 Tryz.f187) [1,1,1]) (Zh cfg 18 187 Tryz.f187 H0) [(0,x0),(1,x1)] H
def Zd9 (H0:Hp):KL:=Zc (fun k al H=>Pq 187 18 (sub (Z1 Tryz.f187) [1,1,1]) k (ZX (cfg.keep 187) (sub (Z1 Tryz.f187) [1,1,1]) al) H) (Zh cfg 18 187 Tryz.f187 H0)
theorem ZiB (H0:Hp):ZR 18 (Zd9 H0):=Zu (C:=cfg) (kp:=cfg.keep 187) (sub (Z1 Tryz.f187) [1,1,1]) (Zx 187 Tryz.f187 H0)
def RA (H0:Hp)(x0 x1 x5 x6:AV)(H:Hp):Z3:=Pq 187 18 (sub (Z1 Tryz.f187) [1,1,0,1,0,0,1,1,1]) (Zc (fun k al H=>LPf 187 18 (sub (Z1 Tryz.f187) [1,1,0,1,0,0]) k (ZX (cfg.keep 187) (sub (Z1 Tryz.f187) [1,1,0,1,0,0]) al) H) (Z6 0 (Zd9 H0))) [(0,x0),(1,x1),(5,x5),(6,x6)] H
def Rz (H0:Hp)(x0 x1 x5 x6 x7:AV)(H:Hp):Z3:=Pq 187 18 (sub (Z1 Tryz.f187) [1,1,0,1,0,0,1,1]) (Zc (fun k al H=>LPf 187 18 (sub (Z1 Tryz.f187) [1,1,0,1,0,0]) k (ZX (cfg.keep 187) (sub (Z1 Tryz.f187) [1,1,0,1,0,0]) al) H) (Z6 0 (Zd9 H0))) [(0,x0),(1,x1),(5,x5),(6,x6),(7,x7)] H
def YG (H0:Hp)(x0 x1 x5 x6:AV)(H:Hp):Z3:=LPf 187 18 (sub (Z1 Tryz.f187) [1,1,0,1,0,0]) (Z6 0 (Zd9 H0)) [(0,x0),(1,x1),(5,x5),(6,x6)] H
def ZcC (Oe:A3)(x0 x1:AV)(H:Hp):Z3:=
 Z0 (Oe (.int .u8 65) (.int .u8 90) (.int .i64 32) H) fun r15=>
 Z0 (Oe (.int .u8 97) (.int .u8 122) (.int .i64 (-32)) r15.2) fun r16=>
 Z0 ((YZ [(0,1,(.str [112,111,115,105,120])),(1,1,x1),(2,1,r15.1),(3,1,r16.1)] [(.str []),.nils,(.str []),(.str []),.nils,.nils]).map .agg) fun t17=>
 Z0 (Zi 6 x0 t17 r16.2) fun r_6=>
 Z0 (Z4 true 6 x0 r_6.2) fun v0=>
 some (v0,r_6.2)
theorem Zso (H0:Hp)(x0 x1:AV)(H:Hp):Ry H0 x0 x1 H=ZcC Oe x0 x1 H:=(VY [4,6,7] _ _ _ _).trans (by kernel_rfl)
theorem ZsH {Oe dq224:A3}(hq224:L3 Oe dq224):L2 (ZcC Oe) (ZcC dq224):=fun _ _ _=>
 bC (hq224 _ _ _ _) fun _=>bC (hq224 _ _ _ _) fun _=>bR fun _=>bR fun _=>bR fun _=>le_refl _
def ZcE (YG:A4)(x0 x1 x5 x6:AV)(H:Hp):Z3:=
 Z0 (Z5 .add x6 (.int .i64 1)) fun t13=>
 YG x0 x1 x5 t13 H
theorem Zsq (H0:Hp)(x0 x1 x5 x6:AV)(H:Hp):RA H0 x0 x1 x5 x6 H=ZcE (YG H0) x0 x1 x5 x6 H:=(VY [4,6,7] _ _ _ _).trans (by kernel_rfl)
theorem ZsJ {YG dj187_l1:A4}(hj187_l1:L4 YG dj187_l1):L4 (ZcE YG) (ZcE dj187_l1):=fun _ _ _ _ _=>
 bR fun _=>hj187_l1 _ _ _ _ _
def ZcD (RA:A4)(x0 x1 x5 x6 x7:AV)(H:Hp):Z3:=
 Z0 (Zl 1 x1 x6) fun t12=>
 Z0 (Zi 1 t12 x6 H) fun r_12=>
 RA x0 x1 x5 x6 r_12.2
theorem Zsp (H0:Hp)(x0 x1 x5 x6 x7:AV)(H:Hp):Rz H0 x0 x1 x5 x6 x7 H=ZcD (RA H0) x0 x1 x5 x6 x7 H:=(VY [4,6,7] _ _ _ _).trans (by kernel_rfl)
theorem ZsI {RA dj187_3:A4}(hj187_3:L4 RA dj187_3):L5 (ZcD RA) (ZcD dj187_3):=fun _ _ _ _ _ _=>
 bR fun _=>bR fun _=>hj187_3 _ _ _ _ _
def Oy (Ry:A2)(Rz:A5)(x0 x1 x5 x6:AV)(H:Hp):Z3:=
 Z0 (Z5 .lss x6 x5) fun t7=>
 Zm t7
  (Rz x0 x1 x5 x6 t7 H)
  (Ry x0 x1 H)
theorem Zrf (H0:Hp)(x0 x1 x5 x6:AV)(H:Hp):YG H0 x0 x1 x5 x6 H=Oy (Ry H0) (Rz H0) x0 x1 x5 x6 H:=(Zy (C:=cfg) [4,6,7] (Zn 0 (ZiB H0)) _ _).trans (by kernel_rfl)
theorem ZrB {Ry dj187_1:A2}(hj187_1:L2 Ry dj187_1){Rz dj187_2:A5}(hj187_2:L5 Rz dj187_2):L4 (Oy Ry Rz) (Oy dj187_1 dj187_2):=fun _ _ _ _ _=>
 bR fun _=>bK (hj187_2 _ _ _ _ _ _) (hj187_1 _ _ _)
def Zjd:A2:=ZcC ZqI
theorem ZrU (H0:Hp):L2 (Zjd) (Ry H0):=fun _ _ _=>Ub (ZsH Ztz _ _ _) (Zso H0 _ _ _)
def Zjf (YG:A4):A4:=ZcE YG
theorem ZrW (H0:Hp){yj187_l1:A4}(hj187_l1:L4 yj187_l1 (YG H0)):L4 (Zjf yj187_l1) (RA H0):=fun _ _ _ _ _=>Ub (ZsJ hj187_l1 _ _ _ _ _) (Zsq H0 _ _ _ _ _)
def Zje (YG:A4):A5:=ZcD (Zjf YG)
theorem ZrV (H0:Hp){yj187_l1:A4}(hj187_l1:L4 yj187_l1 (YG H0)):L5 (Zje yj187_l1) (Rz H0):=fun _ _ _ _ _ _=>Ub (ZsI (ZrW H0 hj187_l1) _ _ _ _ _ _) (Zsp H0 _ _ _ _ _ _)
def Zhq (n:Nat):A4:=@Nat.rec (fun _=>A4) (fun _ _ _ _ _=>none) (fun _ YG=>Oy (Zjd) (Zje YG)) n
theorem Zqh (H0:Hp)(n:Nat):L4 (Zhq n) (YG H0):=by
 induction n with
 |zero=>exact fun _ _ _ _ _=>OH _
 |succ n hj187_l1=>exact fun _ _ _ _ _=>Ub (ZrB (ZrU H0) (ZrV H0 hj187_l1) _ _ _ _ _) (Zrf H0 _ _ _ _ _)
def Zg2 (YG:A4)(H:Hp):Z3:=
 Z0 (some ((.ptr H.length 0),H++[.cells [(.str []),.nils,(.str []),(.str []),.nils,.nils]])) fun r0=>
 Z0 (K7 1 8 false (.int .i64 0) (.int .i64 256) (.int .i64 256) r0.2) fun r3=>
 Z0 (Zk (.slice 3) r3.1) fun t5=>
 YG r0.1 r3.1 t5 (.int .i64 0) r3.2
theorem Ztk (H:Hp):Zsj H=Zg2 (YG H) H:=(Zd (C:=cfg) (fn:=Tryz.f187) (c:=Z1 Tryz.f187) (n:=18) [4,6,7] Tryz.func187 (by kernel_rfl) (by kernel_rfl) [] (by kernel_rfl) H).trans (by kernel_rfl)
theorem Ztt {YG dj187_l1:A4}(hj187_l1:L4 YG dj187_l1):L0 (Zg2 YG) (Zg2 dj187_l1):=fun _=>
 bR fun _=>bR fun _=>bR fun _=>hj187_l1 _ _ _ _ _
def ZqF:A0:=fun H=>Zg2 (Zhq 100000) H
theorem Ztx:L0 ZqF Zsj:=fun H=>Ub (Ztt (Zqh H 100000) _) (Ztk _)
end
end Go.Am
