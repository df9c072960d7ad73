/-
  Functions of the translation that are worked out at given arguments: written by program (wip/gen.py).
-/
import Derived.Test.YtomfadecfjephaaGreatDoorVkGx
import Derived.Test.YtomfadecfjephaaGreatDoorEmWx
namespace Go.Am
open Go.Proofs
set_option maxRecDepth 100000
set_option linter.unusedVariables false

noncomputable abbrev CXf (f n : Nat) := CXL cfg (callw cfg) (LPL cfg (cfg.keep f) n) (cfg.keep f) n seqL blockL
noncomputable abbrev LPf (f n : Nat) := LPL cfg (cfg.keep f) n
noncomputable def c25 (H : Hp) : Res := callw cfg 25 [] H
noncomputable def j25_1 (H0 : Hp) (x0 x1 x2 x3 : AV) (H : Hp) : Res := CXf 25 55 (sub (bodyOf Tryz.f25) [1, 1, 1, 1]) (retL cfg 55 25 Tryz.f25 H0) [(0, x0), (1, x1), (2, x2), (3, x3)] H
noncomputable def k25_1 (H0 : Hp) : KL := seqL (fun k al H => CXf 25 55 (sub (bodyOf Tryz.f25) [1, 1, 1, 1]) k (trimL (cfg.keep 25) (sub (bodyOf Tryz.f25) [1, 1, 1, 1]) al) H) (retL cfg 55 25 Tryz.f25 H0)
theorem k25_1_tame (H0 : Hp) : Tame 55 (k25_1 H0) := tame_seq (C := cfg) (kp := cfg.keep 25) (sub (bodyOf Tryz.f25) [1, 1, 1, 1]) (tame_ret 25 Tryz.f25 H0)
noncomputable def j25_3 (H0 : Hp) (x0 x1 x2 x3 x4 : AV) (H : Hp) : Res := CXf 25 55 (sub (bodyOf Tryz.f25) [1, 1, 1, 0, 1, 0, 0, 1, 1]) (seqL (fun k al H => LPf 25 55 (sub (bodyOf Tryz.f25) [1, 1, 1, 0, 1, 0, 0]) k (trimL (cfg.keep 25) (sub (bodyOf Tryz.f25) [1, 1, 1, 0, 1, 0, 0]) al) H) (blockL 0 (k25_1 H0))) [(0, x0), (1, x1), (2, x2), (3, x3), (4, x4)] H
noncomputable def k25_2 (H0 : Hp) : KL := seqL (fun k al H => CXf 25 55 (sub (bodyOf Tryz.f25) [1, 1, 1, 0, 1, 0, 0, 1, 1]) k (trimL (cfg.keep 25) (sub (bodyOf Tryz.f25) [1, 1, 1, 0, 1, 0, 0, 1, 1]) al) H) (seqL (fun k al H => LPf 25 55 (sub (bodyOf Tryz.f25) [1, 1, 1, 0, 1, 0, 0]) k (trimL (cfg.keep 25) (sub (bodyOf Tryz.f25) [1, 1, 1, 0, 1, 0, 0]) al) H) (blockL 0 (k25_1 H0)))
noncomputable def j25_5 (H0 : Hp) (x0 x1 x2 x3 x4 x5 x6 : AV) (H : Hp) : Res := CXf 25 55 (sub (bodyOf Tryz.f25) [1, 1, 1, 0, 1, 0, 0, 1, 0, 0, 1, 1, 1]) (blockL 1 (k25_2 H0)) [(0, x0), (1, x1), (2, x2), (3, x3), (4, x4), (5, x5), (6, x6)] H
noncomputable def j25_4 (H0 : Hp) (x0 x1 x2 x3 x4 x5 x6 : AV) (H : Hp) : Res := CXf 25 55 (sub (bodyOf Tryz.f25) [1, 1, 1, 0, 1, 0, 0, 1, 0, 0, 1, 1]) (blockL 1 (k25_2 H0)) [(0, x0), (1, x1), (2, x2), (3, x3), (4, x4), (5, x5), (6, x6)] H
noncomputable def j25_2 (H0 : Hp) (x0 x1 x2 x3 x4 : AV) (H : Hp) : Res := CXf 25 55 (sub (bodyOf Tryz.f25) [1, 1, 1, 0, 1, 0, 0, 1]) (seqL (fun k al H => LPf 25 55 (sub (bodyOf Tryz.f25) [1, 1, 1, 0, 1, 0, 0]) k (trimL (cfg.keep 25) (sub (bodyOf Tryz.f25) [1, 1, 1, 0, 1, 0, 0]) al) H) (blockL 0 (k25_1 H0))) [(0, x0), (1, x1), (2, x2), (3, x3), (4, x4)] H
noncomputable def j25_l1 (H0 : Hp) (x0 x1 x2 x3 x4 : AV) (H : Hp) : Res := LPf 25 55 (sub (bodyOf Tryz.f25) [1, 1, 1, 0, 1, 0, 0]) (blockL 0 (k25_1 H0)) [(0, x0), (1, x1), (2, x2), (3, x3), (4, x4)] H
noncomputable def b25_1 (x0 x1 x2 x3 : AV) (H : Hp) : Res :=
  bnd (cvRd x2 H) fun t49_5 =>
  bnd (afield 2 x1) fun t50_6 =>
  bnd (astoreU 1 t50_6 t49_5 H) fun r_7 =>
  bnd (cvRd x3 r_7.2) fun t52_8 =>
  bnd (afield 3 x1) fun t53_9 =>
  bnd (astoreU 1 t53_9 t52_8 r_7.2) fun r_10 =>
  bnd (aload true 6 x1 r_10.2) fun t54_11 =>
  bnd (astoreU 6 x0 t54_11 r_10.2) fun r_12 =>
  bnd (aload true 6 x0 r_12.2) fun v0_13 =>
  some (v0_13, r_12.2)
theorem e25_1 (H0 : Hp) (x0 x1 x2 x3 : AV) (H : Hp) : j25_1 H0 x0 x1 x2 x3 H = b25_1 x0 x1 x2 x3 H := (CXM_eq [5, 6, 9, 11, 14] _ _ _ _).trans (by kernel_rfl)
theorem m25_1 : L4 (b25_1) (b25_1) := fun _ _ _ _ _ =>
  bR fun _ => bR fun _ => bR fun _ => bR fun _ => bR fun _ => bR fun _ => bR fun _ => bR fun _ => bR fun _ => le_refl _
noncomputable def b25_3 (j25_l1 : A5) (x0 x1 x2 x3 x4 : AV) (H : Hp) : Res :=
  bnd (ibin .add x4 (.int .i64 1)) fun t11_14 =>
  j25_l1 x0 x1 x2 x3 t11_14 H
theorem e25_3 (H0 : Hp) (x0 x1 x2 x3 x4 : AV) (H : Hp) : j25_3 H0 x0 x1 x2 x3 x4 H = b25_3 (j25_l1 H0) x0 x1 x2 x3 x4 H := (CXM_eq [5, 6, 9, 11, 14] _ _ _ _).trans (by kernel_rfl)
theorem m25_3 {j25_l1 dj25_l1 : A5} (hj25_l1 : L5 j25_l1 dj25_l1) : L5 (b25_3 j25_l1) (b25_3 dj25_l1) := fun _ _ _ _ _ _ =>
  bR fun _ => hj25_l1 _ _ _ _ _ _
noncomputable def b25_5 (j25_3 : A5) (x0 x1 x2 x3 x4 x5 x6 : AV) (H : Hp) : Res :=
  bnd (afield 1 x1) fun t34_17 =>
  bnd (aload false 1 t34_17 H) fun t35_18 =>
  bnd ((setElems 1 [(0, x4)] [(.int .i64 0)]).map (.vs 1 .clip)) fun t37_19 =>
  bnd (aappE 1 8 t35_18 t37_19 H) fun r38_20 =>
  bnd (afield 1 x1) fun t39_21 =>
  bnd (astoreU 1 t39_21 r38_20.1 r38_20.2) fun r_22 =>
  bnd ((setElems 1 [(0, x5)] [(.int .u8 0)]).map (.vs 1 .clip)) fun t42_23 =>
  bnd (aappE 1 1 x2 t42_23 r_22.2) fun r43_24 =>
  bnd ((setElems 1 [(0, x6)] [(.int .u8 0)]).map (.vs 1 .clip)) fun t46_25 =>
  bnd (aappE 1 1 x3 t46_25 r43_24.2) fun r47_26 =>
  j25_3 x0 x1 r43_24.1 r47_26.1 x4 r47_26.2
theorem e25_5 (H0 : Hp) (x0 x1 x2 x3 x4 x5 x6 : AV) (H : Hp) : j25_5 H0 x0 x1 x2 x3 x4 x5 x6 H = b25_5 (j25_3 H0) x0 x1 x2 x3 x4 x5 x6 H := (CXM_eq [5, 6, 9, 11, 14] _ _ _ _).trans (by kernel_rfl)
theorem m25_5 {j25_3 dj25_3 : A5} (hj25_3 : L5 j25_3 dj25_3) : L7 (b25_5 j25_3) (b25_5 dj25_3) := fun _ _ _ _ _ _ _ _ =>
  bR fun _ => bR fun _ => bR fun _ => bR fun _ => bR fun _ => bR fun _ => bR fun _ => bR fun _ => bR fun _ => bR fun _ => hj25_3 _ _ _ _ _ _
noncomputable def b25_4 (j25_5 : A7) (x0 x1 x2 x3 x4 x5 x6 : AV) (H : Hp) : Res :=
  bnd (ibin .geq x4 (.int .i64 97)) fun t26_27 =>
  bnd (gdv t26_27 true (.tuple []) (some x4)) fun t28_28 =>
  bnd (gdv t26_27 true (.tuple []) (ibin .leq t28_28 (.int .i64 122))) fun t29_29 =>
  bnd (apick t26_27 t29_29 (.bool false)) fun t30_30 =>
  cnd t30_30
    (bnd (ibin .sub x4 (.int .i64 32)) fun t32_31 =>
    bnd (cvInt .u8 t32_31) fun t33_32 =>
    j25_5 x0 x1 x2 x3 x4 x5 t33_32 H)
    (j25_5 x0 x1 x2 x3 x4 x5 x6 H)
theorem e25_4 (H0 : Hp) (x0 x1 x2 x3 x4 x5 x6 : AV) (H : Hp) : j25_4 H0 x0 x1 x2 x3 x4 x5 x6 H = b25_4 (j25_5 H0) x0 x1 x2 x3 x4 x5 x6 H := (CXM_eq [5, 6, 9, 11, 14] _ _ _ _).trans (by kernel_rfl)
theorem m25_4 {j25_5 dj25_5 : A7} (hj25_5 : L7 j25_5 dj25_5) : L7 (b25_4 j25_5) (b25_4 dj25_5) := fun _ _ _ _ _ _ _ _ =>
  bR fun _ => bR fun _ => bR fun _ => bR fun _ => bK (bR fun _ => bR fun _ => hj25_5 _ _ _ _ _ _ _ _) (hj25_5 _ _ _ _ _ _ _ _)
noncomputable def b25_2 (j25_4 : A7) (x0 x1 x2 x3 x4 : AV) (H : Hp) : Res :=
  bnd (cvInt .u8 x4) fun t13_15 =>
  bnd (cvInt .u8 x4) fun t15_16 =>
  bnd (ibin .geq x4 (.int .i64 65)) fun t17_33 =>
  bnd (gdv t17_33 true (.tuple []) (some x4)) fun t19_34 =>
  bnd (gdv t17_33 true (.tuple []) (ibin .leq t19_34 (.int .i64 90))) fun t20_35 =>
  bnd (apick t17_33 t20_35 (.bool false)) fun t21_36 =>
  cnd t21_36
    (bnd (ibin .add x4 (.int .i64 32)) fun t23_37 =>
    bnd (cvInt .u8 t23_37) fun t24_38 =>
    j25_4 x0 x1 x2 x3 x4 t24_38 t15_16 H)
    (j25_4 x0 x1 x2 x3 x4 t13_15 t15_16 H)
theorem e25_2 (H0 : Hp) (x0 x1 x2 x3 x4 : AV) (H : Hp) : j25_2 H0 x0 x1 x2 x3 x4 H = b25_2 (j25_4 H0) x0 x1 x2 x3 x4 H := (CXM_eq [5, 6, 9, 11, 14] _ _ _ _).trans (by kernel_rfl)
theorem m25_2 {j25_4 dj25_4 : A7} (hj25_4 : L7 j25_4 dj25_4) : L5 (b25_2 j25_4) (b25_2 dj25_4) := fun _ _ _ _ _ _ =>
  bR fun _ => bR fun _ => bR fun _ => bR fun _ => bR fun _ => bR fun _ => bK (bR fun _ => bR fun _ => hj25_4 _ _ _ _ _ _ _ _) (hj25_4 _ _ _ _ _ _ _ _)
noncomputable def b25_l1 (j25_1 : A4) (j25_2 : A5) (x0 x1 x2 x3 x4 : AV) (H : Hp) : Res :=
  bnd (ibin .lss x4 (.int .i64 256)) fun t9_39 =>
  cnd t9_39
    (j25_2 x0 x1 x2 x3 x4 H)
    (j25_1 x0 x1 x2 x3 H)
theorem e25_l1 (H0 : Hp) (x0 x1 x2 x3 x4 : AV) (H : Hp) : j25_l1 H0 x0 x1 x2 x3 x4 H = b25_l1 (j25_1 H0) (j25_2 H0) x0 x1 x2 x3 x4 H := (LPL_eqm (C := cfg) [5, 6, 9, 11, 14] (tame_block 0 (k25_1_tame H0)) _ _).trans (by kernel_rfl)
theorem m25_l1 {j25_1 dj25_1 : A4} (hj25_1 : L4 j25_1 dj25_1) {j25_2 dj25_2 : A5} (hj25_2 : L5 j25_2 dj25_2) : L5 (b25_l1 j25_1 j25_2) (b25_l1 dj25_1 dj25_2) := fun _ _ _ _ _ _ =>
  bR fun _ => bK (hj25_2 _ _ _ _ _ _) (hj25_1 _ _ _ _ _)
noncomputable def rj25_1 : A4 := b25_1
theorem sj25_1 (H0 : Hp) : L4 (rj25_1) (j25_1 H0) := fun _ _ _ _ _ => le_eq (m25_1 _ _ _ _ _) (e25_1 H0 _ _ _ _ _)
noncomputable def rj25_3 (j25_l1 : A5) : A5 := b25_3 j25_l1
theorem sj25_3 (H0 : Hp) {yj25_l1 : A5} (hj25_l1 : L5 yj25_l1 (j25_l1 H0)) : L5 (rj25_3 yj25_l1) (j25_3 H0) := fun _ _ _ _ _ _ => le_eq (m25_3 hj25_l1 _ _ _ _ _ _) (e25_3 H0 _ _ _ _ _ _)
noncomputable def rj25_5 (j25_l1 : A5) : A7 := b25_5 (rj25_3 j25_l1)
theorem sj25_5 (H0 : Hp) {yj25_l1 : A5} (hj25_l1 : L5 yj25_l1 (j25_l1 H0)) : L7 (rj25_5 yj25_l1) (j25_5 H0) := fun _ _ _ _ _ _ _ _ => le_eq (m25_5 (sj25_3 H0 hj25_l1) _ _ _ _ _ _ _ _) (e25_5 H0 _ _ _ _ _ _ _ _)
noncomputable def rj25_4 (j25_l1 : A5) : A7 := b25_4 (rj25_5 j25_l1)
theorem sj25_4 (H0 : Hp) {yj25_l1 : A5} (hj25_l1 : L5 yj25_l1 (j25_l1 H0)) : L7 (rj25_4 yj25_l1) (j25_4 H0) := fun _ _ _ _ _ _ _ _ => le_eq (m25_4 (sj25_5 H0 hj25_l1) _ _ _ _ _ _ _ _) (e25_4 H0 _ _ _ _ _ _ _ _)
noncomputable def rj25_2 (j25_l1 : A5) : A5 := b25_2 (rj25_4 j25_l1)
theorem sj25_2 (H0 : Hp) {yj25_l1 : A5} (hj25_l1 : L5 yj25_l1 (j25_l1 H0)) : L5 (rj25_2 yj25_l1) (j25_2 H0) := fun _ _ _ _ _ _ => le_eq (m25_2 (sj25_4 H0 hj25_l1) _ _ _ _ _ _) (e25_2 H0 _ _ _ _ _ _)
noncomputable def rj25_l1 (n : Nat) : A5 := @Nat.rec (fun _ => A5) (fun _ _ _ _ _ _ => none) (fun _ j25_l1 => b25_l1 (rj25_1) (rj25_2 j25_l1)) n
theorem sj25_l1 (H0 : Hp) (n : Nat) : L5 (rj25_l1 n) (j25_l1 H0) := by
  induction n with
  | zero => exact fun _ _ _ _ _ _ => le_none _
  | succ n hj25_l1 => exact fun _ _ _ _ _ _ => le_eq (m25_l1 (sj25_1 H0) (sj25_2 H0 hj25_l1) _ _ _ _ _ _) (e25_l1 H0 _ _ _ _ _ _)
noncomputable def bc25 (j25_l1 : A5) (H : Hp) : Res :=
  bnd (some ((.ptr H.length 0), H ++ [.cells [(.str []), .nils, (.str []), (.str []), .nils, .nils]])) fun r0_1 =>
  bnd ((afill [(0, 1, (.str [112, 111, 115, 105, 120]))] [(.str []), .nils, (.str []), (.str []), .nils, .nils]).map .agg) fun t7_2 =>
  bnd (some ((.ptr r0_1.2.length 0), r0_1.2 ++ [.cells [(.str []), .nils, (.str []), (.str []), .nils, .nils]])) fun r1_3 =>
  bnd (astoreU 6 r1_3.1 t7_2 r1_3.2) fun r_4 =>
  j25_l1 r0_1.1 r1_3.1 .nils .nils (.int .i64 0) r_4.2
theorem ec25 (H : Hp) : c25 H = bc25 (j25_l1 H) H := (callw_cxm (C := cfg) (fn := Tryz.f25) (c := bodyOf Tryz.f25) (n := 55) [5, 6, 9, 11, 14] Tryz.func25 (by kernel_rfl) (by kernel_rfl) [] (by kernel_rfl) H).trans (by kernel_rfl)
theorem mc25 {j25_l1 dj25_l1 : A5} (hj25_l1 : L5 j25_l1 dj25_l1) : L0 (bc25 j25_l1) (bc25 dj25_l1) := fun _ =>
  bR fun _ => bR fun _ => bR fun _ => bR fun _ => hj25_l1 _ _ _ _ _ _
noncomputable def rc25 : A0 := fun H => bc25 (rj25_l1 100000) H
theorem sc25 : L0 rc25 c25 := fun H => le_eq (mc25 (sj25_l1 H 100000) _) (ec25 _)
noncomputable def c111 (p0 p1 p2 : AV) (H : Hp) : Res := callw cfg 111 [p0, p1, p2] H
noncomputable def j111_1 (H0 : Hp) (x7 : AV) (H : Hp) : Res := CXf 111 40 (sub (bodyOf Tryz.f111) [1, 1, 1]) (retL cfg 40 111 Tryz.f111 H0) [(7, x7)] H
noncomputable def k111_1 (H0 : Hp) : KL := seqL (fun k al H => CXf 111 40 (sub (bodyOf Tryz.f111) [1, 1, 1]) k (trimL (cfg.keep 111) (sub (bodyOf Tryz.f111) [1, 1, 1]) al) H) (retL cfg 40 111 Tryz.f111 H0)
theorem k111_1_tame (H0 : Hp) : Tame 40 (k111_1 H0) := tame_seq (C := cfg) (kp := cfg.keep 111) (sub (bodyOf Tryz.f111) [1, 1, 1]) (tame_ret 111 Tryz.f111 H0)
noncomputable def j111_3 (H0 : Hp) (x0 x1 x2 x7 x11 x12 : AV) (H : Hp) : Res := CXf 111 40 (sub (bodyOf Tryz.f111) [1, 1, 0, 1, 0, 0, 1, 1, 1]) (seqL (fun k al H => LPf 111 40 (sub (bodyOf Tryz.f111) [1, 1, 0, 1, 0, 0]) k (trimL (cfg.keep 111) (sub (bodyOf Tryz.f111) [1, 1, 0, 1, 0, 0]) al) H) (blockL 0 (k111_1 H0))) [(0, x0), (1, x1), (2, x2), (7, x7), (11, x11), (12, x12)] H
noncomputable def j111_2 (H0 : Hp) (x0 x1 x2 x7 x11 x12 x13 : AV) (H : Hp) : Res := CXf 111 40 (sub (bodyOf Tryz.f111) [1, 1, 0, 1, 0, 0, 1, 1]) (seqL (fun k al H => LPf 111 40 (sub (bodyOf Tryz.f111) [1, 1, 0, 1, 0, 0]) k (trimL (cfg.keep 111) (sub (bodyOf Tryz.f111) [1, 1, 0, 1, 0, 0]) al) H) (blockL 0 (k111_1 H0))) [(0, x0), (1, x1), (2, x2), (7, x7), (11, x11), (12, x12), (13, x13)] H
noncomputable def j111_l1 (H0 : Hp) (x0 x1 x2 x7 x11 x12 : AV) (H : Hp) : Res := LPf 111 40 (sub (bodyOf Tryz.f111) [1, 1, 0, 1, 0, 0]) (blockL 0 (k111_1 H0)) [(0, x0), (1, x1), (2, x2), (7, x7), (11, x11), (12, x12)] H
noncomputable def b111_1 (x7 : AV) (H : Hp) : Res :=
  bnd (cvRd x7 H) fun t39_2 =>
  some (t39_2, H)
theorem e111_1 (H0 : Hp) (x7 : AV) (H : Hp) : j111_1 H0 x7 H = b111_1 x7 H := (CXM_eq [4, 8, 9] _ _ _ _).trans (by kernel_rfl)
theorem m111_1 : L1 (b111_1) (b111_1) := fun _ _ =>
  bR fun _ => le_refl _
noncomputable def b111_3 (j111_l1 : A6) (x0 x1 x2 x7 x11 x12 : AV) (H : Hp) : Res :=
  bnd (ibin .add x12 (.int .i64 1)) fun t37_5 =>
  j111_l1 x0 x1 x2 x7 x11 t37_5 H
theorem e111_3 (H0 : Hp) (x0 x1 x2 x7 x11 x12 : AV) (H : Hp) : j111_3 H0 x0 x1 x2 x7 x11 x12 H = b111_3 (j111_l1 H0) x0 x1 x2 x7 x11 x12 H := (CXM_eq [4, 8, 9] _ _ _ _).trans (by kernel_rfl)
theorem m111_3 {j111_l1 dj111_l1 : A6} (hj111_l1 : L6 j111_l1 dj111_l1) : L6 (b111_3 j111_l1) (b111_3 dj111_l1) := fun _ _ _ _ _ _ _ =>
  bR fun _ => hj111_l1 _ _ _ _ _ _ _
noncomputable def b111_2 (j111_3 : A6) (x0 x1 x2 x7 x11 x12 x13 : AV) (H : Hp) : Res :=
  bnd (cvInt .u8 x12) fun t18_6 =>
  bnd (aindexS 1 x7 x12) fun t19_7 =>
  bnd (astoreU 1 t19_7 t18_6 H) fun r_8 =>
  bnd (cvInt .u8 x12) fun t21_9 =>
  bnd (ibin .geq t21_9 x0) fun t23_10 =>
  bnd (gdv t23_10 true (.tuple []) (some x12)) fun t25_11 =>
  bnd (gdv t23_10 true (.tuple []) (cvInt .u8 t25_11)) fun t26_12 =>
  bnd (gdv t23_10 true (.tuple []) (some x1)) fun t27_13 =>
  bnd (gdv t23_10 true (.tuple []) (ibin .leq t26_12 t27_13)) fun t28_14 =>
  bnd (apick t23_10 t28_14 (.bool false)) fun t29_15 =>
  cnd t29_15
    (bnd (ibin .add x12 x2) fun t34_16 =>
    bnd (cvInt .u8 t34_16) fun t35_17 =>
    bnd (aindexS 1 x7 x12) fun t36_18 =>
    bnd (astoreU 1 t36_18 t35_17 r_8.2) fun r_19 =>
    j111_3 x0 x1 x2 x7 x11 x12 r_19.2)
    (j111_3 x0 x1 x2 x7 x11 x12 r_8.2)
theorem e111_2 (H0 : Hp) (x0 x1 x2 x7 x11 x12 x13 : AV) (H : Hp) : j111_2 H0 x0 x1 x2 x7 x11 x12 x13 H = b111_2 (j111_3 H0) x0 x1 x2 x7 x11 x12 x13 H := (CXM_eq [4, 8, 9] _ _ _ _).trans (by kernel_rfl)
theorem m111_2 {j111_3 dj111_3 : A6} (hj111_3 : L6 j111_3 dj111_3) : L7 (b111_2 j111_3) (b111_2 dj111_3) := fun _ _ _ _ _ _ _ _ =>
  bR fun _ => bR fun _ => bR fun _ => bR fun _ => bR fun _ => bR fun _ => bR fun _ => bR fun _ => bR fun _ => bR fun _ => bK (bR fun _ => bR fun _ => bR fun _ => bR fun _ => hj111_3 _ _ _ _ _ _ _) (hj111_3 _ _ _ _ _ _ _)
noncomputable def b111_l1 (j111_1 : A1) (j111_2 : A7) (x0 x1 x2 x7 x11 x12 : AV) (H : Hp) : Res :=
  bnd (ibin .lss x12 x11) fun t13_4 =>
  cnd t13_4
    (j111_2 x0 x1 x2 x7 x11 x12 t13_4 H)
    (j111_1 x7 H)
theorem e111_l1 (H0 : Hp) (x0 x1 x2 x7 x11 x12 : AV) (H : Hp) : j111_l1 H0 x0 x1 x2 x7 x11 x12 H = b111_l1 (j111_1 H0) (j111_2 H0) x0 x1 x2 x7 x11 x12 H := (LPL_eqm (C := cfg) [4, 8, 9] (tame_block 0 (k111_1_tame H0)) _ _).trans (by kernel_rfl)
theorem m111_l1 {j111_1 dj111_1 : A1} (hj111_1 : L1 j111_1 dj111_1) {j111_2 dj111_2 : A7} (hj111_2 : L7 j111_2 dj111_2) : L6 (b111_l1 j111_1 j111_2) (b111_l1 dj111_1 dj111_2) := fun _ _ _ _ _ _ _ =>
  bR fun _ => bK (hj111_2 _ _ _ _ _ _ _ _) (hj111_1 _ _)
noncomputable def rj111_1 : A1 := b111_1
theorem sj111_1 (H0 : Hp) : L1 (rj111_1) (j111_1 H0) := fun _ _ => le_eq (m111_1 _ _) (e111_1 H0 _ _)
noncomputable def rj111_3 (j111_l1 : A6) : A6 := b111_3 j111_l1
theorem sj111_3 (H0 : Hp) {yj111_l1 : A6} (hj111_l1 : L6 yj111_l1 (j111_l1 H0)) : L6 (rj111_3 yj111_l1) (j111_3 H0) := fun _ _ _ _ _ _ _ => le_eq (m111_3 hj111_l1 _ _ _ _ _ _ _) (e111_3 H0 _ _ _ _ _ _ _)
noncomputable def rj111_2 (j111_l1 : A6) : A7 := b111_2 (rj111_3 j111_l1)
theorem sj111_2 (H0 : Hp) {yj111_l1 : A6} (hj111_l1 : L6 yj111_l1 (j111_l1 H0)) : L7 (rj111_2 yj111_l1) (j111_2 H0) := fun _ _ _ _ _ _ _ _ => le_eq (m111_2 (sj111_3 H0 hj111_l1) _ _ _ _ _ _ _ _) (e111_2 H0 _ _ _ _ _ _ _ _)
noncomputable def rj111_l1 (n : Nat) : A6 := @Nat.rec (fun _ => A6) (fun _ _ _ _ _ _ _ => none) (fun _ j111_l1 => b111_l1 (rj111_1) (rj111_2 j111_l1)) n
theorem sj111_l1 (H0 : Hp) (n : Nat) : L6 (rj111_l1 n) (j111_l1 H0) := by
  induction n with
  | zero => exact fun _ _ _ _ _ _ _ => le_none _
  | succ n hj111_l1 => exact fun _ _ _ _ _ _ _ => le_eq (m111_l1 (sj111_1 H0) (sj111_2 H0 hj111_l1) _ _ _ _ _ _ _) (e111_l1 H0 _ _ _ _ _ _ _)
noncomputable def bc111 (j111_l1 : A6) (p0 p1 p2 : AV) (H : Hp) : Res :=
  bnd (amake 1 1 false (.int .u8 0) (.int .i64 256) (.int .i64 256) H) fun r9_1 =>
  bnd (alenD (.slice 5) r9_1.1) fun t11_3 =>
  j111_l1 p0 p1 p2 r9_1.1 t11_3 (.int .i64 0) r9_1.2
theorem ec111 (p0 p1 p2 : AV) (H : Hp) : c111 p0 p1 p2 H = bc111 (j111_l1 H) p0 p1 p2 H := (callw_cxm (C := cfg) (fn := Tryz.f111) (c := bodyOf Tryz.f111) (n := 40) [4, 8, 9] Tryz.func111 (by kernel_rfl) (by kernel_rfl) [p0, p1, p2] (by kernel_rfl) H).trans (by kernel_rfl)
theorem mc111 {j111_l1 dj111_l1 : A6} (hj111_l1 : L6 j111_l1 dj111_l1) : L3 (bc111 j111_l1) (bc111 dj111_l1) := fun _ _ _ _ =>
  bR fun _ => bR fun _ => hj111_l1 _ _ _ _ _ _ _
noncomputable def rc111 : A3 := fun p0 p1 p2 H => bc111 (rj111_l1 100000) p0 p1 p2 H
theorem sc111 : L3 rc111 c111 := fun _ _ _ H => le_eq (mc111 (sj111_l1 H 100000) _ _ _ _) (ec111 _ _ _ _)
noncomputable def q111 : A3 := fun p0 p1 p2 H => flatC (callw cfg 111) [p0, p1, p2] H
noncomputable def rq111 : A3 := fun p0 p1 p2 H => flatC (ofL3 (rc111)) [p0, p1, p2] H
theorem sq111 : L3 rq111 q111 := fun _ _ _ _ => flat_le (ofL3_le (sc111)) _ _

noncomputable def c91 (H : Hp) : Res := callw cfg 91 [] H
noncomputable def j91_1 (H0 : Hp) (x0 x1 : AV) (H : Hp) : Res := CXf 91 18 (sub (bodyOf Tryz.f91) [1, 1, 1]) (retL cfg 18 91 Tryz.f91 H0) [(0, x0), (1, x1)] H
noncomputable def k91_1 (H0 : Hp) : KL := seqL (fun k al H => CXf 91 18 (sub (bodyOf Tryz.f91) [1, 1, 1]) k (trimL (cfg.keep 91) (sub (bodyOf Tryz.f91) [1, 1, 1]) al) H) (retL cfg 18 91 Tryz.f91 H0)
theorem k91_1_tame (H0 : Hp) : Tame 18 (k91_1 H0) := tame_seq (C := cfg) (kp := cfg.keep 91) (sub (bodyOf Tryz.f91) [1, 1, 1]) (tame_ret 91 Tryz.f91 H0)
noncomputable def j91_3 (H0 : Hp) (x0 x1 x5 x6 : AV) (H : Hp) : Res := CXf 91 18 (sub (bodyOf Tryz.f91) [1, 1, 0, 1, 0, 0, 1, 1, 1]) (seqL (fun k al H => LPf 91 18 (sub (bodyOf Tryz.f91) [1, 1, 0, 1, 0, 0]) k (trimL (cfg.keep 91) (sub (bodyOf Tryz.f91) [1, 1, 0, 1, 0, 0]) al) H) (blockL 0 (k91_1 H0))) [(0, x0), (1, x1), (5, x5), (6, x6)] H
noncomputable def j91_2 (H0 : Hp) (x0 x1 x5 x6 x7 : AV) (H : Hp) : Res := CXf 91 18 (sub (bodyOf Tryz.f91) [1, 1, 0, 1, 0, 0, 1, 1]) (seqL (fun k al H => LPf 91 18 (sub (bodyOf Tryz.f91) [1, 1, 0, 1, 0, 0]) k (trimL (cfg.keep 91) (sub (bodyOf Tryz.f91) [1, 1, 0, 1, 0, 0]) al) H) (blockL 0 (k91_1 H0))) [(0, x0), (1, x1), (5, x5), (6, x6), (7, x7)] H
noncomputable def j91_l1 (H0 : Hp) (x0 x1 x5 x6 : AV) (H : Hp) : Res := LPf 91 18 (sub (bodyOf Tryz.f91) [1, 1, 0, 1, 0, 0]) (blockL 0 (k91_1 H0)) [(0, x0), (1, x1), (5, x5), (6, x6)] H
noncomputable def b91_1 (q111 : A3) (x0 x1 : AV) (H : Hp) : Res :=
  bnd (q111 (.int .u8 65) (.int .u8 90) (.int .i64 32) H) fun r15_3 =>
  bnd (q111 (.int .u8 97) (.int .u8 122) (.int .i64 (-32)) r15_3.2) fun r16_4 =>
  bnd ((afill [(0, 1, (.str [112, 111, 115, 105, 120])), (1, 1, x1), (2, 1, r15_3.1), (3, 1, r16_4.1)] [(.str []), .nils, (.str []), (.str []), .nils, .nils]).map .agg) fun t17_5 =>
  bnd (astoreU 6 x0 t17_5 r16_4.2) fun r_6 =>
  bnd (aload true 6 x0 r_6.2) fun v0_7 =>
  some (v0_7, r_6.2)
theorem e91_1 (H0 : Hp) (x0 x1 : AV) (H : Hp) : j91_1 H0 x0 x1 H = b91_1 q111 x0 x1 H := (CXM_eq [4, 6, 7] _ _ _ _).trans (by kernel_rfl)
theorem m91_1 {q111 dq111 : A3} (hq111 : L3 q111 dq111) : L2 (b91_1 q111) (b91_1 dq111) := fun _ _ _ =>
  bC (hq111 _ _ _ _) fun _ => bC (hq111 _ _ _ _) fun _ => bR fun _ => bR fun _ => bR fun _ => le_refl _
noncomputable def b91_3 (j91_l1 : A4) (x0 x1 x5 x6 : AV) (H : Hp) : Res :=
  bnd (ibin .add x6 (.int .i64 1)) fun t13_10 =>
  j91_l1 x0 x1 x5 t13_10 H
theorem e91_3 (H0 : Hp) (x0 x1 x5 x6 : AV) (H : Hp) : j91_3 H0 x0 x1 x5 x6 H = b91_3 (j91_l1 H0) x0 x1 x5 x6 H := (CXM_eq [4, 6, 7] _ _ _ _).trans (by kernel_rfl)
theorem m91_3 {j91_l1 dj91_l1 : A4} (hj91_l1 : L4 j91_l1 dj91_l1) : L4 (b91_3 j91_l1) (b91_3 dj91_l1) := fun _ _ _ _ _ =>
  bR fun _ => hj91_l1 _ _ _ _ _
noncomputable def b91_2 (j91_3 : A4) (x0 x1 x5 x6 x7 : AV) (H : Hp) : Res :=
  bnd (aindexS 1 x1 x6) fun t12_11 =>
  bnd (astoreU 1 t12_11 x6 H) fun r_12 =>
  j91_3 x0 x1 x5 x6 r_12.2
theorem e91_2 (H0 : Hp) (x0 x1 x5 x6 x7 : AV) (H : Hp) : j91_2 H0 x0 x1 x5 x6 x7 H = b91_2 (j91_3 H0) x0 x1 x5 x6 x7 H := (CXM_eq [4, 6, 7] _ _ _ _).trans (by kernel_rfl)
theorem m91_2 {j91_3 dj91_3 : A4} (hj91_3 : L4 j91_3 dj91_3) : L5 (b91_2 j91_3) (b91_2 dj91_3) := fun _ _ _ _ _ _ =>
  bR fun _ => bR fun _ => hj91_3 _ _ _ _ _
noncomputable def b91_l1 (j91_1 : A2) (j91_2 : A5) (x0 x1 x5 x6 : AV) (H : Hp) : Res :=
  bnd (ibin .lss x6 x5) fun t7_9 =>
  cnd t7_9
    (j91_2 x0 x1 x5 x6 t7_9 H)
    (j91_1 x0 x1 H)
theorem e91_l1 (H0 : Hp) (x0 x1 x5 x6 : AV) (H : Hp) : j91_l1 H0 x0 x1 x5 x6 H = b91_l1 (j91_1 H0) (j91_2 H0) x0 x1 x5 x6 H := (LPL_eqm (C := cfg) [4, 6, 7] (tame_block 0 (k91_1_tame H0)) _ _).trans (by kernel_rfl)
theorem m91_l1 {j91_1 dj91_1 : A2} (hj91_1 : L2 j91_1 dj91_1) {j91_2 dj91_2 : A5} (hj91_2 : L5 j91_2 dj91_2) : L4 (b91_l1 j91_1 j91_2) (b91_l1 dj91_1 dj91_2) := fun _ _ _ _ _ =>
  bR fun _ => bK (hj91_2 _ _ _ _ _ _) (hj91_1 _ _ _)
noncomputable def rj91_1 : A2 := b91_1 rq111
theorem sj91_1 (H0 : Hp) : L2 (rj91_1) (j91_1 H0) := fun _ _ _ => le_eq (m91_1 sq111 _ _ _) (e91_1 H0 _ _ _)
noncomputable def rj91_3 (j91_l1 : A4) : A4 := b91_3 j91_l1
theorem sj91_3 (H0 : Hp) {yj91_l1 : A4} (hj91_l1 : L4 yj91_l1 (j91_l1 H0)) : L4 (rj91_3 yj91_l1) (j91_3 H0) := fun _ _ _ _ _ => le_eq (m91_3 hj91_l1 _ _ _ _ _) (e91_3 H0 _ _ _ _ _)
noncomputable def rj91_2 (j91_l1 : A4) : A5 := b91_2 (rj91_3 j91_l1)
theorem sj91_2 (H0 : Hp) {yj91_l1 : A4} (hj91_l1 : L4 yj91_l1 (j91_l1 H0)) : L5 (rj91_2 yj91_l1) (j91_2 H0) := fun _ _ _ _ _ _ => le_eq (m91_2 (sj91_3 H0 hj91_l1) _ _ _ _ _ _) (e91_2 H0 _ _ _ _ _ _)
noncomputable def rj91_l1 (n : Nat) : A4 := @Nat.rec (fun _ => A4) (fun _ _ _ _ _ => none) (fun _ j91_l1 => b91_l1 (rj91_1) (rj91_2 j91_l1)) n
theorem sj91_l1 (H0 : Hp) (n : Nat) : L4 (rj91_l1 n) (j91_l1 H0) := by
  induction n with
  | zero => exact fun _ _ _ _ _ => le_none _
  | succ n hj91_l1 => exact fun _ _ _ _ _ => le_eq (m91_l1 (sj91_1 H0) (sj91_2 H0 hj91_l1) _ _ _ _ _) (e91_l1 H0 _ _ _ _ _)
noncomputable def bc91 (j91_l1 : A4) (H : Hp) : Res :=
  bnd (some ((.ptr H.length 0), H ++ [.cells [(.str []), .nils, (.str []), (.str []), .nils, .nils]])) fun r0_1 =>
  bnd (amake 1 8 false (.int .i64 0) (.int .i64 256) (.int .i64 256) r0_1.2) fun r3_2 =>
  bnd (alenD (.slice 3) r3_2.1) fun t5_8 =>
  j91_l1 r0_1.1 r3_2.1 t5_8 (.int .i64 0) r3_2.2
theorem ec91 (H : Hp) : c91 H = bc91 (j91_l1 H) H := (callw_cxm (C := cfg) (fn := Tryz.f91) (c := bodyOf Tryz.f91) (n := 18) [4, 6, 7] Tryz.func91 (by kernel_rfl) (by kernel_rfl) [] (by kernel_rfl) H).trans (by kernel_rfl)
theorem mc91 {j91_l1 dj91_l1 : A4} (hj91_l1 : L4 j91_l1 dj91_l1) : L0 (bc91 j91_l1) (bc91 dj91_l1) := fun _ =>
  bR fun _ => bR fun _ => bR fun _ => hj91_l1 _ _ _ _ _
noncomputable def rc91 : A0 := fun H => bc91 (rj91_l1 100000) H
theorem sc91 : L0 rc91 c91 := fun H => le_eq (mc91 (sj91_l1 H 100000) _) (ec91 _)
end Go.Am
