/-
  The functions of the translation over the abstract machine, a further part: written by program (wip/gen.py).
-/
import Derived.Test.YtehanadfidoodaaGreatDoorNkGx
namespace Go.Am
open Go.Proofs
set_option maxRecDepth 100000
set_option linter.unusedVariables false
set_option linter.unusedSimpArgs false

noncomputable def L23_MergePlans_J3 (H0 H : Hp) : Res := CXL cfg (callw cfg) (LPL cfg (cfg.keep 8) 65) (cfg.keep 8) 65 seqL blockL (sub (bodyOf Tryz.f8) [1, 1, 1, 1, 1]) (retL cfg 65 8 Tryz.f8 H0) [] H
noncomputable def L23_MergePlans_K1 (H0 : Hp) : KL := seqL (fun k al H => CXL cfg (callw cfg) (LPL cfg (cfg.keep 8) 65) (cfg.keep 8) 65 seqL blockL (sub (bodyOf Tryz.f8) [1, 1, 1, 1, 1]) k (trimL (cfg.keep 8) (sub (bodyOf Tryz.f8) [1, 1, 1, 1, 1]) al) H) (retL cfg 65 8 Tryz.f8 H0)
theorem L23_MergePlans_K1_tame (H0 : Hp) : Tame 65 (L23_MergePlans_K1 H0) := tame_seq (C := cfg) (kp := cfg.keep 8) (sub (bodyOf Tryz.f8) [1, 1, 1, 1, 1]) (tame_ret 8 Tryz.f8 H0)
noncomputable def L23_MergePlans_J5 (x5 x6 x7 : AV) (H0 H : Hp) : Res := CXL cfg (callw cfg) (LPL cfg (cfg.keep 8) 65) (cfg.keep 8) 65 seqL blockL (sub (bodyOf Tryz.f8) [1, 1, 1, 1, 0, 1, 0, 0, 1, 1]) (seqL (fun k al H => LPL cfg (cfg.keep 8) 65 (sub (bodyOf Tryz.f8) [1, 1, 1, 1, 0, 1, 0, 0]) k (trimL (cfg.keep 8) (sub (bodyOf Tryz.f8) [1, 1, 1, 1, 0, 1, 0, 0]) al) H) (blockL 0 (L23_MergePlans_K1 H0))) [(5, x5), (6, x6), (7, x7)] H
noncomputable def L23_MergePlans_K2 (H0 : Hp) : KL := seqL (fun k al H => CXL cfg (callw cfg) (LPL cfg (cfg.keep 8) 65) (cfg.keep 8) 65 seqL blockL (sub (bodyOf Tryz.f8) [1, 1, 1, 1, 0, 1, 0, 0, 1, 1]) k (trimL (cfg.keep 8) (sub (bodyOf Tryz.f8) [1, 1, 1, 1, 0, 1, 0, 0, 1, 1]) al) H) (seqL (fun k al H => LPL cfg (cfg.keep 8) 65 (sub (bodyOf Tryz.f8) [1, 1, 1, 1, 0, 1, 0, 0]) k (trimL (cfg.keep 8) (sub (bodyOf Tryz.f8) [1, 1, 1, 1, 0, 1, 0, 0]) al) H) (blockL 0 (L23_MergePlans_K1 H0)))
theorem L23_MergePlans_K2_tame (H0 : Hp) : Tame 65 (L23_MergePlans_K2 H0) := tame_seq (C := cfg) (kp := cfg.keep 8) (sub (bodyOf Tryz.f8) [1, 1, 1, 1, 0, 1, 0, 0, 1, 1]) (tame_loop (C := cfg) (kp := cfg.keep 8) (sub (bodyOf Tryz.f8) [1, 1, 1, 1, 0, 1, 0, 0]) (tame_block 0 (L23_MergePlans_K1_tame H0)))
noncomputable def L23_MergePlans_J8 (x5 x6 x7 x8 : AV) (H0 H : Hp) : Res := CXL cfg (callw cfg) (LPL cfg (cfg.keep 8) 65) (cfg.keep 8) 65 seqL blockL (sub (bodyOf Tryz.f8) [1, 1, 1, 1, 0, 1, 0, 0, 1, 0, 0, 1, 1, 0, 0, 1, 1]) (seqL (fun k al H => LPL cfg (cfg.keep 8) 65 (sub (bodyOf Tryz.f8) [1, 1, 1, 1, 0, 1, 0, 0, 1, 0, 0, 1, 1, 0, 0]) k (trimL (cfg.keep 8) (sub (bodyOf Tryz.f8) [1, 1, 1, 1, 0, 1, 0, 0, 1, 0, 0, 1, 1, 0, 0]) al) H) (blockL 2 (blockL 1 (L23_MergePlans_K2 H0)))) [(5, x5), (6, x6), (7, x7), (8, x8)] H
noncomputable def L23_MergePlans_J7 (x5 x6 x7 x8 : AV) (H0 H : Hp) : Res := CXL cfg (callw cfg) (LPL cfg (cfg.keep 8) 65) (cfg.keep 8) 65 seqL blockL (sub (bodyOf Tryz.f8) [1, 1, 1, 1, 0, 1, 0, 0, 1, 0, 0, 1, 1, 0, 0, 1]) (seqL (fun k al H => LPL cfg (cfg.keep 8) 65 (sub (bodyOf Tryz.f8) [1, 1, 1, 1, 0, 1, 0, 0, 1, 0, 0, 1, 1, 0, 0]) k (trimL (cfg.keep 8) (sub (bodyOf Tryz.f8) [1, 1, 1, 1, 0, 1, 0, 0, 1, 0, 0, 1, 1, 0, 0]) al) H) (blockL 2 (blockL 1 (L23_MergePlans_K2 H0)))) [(5, x5), (6, x6), (7, x7), (8, x8)] H
noncomputable def L23_MergePlans_L2 (x5 x6 x7 x8 : AV) (H0 H : Hp) : Res := LPL cfg (cfg.keep 8) 65 (sub (bodyOf Tryz.f8) [1, 1, 1, 1, 0, 1, 0, 0, 1, 0, 0, 1, 1, 0, 0]) (blockL 2 (blockL 1 (L23_MergePlans_K2 H0))) [(5, x5), (6, x6), (7, x7), (8, x8)] H
noncomputable def L23_MergePlans_J6 (x5 x6 x7 : AV) (H0 H : Hp) : Res := CXL cfg (callw cfg) (LPL cfg (cfg.keep 8) 65) (cfg.keep 8) 65 seqL blockL (sub (bodyOf Tryz.f8) [1, 1, 1, 1, 0, 1, 0, 0, 1, 0, 0, 1]) (blockL 1 (L23_MergePlans_K2 H0)) [(5, x5), (6, x6), (7, x7)] H
noncomputable def L23_MergePlans_J4 (x5 x6 x7 : AV) (H0 H : Hp) : Res := CXL cfg (callw cfg) (LPL cfg (cfg.keep 8) 65) (cfg.keep 8) 65 seqL blockL (sub (bodyOf Tryz.f8) [1, 1, 1, 1, 0, 1, 0, 0, 1]) (seqL (fun k al H => LPL cfg (cfg.keep 8) 65 (sub (bodyOf Tryz.f8) [1, 1, 1, 1, 0, 1, 0, 0]) k (trimL (cfg.keep 8) (sub (bodyOf Tryz.f8) [1, 1, 1, 1, 0, 1, 0, 0]) al) H) (blockL 0 (L23_MergePlans_K1 H0))) [(5, x5), (6, x6), (7, x7)] H
noncomputable def L23_MergePlans_L1 (x5 x6 x7 : AV) (H0 H : Hp) : Res := LPL cfg (cfg.keep 8) 65 (sub (bodyOf Tryz.f8) [1, 1, 1, 1, 0, 1, 0, 0]) (blockL 0 (L23_MergePlans_K1 H0)) [(5, x5), (6, x6), (7, x7)] H
noncomputable def L23_MergePlans_J2 (x5 x6 : AV) (H0 H : Hp) : Res := CXL cfg (callw cfg) (LPL cfg (cfg.keep 8) 65) (cfg.keep 8) 65 seqL blockL (sub (bodyOf Tryz.f8) [1, 1, 1, 1]) (retL cfg 65 8 Tryz.f8 H0) [(5, x5), (6, x6)] H
noncomputable def L23_MergePlans_J1 (x0 x1 : AV) (H0 H : Hp) : Res := CXL cfg (callw cfg) (LPL cfg (cfg.keep 8) 65) (cfg.keep 8) 65 seqL blockL (sub (bodyOf Tryz.f8) [1, 1]) (retL cfg 65 8 Tryz.f8 H0) [(0, x0), (1, x1)] H
noncomputable def F_L23_MergePlans (p0 p1 : AV) (H : Hp) : Res :=
  bnd (ibin .gtr p0 (.int .i64 5000)) fun t10 =>
  cnd t10
    (bnd (flatC C_L23_awake [] H) fun r11 =>
    some (r11.1, r11.2))
    (L23_MergePlans_J1 p0 p1 H H)
theorem L23_MergePlans_J3_eq (H0 H : Hp) : L23_MergePlans_J3 H0 H =
    bnd (flatC C_L23_awake [] H) fun r64 =>
    some (r64.1, r64.2) := (CXM_eq [3, 6, 8, 9, 11, 13, 14, 16] _ _ _ _).trans (by kernel_rfl)
theorem L23_MergePlans_J5_eq (x5 x6 x7 : AV) (H0 H : Hp) : L23_MergePlans_J5 x5 x6 x7 H0 H =
    bnd (ibin .add x7 (.int .i64 1)) fun t28 =>
    L23_MergePlans_L1 x5 x6 t28 H0 H := (CXM_eq [3, 6, 8, 9, 11, 13, 14, 16] _ _ _ _).trans (by kernel_rfl)
theorem L23_MergePlans_J8_eq (x5 x6 x7 x8 : AV) (H0 H : Hp) : L23_MergePlans_J8 x5 x6 x7 x8 H0 H =
    bnd (ibin .add x8 (.int .i64 1)) fun t48 =>
    L23_MergePlans_L2 x5 x6 x7 t48 H0 H := (CXM_eq [3, 6, 8, 9, 11, 13, 14, 16] _ _ _ _).trans (by kernel_rfl)
theorem L23_MergePlans_J7_eq (x5 x6 x7 x8 : AV) (H0 H : Hp) : L23_MergePlans_J7 x5 x6 x7 x8 H0 H =
    bnd (aindexS 1 x5 x7) fun t51 =>
    bnd (aload false 1 t51 H) fun t52 =>
    bnd (aindexS 1 t52 x8) fun t54 =>
    bnd (aload false 1 t54 H) fun t55 =>
    bnd (aindexS 1 x6 x7) fun t58 =>
    bnd (aload false 1 t58 H) fun t59 =>
    bnd (aindexS 1 t59 x8) fun t61 =>
    bnd (aload false 1 t61 H) fun t62 =>
    bnd (ibin .neq t55 t62) fun t63 =>
    cnd t63
      (some ((.bool false), H))
      (L23_MergePlans_J8 x5 x6 x7 x8 H0 H) := (CXM_eq [3, 6, 8, 9, 11, 13, 14, 16] _ _ _ _).trans (by kernel_rfl)
theorem L23_MergePlans_L2_eq (x5 x6 x7 x8 : AV) (H0 H : Hp) : L23_MergePlans_L2 x5 x6 x7 x8 H0 H =
    bnd (aindexS 1 x5 x7) fun t43 =>
    bnd (aload false 1 t43 H) fun t44 =>
    bnd (alenD (.slice 3) t44) fun t45 =>
    bnd (ibin .lss x8 t45) fun t46 =>
    cnd t46
      (L23_MergePlans_J7 x5 x6 x7 x8 H0 H)
      (L23_MergePlans_J5 x5 x6 x7 H0 H) := (LPL_eqm (C := cfg) [3, 6, 8, 9, 11, 13, 14, 16] (tame_block 2 (tame_block 1 (L23_MergePlans_K2_tame H0))) _ _).trans (by kernel_rfl)
theorem L23_MergePlans_J6_eq (x5 x6 x7 : AV) (H0 H : Hp) : L23_MergePlans_J6 x5 x6 x7 H0 H =
    L23_MergePlans_L2 x5 x6 x7 (.int .i64 0) H0 H := (CXM_eq [3, 6, 8, 9, 11, 13, 14, 16] _ _ _ _).trans (by kernel_rfl)
theorem L23_MergePlans_J4_eq (x5 x6 x7 : AV) (H0 H : Hp) : L23_MergePlans_J4 x5 x6 x7 H0 H =
    bnd (aindexS 1 x5 x7) fun t31 =>
    bnd (aload false 1 t31 H) fun t32 =>
    bnd (alenD (.slice 3) t32) fun t33 =>
    bnd (aindexS 1 x6 x7) fun t36 =>
    bnd (aload false 1 t36 H) fun t37 =>
    bnd (alenD (.slice 3) t37) fun t38 =>
    bnd (ibin .neq t33 t38) fun t39 =>
    cnd t39
      (some ((.bool false), H))
      (L23_MergePlans_J6 x5 x6 x7 H0 H) := (CXM_eq [3, 6, 8, 9, 11, 13, 14, 16] _ _ _ _).trans (by kernel_rfl)
theorem L23_MergePlans_L1_eq (x5 x6 x7 : AV) (H0 H : Hp) : L23_MergePlans_L1 x5 x6 x7 H0 H =
    bnd (alenD (.slice 22) x5) fun t25 =>
    bnd (ibin .lss x7 t25) fun t26 =>
    cnd t26
      (L23_MergePlans_J4 x5 x6 x7 H0 H)
      (L23_MergePlans_J3 H0 H) := (LPL_eqm (C := cfg) [3, 6, 8, 9, 11, 13, 14, 16] (tame_block 0 (L23_MergePlans_K1_tame H0)) _ _).trans (by kernel_rfl)
theorem L23_MergePlans_J2_eq (x5 x6 : AV) (H0 H : Hp) : L23_MergePlans_J2 x5 x6 H0 H =
    L23_MergePlans_L1 x5 x6 (.int .i64 0) H0 H := (CXM_eq [3, 6, 8, 9, 11, 13, 14, 16] _ _ _ _).trans (by kernel_rfl)
theorem L23_MergePlans_J1_eq (x0 x1 : AV) (H0 H : Hp) : L23_MergePlans_J1 x0 x1 H0 H =
    bnd (flatC C_merge_Plan [x0, x1] H) fun r14 =>
    bnd (flatC C_R23_Plan [x0, x1] r14.2) fun r17 =>
    bnd (alenD (.slice 22) r14.1) fun t19 =>
    bnd (alenD (.slice 22) r17.1) fun t21 =>
    bnd (ibin .neq t19 t21) fun t22 =>
    cnd t22
      (some ((.bool false), r17.2))
      (L23_MergePlans_J2 r14.1 r17.1 H0 r17.2) := (CXM_eq [3, 6, 8, 9, 11, 13, 14, 16] _ _ _ _).trans (by kernel_rfl)
theorem F_L23_MergePlans_eq (p0 p1 : AV) (H : Hp) : C_L23_MergePlans [p0, p1] H = F_L23_MergePlans p0 p1 H := (callw_cxm (C := cfg) (fn := Tryz.f8) (c := bodyOf Tryz.f8) (n := 65) [3, 6, 8, 9, 11, 13, 14, 16] Tryz.func8 (by kernel_rfl) (by kernel_rfl) [p0, p1] (by kernel_rfl) H).trans (by kernel_rfl)

noncomputable def merge_Plan_J1 (x5 : AV) (H0 H : Hp) : Res := CXL cfg (callw cfg) (LPL cfg (cfg.keep 39) 38) (cfg.keep 39) 38 seqL blockL (sub (bodyOf Tryz.f39) [1, 1, 1, 1]) (retL cfg 38 39 Tryz.f39 H0) [(5, x5)] H
noncomputable def merge_Plan_K1 (H0 : Hp) : KL := seqL (fun k al H => CXL cfg (callw cfg) (LPL cfg (cfg.keep 39) 38) (cfg.keep 39) 38 seqL blockL (sub (bodyOf Tryz.f39) [1, 1, 1, 1]) k (trimL (cfg.keep 39) (sub (bodyOf Tryz.f39) [1, 1, 1, 1]) al) H) (retL cfg 38 39 Tryz.f39 H0)
theorem merge_Plan_K1_tame (H0 : Hp) : Tame 38 (merge_Plan_K1 H0) := tame_seq (C := cfg) (kp := cfg.keep 39) (sub (bodyOf Tryz.f39) [1, 1, 1, 1]) (tame_ret 39 Tryz.f39 H0)
noncomputable def merge_Plan_J3 (x1 x5 x12 x13 : AV) (H0 H : Hp) : Res := CXL cfg (callw cfg) (LPL cfg (cfg.keep 39) 38) (cfg.keep 39) 38 seqL blockL (sub (bodyOf Tryz.f39) [1, 1, 1, 0, 1, 0, 0, 1, 1, 1]) (seqL (fun k al H => LPL cfg (cfg.keep 39) 38 (sub (bodyOf Tryz.f39) [1, 1, 1, 0, 1, 0, 0]) k (trimL (cfg.keep 39) (sub (bodyOf Tryz.f39) [1, 1, 1, 0, 1, 0, 0]) al) H) (blockL 0 (merge_Plan_K1 H0))) [(1, x1), (5, x5), (12, x12), (13, x13)] H
noncomputable def merge_Plan_K2 (H0 : Hp) : KL := seqL (fun k al H => CXL cfg (callw cfg) (LPL cfg (cfg.keep 39) 38) (cfg.keep 39) 38 seqL blockL (sub (bodyOf Tryz.f39) [1, 1, 1, 0, 1, 0, 0, 1, 1, 1]) k (trimL (cfg.keep 39) (sub (bodyOf Tryz.f39) [1, 1, 1, 0, 1, 0, 0, 1, 1, 1]) al) H) (seqL (fun k al H => LPL cfg (cfg.keep 39) 38 (sub (bodyOf Tryz.f39) [1, 1, 1, 0, 1, 0, 0]) k (trimL (cfg.keep 39) (sub (bodyOf Tryz.f39) [1, 1, 1, 0, 1, 0, 0]) al) H) (blockL 0 (merge_Plan_K1 H0)))
noncomputable def merge_Plan_J4 (x1 x5 x6 x12 x13 : AV) (H0 H : Hp) : Res := CXL cfg (callw cfg) (LPL cfg (cfg.keep 39) 38) (cfg.keep 39) 38 seqL blockL (sub (bodyOf Tryz.f39) [1, 1, 1, 0, 1, 0, 0, 1, 1, 0, 0, 1, 1]) (blockL 1 (merge_Plan_K2 H0)) [(1, x1), (5, x5), (6, x6), (12, x12), (13, x13)] H
noncomputable def merge_Plan_J2 (x1 x5 x12 x13 x14 : AV) (H0 H : Hp) : Res := CXL cfg (callw cfg) (LPL cfg (cfg.keep 39) 38) (cfg.keep 39) 38 seqL blockL (sub (bodyOf Tryz.f39) [1, 1, 1, 0, 1, 0, 0, 1, 1]) (seqL (fun k al H => LPL cfg (cfg.keep 39) 38 (sub (bodyOf Tryz.f39) [1, 1, 1, 0, 1, 0, 0]) k (trimL (cfg.keep 39) (sub (bodyOf Tryz.f39) [1, 1, 1, 0, 1, 0, 0]) al) H) (blockL 0 (merge_Plan_K1 H0))) [(1, x1), (5, x5), (12, x12), (13, x13), (14, x14)] H
noncomputable def merge_Plan_L1 (x1 x5 x12 x13 : AV) (H0 H : Hp) : Res := LPL cfg (cfg.keep 39) 38 (sub (bodyOf Tryz.f39) [1, 1, 1, 0, 1, 0, 0]) (blockL 0 (merge_Plan_K1 H0)) [(1, x1), (5, x5), (12, x12), (13, x13)] H
noncomputable def F_merge_Plan (p0 p1 : AV) (H : Hp) : Res :=
  bnd (amax2 p1 (.int .i64 2)) fun t9 =>
  bnd (amin2 t9 (.int .i64 32)) fun t10 =>
  bnd (amax2 p0 (.int .i64 0)) fun t12 =>
  merge_Plan_L1 t10 .nils t12 (.int .i64 0) H H
theorem merge_Plan_J1_eq (x5 : AV) (H0 H : Hp) : merge_Plan_J1 x5 H0 H =
    some (x5, H) := (CXM_eq [5, 8, 10, 11] _ _ _ _).trans (by kernel_rfl)
theorem merge_Plan_J3_eq (x1 x5 x12 x13 : AV) (H0 H : Hp) : merge_Plan_J3 x1 x5 x12 x13 H0 H =
    bnd (ibin .add x13 (.int .i64 1)) fun t36 =>
    merge_Plan_L1 x1 x5 x12 t36 H0 H := (CXM_eq [5, 8, 10, 11] _ _ _ _).trans (by kernel_rfl)
theorem merge_Plan_J4_eq (x1 x5 x6 x12 x13 : AV) (H0 H : Hp) : merge_Plan_J4 x1 x5 x6 x12 x13 H0 H =
    bnd (alenD (.slice 22) x5) fun t24 =>
    bnd (ibin .sub t24 (.int .i64 1)) fun t25 =>
    bnd (aindexS 1 x5 t25) fun t30 =>
    bnd (aload false 1 t30 H) fun t31 =>
    bnd ((setElems 1 [(0, x6)] [(.int .i64 0)]).map (.vs 1 .clip)) fun t33 =>
    bnd (aappE 1 8 t31 t33 H) fun r34 =>
    bnd (aindexS 1 x5 t25) fun t35 =>
    bnd (astoreU 1 t35 r34.1 r34.2) fun r_13 =>
    merge_Plan_J3 x1 x5 x12 x13 H0 r_13.2 := (CXM_eq [5, 8, 10, 11] _ _ _ _).trans (by kernel_rfl)
theorem merge_Plan_J2_eq (x1 x5 x12 x13 x14 : AV) (H0 H : Hp) : merge_Plan_J2 x1 x5 x12 x13 x14 H0 H =
    bnd (ibin .rem x13 x1) fun t18 =>
    bnd (ibin .eql t18 (.int .i64 0)) fun t19 =>
    cnd t19
      (bnd ((setElems 1 [(0, .nils)] [.nils]).map (.vs 1 .clip)) fun t21 =>
      bnd (aappEL false 1 24 x5 t21 H) fun r22 =>
      merge_Plan_J4 x1 r22.1 x13 x12 x13 H0 r22.2)
      (merge_Plan_J4 x1 x5 x13 x12 x13 H0 H) := (CXM_eq [5, 8, 10, 11] _ _ _ _).trans (by kernel_rfl)
theorem merge_Plan_L1_eq (x1 x5 x12 x13 : AV) (H0 H : Hp) : merge_Plan_L1 x1 x5 x12 x13 H0 H =
    bnd (ibin .lss x13 x12) fun t14 =>
    cnd t14
      (merge_Plan_J2 x1 x5 x12 x13 t14 H0 H)
      (merge_Plan_J1 x5 H0 H) := (LPL_eqm (C := cfg) [5, 8, 10, 11] (tame_block 0 (merge_Plan_K1_tame H0)) _ _).trans (by kernel_rfl)
theorem F_merge_Plan_eq (p0 p1 : AV) (H : Hp) : C_merge_Plan [p0, p1] H = F_merge_Plan p0 p1 H := (callw_cxm (C := cfg) (fn := Tryz.f39) (c := bodyOf Tryz.f39) (n := 38) [5, 8, 10, 11] Tryz.func39 (by kernel_rfl) (by kernel_rfl) [p0, p1] (by kernel_rfl) H).trans (by kernel_rfl)

noncomputable def R23_Plan_J3 (x5 : AV) (H0 H : Hp) : Res := CXL cfg (callw cfg) (LPL cfg (cfg.keep 40) 37) (cfg.keep 40) 37 seqL blockL (sub (bodyOf Tryz.f40) [1, 1, 1, 1, 1]) (retL cfg 37 40 Tryz.f40 H0) [(5, x5)] H
noncomputable def R23_Plan_K1 (H0 : Hp) : KL := seqL (fun k al H => CXL cfg (callw cfg) (LPL cfg (cfg.keep 40) 37) (cfg.keep 40) 37 seqL blockL (sub (bodyOf Tryz.f40) [1, 1, 1, 1, 1]) k (trimL (cfg.keep 40) (sub (bodyOf Tryz.f40) [1, 1, 1, 1, 1]) al) H) (retL cfg 37 40 Tryz.f40 H0)
theorem R23_Plan_K1_tame (H0 : Hp) : Tame 37 (R23_Plan_K1 H0) := tame_seq (C := cfg) (kp := cfg.keep 40) (sub (bodyOf Tryz.f40) [1, 1, 1, 1, 1]) (tame_ret 40 Tryz.f40 H0)
noncomputable def R23_Plan_J5 (x0 x1 x5 x6 x7 : AV) (H0 H : Hp) : Res := CXL cfg (callw cfg) (LPL cfg (cfg.keep 40) 37) (cfg.keep 40) 37 seqL blockL (sub (bodyOf Tryz.f40) [1, 1, 1, 1, 0, 1, 0, 0, 1, 0, 1, 1]) (blockL 1 (seqL (fun k al H => LPL cfg (cfg.keep 40) 37 (sub (bodyOf Tryz.f40) [1, 1, 1, 1, 0, 1, 0, 0]) k (trimL (cfg.keep 40) (sub (bodyOf Tryz.f40) [1, 1, 1, 1, 0, 1, 0, 0]) al) H) (blockL 0 (R23_Plan_K1 H0)))) [(0, x0), (1, x1), (5, x5), (6, x6), (7, x7)] H
noncomputable def R23_Plan_K2 (H0 : Hp) : KL := seqL (fun k al H => CXL cfg (callw cfg) (LPL cfg (cfg.keep 40) 37) (cfg.keep 40) 37 seqL blockL (sub (bodyOf Tryz.f40) [1, 1, 1, 1, 0, 1, 0, 0, 1, 0, 1, 1]) k (trimL (cfg.keep 40) (sub (bodyOf Tryz.f40) [1, 1, 1, 1, 0, 1, 0, 0, 1, 0, 1, 1]) al) H) (blockL 1 (seqL (fun k al H => LPL cfg (cfg.keep 40) 37 (sub (bodyOf Tryz.f40) [1, 1, 1, 1, 0, 1, 0, 0]) k (trimL (cfg.keep 40) (sub (bodyOf Tryz.f40) [1, 1, 1, 1, 0, 1, 0, 0]) al) H) (blockL 0 (R23_Plan_K1 H0))))
theorem R23_Plan_K2_tame (H0 : Hp) : Tame 37 (R23_Plan_K2 H0) := tame_seq (C := cfg) (kp := cfg.keep 40) (sub (bodyOf Tryz.f40) [1, 1, 1, 1, 0, 1, 0, 0, 1, 0, 1, 1]) (tame_block 1 (tame_loop (C := cfg) (kp := cfg.keep 40) (sub (bodyOf Tryz.f40) [1, 1, 1, 1, 0, 1, 0, 0]) (tame_block 0 (R23_Plan_K1_tame H0))))
noncomputable def R23_Plan_J7 (x0 x1 x5 x6 x7 x8 : AV) (H0 H : Hp) : Res := CXL cfg (callw cfg) (LPL cfg (cfg.keep 40) 37) (cfg.keep 40) 37 seqL blockL (sub (bodyOf Tryz.f40) [1, 1, 1, 1, 0, 1, 0, 0, 1, 0, 1, 0, 1, 0, 0, 1, 1]) (seqL (fun k al H => LPL cfg (cfg.keep 40) 37 (sub (bodyOf Tryz.f40) [1, 1, 1, 1, 0, 1, 0, 0, 1, 0, 1, 0, 1, 0, 0]) k (trimL (cfg.keep 40) (sub (bodyOf Tryz.f40) [1, 1, 1, 1, 0, 1, 0, 0, 1, 0, 1, 0, 1, 0, 0]) al) H) (blockL 2 (R23_Plan_K2 H0))) [(0, x0), (1, x1), (5, x5), (6, x6), (7, x7), (8, x8)] H
noncomputable def R23_Plan_J6 (x0 x1 x5 x6 x7 x8 : AV) (H0 H : Hp) : Res := CXL cfg (callw cfg) (LPL cfg (cfg.keep 40) 37) (cfg.keep 40) 37 seqL blockL (sub (bodyOf Tryz.f40) [1, 1, 1, 1, 0, 1, 0, 0, 1, 0, 1, 0, 1, 0, 0, 1]) (seqL (fun k al H => LPL cfg (cfg.keep 40) 37 (sub (bodyOf Tryz.f40) [1, 1, 1, 1, 0, 1, 0, 0, 1, 0, 1, 0, 1, 0, 0]) k (trimL (cfg.keep 40) (sub (bodyOf Tryz.f40) [1, 1, 1, 1, 0, 1, 0, 0, 1, 0, 1, 0, 1, 0, 0]) al) H) (blockL 2 (R23_Plan_K2 H0))) [(0, x0), (1, x1), (5, x5), (6, x6), (7, x7), (8, x8)] H
noncomputable def R23_Plan_L2 (x0 x1 x5 x6 x7 x8 : AV) (H0 H : Hp) : Res := LPL cfg (cfg.keep 40) 37 (sub (bodyOf Tryz.f40) [1, 1, 1, 1, 0, 1, 0, 0, 1, 0, 1, 0, 1, 0, 0]) (blockL 2 (R23_Plan_K2 H0)) [(0, x0), (1, x1), (5, x5), (6, x6), (7, x7), (8, x8)] H
noncomputable def R23_Plan_J4 (x0 x1 x5 x6 : AV) (H0 H : Hp) : Res := CXL cfg (callw cfg) (LPL cfg (cfg.keep 40) 37) (cfg.keep 40) 37 seqL blockL (sub (bodyOf Tryz.f40) [1, 1, 1, 1, 0, 1, 0, 0, 1]) (seqL (fun k al H => LPL cfg (cfg.keep 40) 37 (sub (bodyOf Tryz.f40) [1, 1, 1, 1, 0, 1, 0, 0]) k (trimL (cfg.keep 40) (sub (bodyOf Tryz.f40) [1, 1, 1, 1, 0, 1, 0, 0]) al) H) (blockL 0 (R23_Plan_K1 H0))) [(0, x0), (1, x1), (5, x5), (6, x6)] H
noncomputable def R23_Plan_L1 (x0 x1 x5 x6 : AV) (H0 H : Hp) : Res := LPL cfg (cfg.keep 40) 37 (sub (bodyOf Tryz.f40) [1, 1, 1, 1, 0, 1, 0, 0]) (blockL 0 (R23_Plan_K1 H0)) [(0, x0), (1, x1), (5, x5), (6, x6)] H
noncomputable def R23_Plan_J2 (x0 x1 : AV) (H0 H : Hp) : Res := CXL cfg (callw cfg) (LPL cfg (cfg.keep 40) 37) (cfg.keep 40) 37 seqL blockL (sub (bodyOf Tryz.f40) [1, 1, 1]) (retL cfg 37 40 Tryz.f40 H0) [(0, x0), (1, x1)] H
noncomputable def R23_Plan_J1 (x0 x1 : AV) (H0 H : Hp) : Res := CXL cfg (callw cfg) (LPL cfg (cfg.keep 40) 37) (cfg.keep 40) 37 seqL blockL (sub (bodyOf Tryz.f40) [1, 1]) (retL cfg 37 40 Tryz.f40 H0) [(0, x0), (1, x1)] H
noncomputable def F_R23_Plan (p0 p1 : AV) (H : Hp) : Res :=
  bnd (ibin .lss p1 (.int .i64 2)) fun t10 =>
  cnd t10
    (R23_Plan_J1 p0 (.int .i64 2) H H)
    (R23_Plan_J1 p0 p1 H H)
theorem R23_Plan_J3_eq (x5 : AV) (H0 H : Hp) : R23_Plan_J3 x5 H0 H =
    some (x5, H) := (CXM_eq [3, 5, 8, 11, 12, 14, 15] _ _ _ _).trans (by kernel_rfl)
theorem R23_Plan_J5_eq (x0 x1 x5 x6 x7 : AV) (H0 H : Hp) : R23_Plan_J5 x0 x1 x5 x6 x7 H0 H =
    bnd ((setElems 1 [(0, x7)] [.nils]).map (.vs 1 .clip)) fun t34 =>
    bnd (aappEL false 1 24 x5 t34 H) fun r35 =>
    R23_Plan_L1 x0 x1 r35.1 x6 H0 r35.2 := (CXM_eq [3, 5, 8, 11, 12, 14, 15] _ _ _ _).trans (by kernel_rfl)
theorem R23_Plan_J7_eq (x0 x1 x5 x6 x7 x8 : AV) (H0 H : Hp) : R23_Plan_J7 x0 x1 x5 x6 x7 x8 H0 H =
    bnd (ibin .add x8 (.int .i64 1)) fun t25 =>
    R23_Plan_L2 x0 x1 x5 x6 x7 t25 H0 H := (CXM_eq [3, 5, 8, 11, 12, 14, 15] _ _ _ _).trans (by kernel_rfl)
theorem R23_Plan_J6_eq (x0 x1 x5 x6 x7 x8 : AV) (H0 H : Hp) : R23_Plan_J6 x0 x1 x5 x6 x7 x8 H0 H =
    bnd ((setElems 1 [(0, x6)] [(.int .i64 0)]).map (.vs 1 .clip)) fun t28 =>
    bnd (aappE 1 8 x7 t28 H) fun r29 =>
    bnd (ibin .add x6 (.int .i64 1)) fun t31 =>
    R23_Plan_J7 x0 x1 x5 t31 r29.1 x8 H0 r29.2 := (CXM_eq [3, 5, 8, 11, 12, 14, 15] _ _ _ _).trans (by kernel_rfl)
theorem R23_Plan_L2_eq (x0 x1 x5 x6 x7 x8 : AV) (H0 H : Hp) : R23_Plan_L2 x0 x1 x5 x6 x7 x8 H0 H =
    bnd (ibin .lss x8 x1) fun t18 =>
    bnd (gdv t18 true (.tuple []) (some x6)) fun t20 =>
    bnd (gdv t18 true (.tuple []) (some x0)) fun t21 =>
    bnd (gdv t18 true (.tuple []) (ibin .lss t20 t21)) fun t22 =>
    bnd (apick t18 t22 (.bool false)) fun t23 =>
    cnd t23
      (R23_Plan_J6 x0 x1 x5 x6 x7 x8 H0 H)
      (R23_Plan_J5 x0 x1 x5 x6 x7 H0 H) := (LPL_eqm (C := cfg) [3, 5, 8, 11, 12, 14, 15] (tame_block 2 (R23_Plan_K2_tame H0)) _ _).trans (by kernel_rfl)
theorem R23_Plan_J4_eq (x0 x1 x5 x6 : AV) (H0 H : Hp) : R23_Plan_J4 x0 x1 x5 x6 H0 H =
    R23_Plan_L2 x0 x1 x5 x6 .nils (.int .i64 0) H0 H := (CXM_eq [3, 5, 8, 11, 12, 14, 15] _ _ _ _).trans (by kernel_rfl)
theorem R23_Plan_L1_eq (x0 x1 x5 x6 : AV) (H0 H : Hp) : R23_Plan_L1 x0 x1 x5 x6 H0 H =
    bnd (ibin .lss x6 x0) fun t15 =>
    cnd t15
      (R23_Plan_J4 x0 x1 x5 x6 H0 H)
      (R23_Plan_J3 x5 H0 H) := (LPL_eqm (C := cfg) [3, 5, 8, 11, 12, 14, 15] (tame_block 0 (R23_Plan_K1_tame H0)) _ _).trans (by kernel_rfl)
theorem R23_Plan_J2_eq (x0 x1 : AV) (H0 H : Hp) : R23_Plan_J2 x0 x1 H0 H =
    R23_Plan_L1 x0 x1 .nils (.int .i64 0) H0 H := (CXM_eq [3, 5, 8, 11, 12, 14, 15] _ _ _ _).trans (by kernel_rfl)
theorem R23_Plan_J1_eq (x0 x1 : AV) (H0 H : Hp) : R23_Plan_J1 x0 x1 H0 H =
    bnd (ibin .gtr x1 (.int .i64 32)) fun t12 =>
    cnd t12
      (R23_Plan_J2 x0 (.int .i64 32) H0 H)
      (R23_Plan_J2 x0 x1 H0 H) := (CXM_eq [3, 5, 8, 11, 12, 14, 15] _ _ _ _).trans (by kernel_rfl)
theorem F_R23_Plan_eq (p0 p1 : AV) (H : Hp) : C_R23_Plan [p0, p1] H = F_R23_Plan p0 p1 H := (callw_cxm (C := cfg) (fn := Tryz.f40) (c := bodyOf Tryz.f40) (n := 37) [3, 5, 8, 11, 12, 14, 15] Tryz.func40 (by kernel_rfl) (by kernel_rfl) [p0, p1] (by kernel_rfl) H).trans (by kernel_rfl)

end Go.Am
