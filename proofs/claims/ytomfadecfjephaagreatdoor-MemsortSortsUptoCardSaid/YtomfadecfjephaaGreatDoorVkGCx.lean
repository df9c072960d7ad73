/-
  The functions of the translation over the abstract machine, a further part: written by program (wip/gen.py).
-/
import Derived.Test.YtomfadecfjephaaGreatDoorVkGx
namespace Go.Am
open Go.Proofs
set_option maxRecDepth 100000
set_option linter.unusedVariables false
set_option linter.unusedSimpArgs false

noncomputable def sortkey_Compare_J2 (H0 H : Hp) : Res := CXL cfg (callw cfg) (LPL cfg (cfg.keep 17) 55) (cfg.keep 17) 55 seqL blockL (sub (bodyOf Tryz.f17) [1, 1, 1, 1]) (retL cfg 55 17 Tryz.f17 H0) [] H
noncomputable def sortkey_Compare_K1 (H0 : Hp) : KL := seqL (fun k al H => CXL cfg (callw cfg) (LPL cfg (cfg.keep 17) 55) (cfg.keep 17) 55 seqL blockL (sub (bodyOf Tryz.f17) [1, 1, 1, 1]) k (trimL (cfg.keep 17) (sub (bodyOf Tryz.f17) [1, 1, 1, 1]) al) H) (retL cfg 55 17 Tryz.f17 H0)
theorem sortkey_Compare_K1_tame (H0 : Hp) : Tame 55 (sortkey_Compare_K1 H0) := tame_seq (C := cfg) (kp := cfg.keep 17) (sub (bodyOf Tryz.f17) [1, 1, 1, 1]) (tame_ret 17 Tryz.f17 H0)
noncomputable def sortkey_Compare_J4 (x2 x3 x4 x5 x26 x27 x28 : AV) (H0 H : Hp) : Res := CXL cfg (callw cfg) (LPL cfg (cfg.keep 17) 55) (cfg.keep 17) 55 seqL blockL (sub (bodyOf Tryz.f17) [1, 1, 1, 0, 1, 0, 0, 1, 1, 1]) (seqL (fun k al H => LPL cfg (cfg.keep 17) 55 (sub (bodyOf Tryz.f17) [1, 1, 1, 0, 1, 0, 0]) k (trimL (cfg.keep 17) (sub (bodyOf Tryz.f17) [1, 1, 1, 0, 1, 0, 0]) al) H) (blockL 0 (sortkey_Compare_K1 H0))) [(2, x2), (3, x3), (4, x4), (5, x5), (26, x26), (27, x27), (28, x28)] H
noncomputable def sortkey_Compare_K2 (H0 : Hp) : KL := seqL (fun k al H => CXL cfg (callw cfg) (LPL cfg (cfg.keep 17) 55) (cfg.keep 17) 55 seqL blockL (sub (bodyOf Tryz.f17) [1, 1, 1, 0, 1, 0, 0, 1, 1, 1]) k (trimL (cfg.keep 17) (sub (bodyOf Tryz.f17) [1, 1, 1, 0, 1, 0, 0, 1, 1, 1]) al) H) (seqL (fun k al H => LPL cfg (cfg.keep 17) 55 (sub (bodyOf Tryz.f17) [1, 1, 1, 0, 1, 0, 0]) k (trimL (cfg.keep 17) (sub (bodyOf Tryz.f17) [1, 1, 1, 0, 1, 0, 0]) al) H) (blockL 0 (sortkey_Compare_K1 H0)))
noncomputable def sortkey_Compare_J5 (x2 x3 x4 x5 x10 x11 x26 x27 x28 : AV) (H0 H : Hp) : Res := CXL cfg (callw cfg) (LPL cfg (cfg.keep 17) 55) (cfg.keep 17) 55 seqL blockL (sub (bodyOf Tryz.f17) [1, 1, 1, 0, 1, 0, 0, 1, 1, 0, 0, 1, 1, 1]) (blockL 1 (sortkey_Compare_K2 H0)) [(2, x2), (3, x3), (4, x4), (5, x5), (10, x10), (11, x11), (26, x26), (27, x27), (28, x28)] H
noncomputable def sortkey_Compare_J3 (x2 x3 x4 x5 x26 x27 x28 x29 : AV) (H0 H : Hp) : Res := CXL cfg (callw cfg) (LPL cfg (cfg.keep 17) 55) (cfg.keep 17) 55 seqL blockL (sub (bodyOf Tryz.f17) [1, 1, 1, 0, 1, 0, 0, 1, 1]) (seqL (fun k al H => LPL cfg (cfg.keep 17) 55 (sub (bodyOf Tryz.f17) [1, 1, 1, 0, 1, 0, 0]) k (trimL (cfg.keep 17) (sub (bodyOf Tryz.f17) [1, 1, 1, 0, 1, 0, 0]) al) H) (blockL 0 (sortkey_Compare_K1 H0))) [(2, x2), (3, x3), (4, x4), (5, x5), (26, x26), (27, x27), (28, x28), (29, x29)] H
noncomputable def sortkey_Compare_L1 (x2 x3 x4 x5 x26 x27 x28 : AV) (H0 H : Hp) : Res := LPL cfg (cfg.keep 17) 55 (sub (bodyOf Tryz.f17) [1, 1, 1, 0, 1, 0, 0]) (blockL 0 (sortkey_Compare_K1 H0)) [(2, x2), (3, x3), (4, x4), (5, x5), (26, x26), (27, x27), (28, x28)] H
noncomputable def sortkey_Compare_J1 (x2 x3 x4 x5 : AV) (H0 H : Hp) : Res := CXL cfg (callw cfg) (LPL cfg (cfg.keep 17) 55) (cfg.keep 17) 55 seqL blockL (sub (bodyOf Tryz.f17) [1, 1, 1]) (retL cfg 55 17 Tryz.f17 H0) [(2, x2), (3, x3), (4, x4), (5, x5)] H
noncomputable def F_sortkey_Compare (p0 p1 p2 p3 : AV) (H : Hp) : Res :=
  bnd (abox p0 H) fun r4_1 =>
  bnd (abox p1 r4_1.2) fun r5_2 =>
  bnd (aload true 5 r5_2.1 r5_2.2) fun t13_3 =>
  bnd (flatC C_sortkey_valid [t13_3] r5_2.2) fun r14_4 =>
  bnd (astoreU 5 r5_2.1 r14_4.1 r14_4.2) fun r_5 =>
  bnd (afield 0 r5_2.1) fun t15_34 =>
  bnd (aload false 1 t15_34 r_5.2) fun t16_35 =>
  bnd (alenD (.slice 58) t16_35) fun t17_36 =>
  bnd (ibin .eql t17_36 (.int .i64 0)) fun t18_37 =>
  cnd t18_37
    (bnd (aload true 6 r4_1.1 r_5.2) fun t19_38 =>
    bnd (afield 2 r5_2.1) fun t20_39 =>
    bnd (aload false 1 t20_39 r_5.2) fun t21_40 =>
    bnd (flatC C_sortkey_parts [t19_38, t21_40, p2, p3] r_5.2) fun r24_41 =>
    some (r24_41.1, r24_41.2))
    (sortkey_Compare_J1 p2 p3 r4_1.1 r5_2.1 H r_5.2)
theorem sortkey_Compare_J2_eq (H0 H : Hp) : sortkey_Compare_J2 H0 H =
    some ((.int .i64 0), H) := (CXM_eq [4, 6, 10, 13, 14] _ _ _ _).trans (by kernel_rfl)
theorem sortkey_Compare_J4_eq (x2 x3 x4 x5 x26 x27 x28 : AV) (H0 H : Hp) : sortkey_Compare_J4 x2 x3 x4 x5 x26 x27 x28 H0 H =
    bnd (ibin .add x28 (.int .i64 1)) fun t54_10 =>
    sortkey_Compare_L1 x2 x3 x4 x5 x26 x27 t54_10 H0 H := (CXM_eq [4, 6, 10, 13, 14] _ _ _ _).trans (by kernel_rfl)
theorem sortkey_Compare_J5_eq (x2 x3 x4 x5 x10 x11 x26 x27 x28 : AV) (H0 H : Hp) : sortkey_Compare_J5 x2 x3 x4 x5 x10 x11 x26 x27 x28 H0 H =
    frzK x4 H fun z4_17 z4_17H =>
    frzK x5 z4_17H fun z5_18 z5_18H =>
    frzK x10 z5_18H fun z10_19 z10_19H =>
    bnd (aloadv true 6 z4_17) fun t38_20 =>
    bnd (aload true 5 z10_19 z10_19H) fun t41_21 =>
    bnd (afield 1 z5_18) fun t42_22 =>
    bnd (aload false 1 t42_22 z10_19H) fun t43_23 =>
    bnd (C_sortkey_Extract [x2, t41_21, t43_23] z10_19H) fun r44_24 =>
    bnd (aloadv true 5 z10_19) fun t46_25 =>
    bnd (afield 1 z5_18) fun t47_26 =>
    bnd (aloadv false 1 t47_26) fun t48_27 =>
    bnd (C_sortkey_Extract [x3, t46_25, t48_27] r44_24.2) fun r49_28 =>
    bnd (flatC C_sortkey_parts [t38_20, x11, r44_24.1, r49_28.1] r49_28.2) fun r50_29 =>
    bnd (ibin .neq r50_29.1 (.int .i64 0)) fun t52_30 =>
    cnd t52_30
      (some (r50_29.1, r50_29.2))
      (sortkey_Compare_J4 x2 x3 z4_17 z5_18 x26 x27 x28 H0 r50_29.2) := (CXM_eq [4, 6, 10, 13, 14] _ _ _ _).trans (by kernel_rfl)
theorem sortkey_Compare_J3_eq (x2 x3 x4 x5 x26 x27 x28 x29 : AV) (H0 H : Hp) : sortkey_Compare_J3 x2 x3 x4 x5 x26 x27 x28 x29 H0 H =
    bnd (aindexS 5 x26 x28) fun t30_11 =>
    bnd (aload true 5 t30_11 H) fun t31_12 =>
    bnd (some ((.ptr H.length 0), H ++ [.cells [(.int .i64 0), (.int .i64 0), (.int .i64 0), (.int .i64 0), (.int .i64 0)]])) fun r10_13 =>
    bnd (astoreU 5 r10_13.1 t31_12 r10_13.2) fun r_14 =>
    bnd (afield 4 r10_13.1) fun t32_15 =>
    bnd (aload false 1 t32_15 r_14.2) fun t33_16 =>
    bnd (ibin .eql t33_16 (.int .i64 0)) fun t35_31 =>
    cnd t35_31
      (bnd (afield 2 x5) fun t36_32 =>
      bnd (aload false 1 t36_32 r_14.2) fun t37_33 =>
      sortkey_Compare_J5 x2 x3 x4 x5 r10_13.1 t37_33 x26 x27 x28 H0 r_14.2)
      (sortkey_Compare_J5 x2 x3 x4 x5 r10_13.1 t33_16 x26 x27 x28 H0 r_14.2) := (CXM_eq [4, 6, 10, 13, 14] _ _ _ _).trans (by kernel_rfl)
theorem sortkey_Compare_L1_eq (x2 x3 x4 x5 x26 x27 x28 : AV) (H0 H : Hp) : sortkey_Compare_L1 x2 x3 x4 x5 x26 x27 x28 H0 H =
    bnd (ibin .lss x28 x27) fun t29_9 =>
    cnd t29_9
      (sortkey_Compare_J3 x2 x3 x4 x5 x26 x27 x28 t29_9 H0 H)
      (sortkey_Compare_J2 H0 H) := (LPL_eqm (C := cfg) [4, 6, 10, 13, 14] (tame_block 0 (sortkey_Compare_K1_tame H0)) _ _).trans (by kernel_rfl)
theorem sortkey_Compare_J1_eq (x2 x3 x4 x5 : AV) (H0 H : Hp) : sortkey_Compare_J1 x2 x3 x4 x5 H0 H =
    bnd (afield 0 x5) fun t25_6 =>
    bnd (aload false 1 t25_6 H) fun t26_7 =>
    bnd (alenD (.slice 58) t26_7) fun t27_8 =>
    sortkey_Compare_L1 x2 x3 x4 x5 t26_7 t27_8 (.int .i64 0) H0 H := (CXM_eq [4, 6, 10, 13, 14] _ _ _ _).trans (by kernel_rfl)
theorem F_sortkey_Compare_eq (p0 p1 p2 p3 : AV) (H : Hp) : C_sortkey_Compare [p0, p1, p2, p3] H = F_sortkey_Compare p0 p1 p2 p3 H := (callw_cxm (C := cfg) (fn := Tryz.f17) (c := bodyOf Tryz.f17) (n := 55) [4, 6, 10, 13, 14] Tryz.func17 (by kernel_rfl) (by kernel_rfl) [p0, p1, p2, p3] (by kernel_rfl) H).trans (by kernel_rfl)

noncomputable def R20_Compare_J2 (H0 H : Hp) : Res := CXL cfg (callw cfg) (LPL cfg (cfg.keep 18) 59) (cfg.keep 18) 59 seqL blockL (sub (bodyOf Tryz.f18) [1, 1, 1, 1]) (retL cfg 59 18 Tryz.f18 H0) [] H
noncomputable def R20_Compare_K1 (H0 : Hp) : KL := seqL (fun k al H => CXL cfg (callw cfg) (LPL cfg (cfg.keep 18) 59) (cfg.keep 18) 59 seqL blockL (sub (bodyOf Tryz.f18) [1, 1, 1, 1]) k (trimL (cfg.keep 18) (sub (bodyOf Tryz.f18) [1, 1, 1, 1]) al) H) (retL cfg 59 18 Tryz.f18 H0)
theorem R20_Compare_K1_tame (H0 : Hp) : Tame 59 (R20_Compare_K1 H0) := tame_seq (C := cfg) (kp := cfg.keep 18) (sub (bodyOf Tryz.f18) [1, 1, 1, 1]) (tame_ret 18 Tryz.f18 H0)
noncomputable def R20_Compare_J4 (x2 x3 x4 x5 x9 : AV) (H0 H : Hp) : Res := CXL cfg (callw cfg) (LPL cfg (cfg.keep 18) 59) (cfg.keep 18) 59 seqL blockL (sub (bodyOf Tryz.f18) [1, 1, 1, 0, 1, 0, 0, 1, 1]) (seqL (fun k al H => LPL cfg (cfg.keep 18) 59 (sub (bodyOf Tryz.f18) [1, 1, 1, 0, 1, 0, 0]) k (trimL (cfg.keep 18) (sub (bodyOf Tryz.f18) [1, 1, 1, 0, 1, 0, 0]) al) H) (blockL 0 (R20_Compare_K1 H0))) [(2, x2), (3, x3), (4, x4), (5, x5), (9, x9)] H
noncomputable def R20_Compare_K2 (H0 : Hp) : KL := seqL (fun k al H => CXL cfg (callw cfg) (LPL cfg (cfg.keep 18) 59) (cfg.keep 18) 59 seqL blockL (sub (bodyOf Tryz.f18) [1, 1, 1, 0, 1, 0, 0, 1, 1]) k (trimL (cfg.keep 18) (sub (bodyOf Tryz.f18) [1, 1, 1, 0, 1, 0, 0, 1, 1]) al) H) (seqL (fun k al H => LPL cfg (cfg.keep 18) 59 (sub (bodyOf Tryz.f18) [1, 1, 1, 0, 1, 0, 0]) k (trimL (cfg.keep 18) (sub (bodyOf Tryz.f18) [1, 1, 1, 0, 1, 0, 0]) al) H) (blockL 0 (R20_Compare_K1 H0)))
noncomputable def R20_Compare_J5 (x2 x3 x4 x5 x9 x10 : AV) (H0 H : Hp) : Res := CXL cfg (callw cfg) (LPL cfg (cfg.keep 18) 59) (cfg.keep 18) 59 seqL blockL (sub (bodyOf Tryz.f18) [1, 1, 1, 0, 1, 0, 0, 1, 0, 0, 1, 1]) (blockL 1 (R20_Compare_K2 H0)) [(2, x2), (3, x3), (4, x4), (5, x5), (9, x9), (10, x10)] H
noncomputable def R20_Compare_J3 (x2 x3 x4 x5 x9 : AV) (H0 H : Hp) : Res := CXL cfg (callw cfg) (LPL cfg (cfg.keep 18) 59) (cfg.keep 18) 59 seqL blockL (sub (bodyOf Tryz.f18) [1, 1, 1, 0, 1, 0, 0, 1]) (seqL (fun k al H => LPL cfg (cfg.keep 18) 59 (sub (bodyOf Tryz.f18) [1, 1, 1, 0, 1, 0, 0]) k (trimL (cfg.keep 18) (sub (bodyOf Tryz.f18) [1, 1, 1, 0, 1, 0, 0]) al) H) (blockL 0 (R20_Compare_K1 H0))) [(2, x2), (3, x3), (4, x4), (5, x5), (9, x9)] H
noncomputable def R20_Compare_L1 (x2 x3 x4 x5 x9 : AV) (H0 H : Hp) : Res := LPL cfg (cfg.keep 18) 59 (sub (bodyOf Tryz.f18) [1, 1, 1, 0, 1, 0, 0]) (blockL 0 (R20_Compare_K1 H0)) [(2, x2), (3, x3), (4, x4), (5, x5), (9, x9)] H
noncomputable def R20_Compare_J1 (x2 x3 x4 x5 : AV) (H0 H : Hp) : Res := CXL cfg (callw cfg) (LPL cfg (cfg.keep 18) 59) (cfg.keep 18) 59 seqL blockL (sub (bodyOf Tryz.f18) [1, 1, 1]) (retL cfg 59 18 Tryz.f18 H0) [(2, x2), (3, x3), (4, x4), (5, x5)] H
noncomputable def F_R20_Compare (p0 p1 p2 p3 : AV) (H : Hp) : Res :=
  bnd (abox p0 H) fun r4_1 =>
  bnd (abox p1 r4_1.2) fun r5_2 =>
  bnd (aload true 5 r5_2.1 r5_2.2) fun t12_3 =>
  bnd (flatC C_R20_valid [t12_3] r5_2.2) fun r13_4 =>
  bnd (astoreU 5 r5_2.1 r13_4.1 r13_4.2) fun r_5 =>
  bnd (afield 0 r5_2.1) fun t14_40 =>
  bnd (aload false 1 t14_40 r_5.2) fun t15_41 =>
  bnd (alenD (.slice 58) t15_41) fun t16_42 =>
  bnd (ibin .eql t16_42 (.int .i64 0)) fun t17_43 =>
  cnd t17_43
    (bnd (aload true 6 r4_1.1 r_5.2) fun t18_44 =>
    bnd (afield 2 r5_2.1) fun t21_45 =>
    bnd (aload false 1 t21_45 r_5.2) fun t22_46 =>
    bnd (flatC C_R20_parts [t18_44, p2, p3, t22_46] r_5.2) fun r23_47 =>
    some (r23_47.1, r23_47.2))
    (R20_Compare_J1 p2 p3 r4_1.1 r5_2.1 H r_5.2)
theorem R20_Compare_J2_eq (H0 H : Hp) : R20_Compare_J2 H0 H =
    some ((.int .i64 0), H) := (CXM_eq [4, 6, 7, 10, 13] _ _ _ _).trans (by kernel_rfl)
theorem R20_Compare_J4_eq (x2 x3 x4 x5 x9 : AV) (H0 H : Hp) : R20_Compare_J4 x2 x3 x4 x5 x9 H0 H =
    bnd (ibin .add x9 (.int .i64 1)) fun t30_6 =>
    R20_Compare_L1 x2 x3 x4 x5 t30_6 H0 H := (CXM_eq [4, 6, 7, 10, 13] _ _ _ _).trans (by kernel_rfl)
theorem R20_Compare_J5_eq (x2 x3 x4 x5 x9 x10 : AV) (H0 H : Hp) : R20_Compare_J5 x2 x3 x4 x5 x9 x10 H0 H =
    frzK x4 H fun z4_13 z4_13H =>
    frzK x5 z4_13H fun z5_14 z5_14H =>
    frzK x10 z5_14H fun z10_15 z10_15H =>
    bnd (aloadv true 6 z4_13) fun t42_16 =>
    bnd (aload true 5 z10_15 z10_15H) fun t44_17 =>
    bnd (afield 1 z5_14) fun t45_18 =>
    bnd (aload false 1 t45_18 z10_15H) fun t46_19 =>
    bnd (C_R20_Extract [x2, t44_17, t46_19] z10_15H) fun r47_20 =>
    bnd (aloadv true 5 z10_15) fun t49_21 =>
    bnd (afield 1 z5_14) fun t50_22 =>
    bnd (aloadv false 1 t50_22) fun t51_23 =>
    bnd (C_R20_Extract [x3, t49_21, t51_23] r47_20.2) fun r52_24 =>
    bnd (afield 4 z10_15) fun t53_25 =>
    bnd (aloadv false 1 t53_25) fun t54_26 =>
    bnd (flatC C_R20_parts [t42_16, r47_20.1, r52_24.1, t54_26] r52_24.2) fun r55_27 =>
    bnd (ibin .neq r55_27.1 (.int .i64 0)) fun t57_28 =>
    cnd t57_28
      (some (r55_27.1, r55_27.2))
      (R20_Compare_J4 x2 x3 z4_13 z5_14 x9 H0 r55_27.2) := (CXM_eq [4, 6, 7, 10, 13] _ _ _ _).trans (by kernel_rfl)
theorem R20_Compare_J3_eq (x2 x3 x4 x5 x9 : AV) (H0 H : Hp) : R20_Compare_J3 x2 x3 x4 x5 x9 H0 H =
    bnd (afield 0 x5) fun t31_7 =>
    bnd (aload false 1 t31_7 H) fun t32_8 =>
    bnd (aindexS 5 t32_8 x9) fun t34_9 =>
    bnd (aload true 5 t34_9 H) fun t35_10 =>
    bnd (some ((.ptr H.length 0), H ++ [.cells [(.int .i64 0), (.int .i64 0), (.int .i64 0), (.int .i64 0), (.int .i64 0)]])) fun r10_11 =>
    bnd (astoreU 5 r10_11.1 t35_10 r10_11.2) fun r_12 =>
    bnd (afield 4 r10_11.1) fun t36_29 =>
    bnd (aload false 1 t36_29 r_12.2) fun t37_30 =>
    bnd (ibin .eql t37_30 (.int .i64 0)) fun t38_31 =>
    cnd t38_31
      (bnd (afield 2 x5) fun t39_32 =>
      bnd (aload false 1 t39_32 r_12.2) fun t40_33 =>
      bnd (afield 4 r10_11.1) fun t41_34 =>
      bnd (astoreU 1 t41_34 t40_33 r_12.2) fun r_35 =>
      R20_Compare_J5 x2 x3 x4 x5 x9 r10_11.1 H0 r_35.2)
      (R20_Compare_J5 x2 x3 x4 x5 x9 r10_11.1 H0 r_12.2) := (CXM_eq [4, 6, 7, 10, 13] _ _ _ _).trans (by kernel_rfl)
theorem R20_Compare_L1_eq (x2 x3 x4 x5 x9 : AV) (H0 H : Hp) : R20_Compare_L1 x2 x3 x4 x5 x9 H0 H =
    bnd (afield 0 x5) fun t25_36 =>
    bnd (aload false 1 t25_36 H) fun t26_37 =>
    bnd (alenD (.slice 58) t26_37) fun t27_38 =>
    bnd (ibin .lss x9 t27_38) fun t28_39 =>
    cnd t28_39
      (R20_Compare_J3 x2 x3 x4 x5 x9 H0 H)
      (R20_Compare_J2 H0 H) := (LPL_eqm (C := cfg) [4, 6, 7, 10, 13] (tame_block 0 (R20_Compare_K1_tame H0)) _ _).trans (by kernel_rfl)
theorem R20_Compare_J1_eq (x2 x3 x4 x5 : AV) (H0 H : Hp) : R20_Compare_J1 x2 x3 x4 x5 H0 H =
    R20_Compare_L1 x2 x3 x4 x5 (.int .i64 0) H0 H := (CXM_eq [4, 6, 7, 10, 13] _ _ _ _).trans (by kernel_rfl)
theorem F_R20_Compare_eq (p0 p1 p2 p3 : AV) (H : Hp) : C_R20_Compare [p0, p1, p2, p3] H = F_R20_Compare p0 p1 p2 p3 H := (callw_cxm (C := cfg) (fn := Tryz.f18) (c := bodyOf Tryz.f18) (n := 59) [4, 6, 7, 10, 13] Tryz.func18 (by kernel_rfl) (by kernel_rfl) [p0, p1, p2, p3] (by kernel_rfl) H).trans (by kernel_rfl)

noncomputable def sortkey_Order_J2 (x9 : AV) (H0 H : Hp) : Res := CXL cfg (callw cfg) (LPL cfg (cfg.keep 19) 39) (cfg.keep 19) 39 seqL blockL (sub (bodyOf Tryz.f19) [1, 1, 1, 1, 1, 1]) (retL cfg 39 19 Tryz.f19 H0) [(9, x9)] H
noncomputable def sortkey_Order_J1 (x2 x3 x4 x5 : AV) (H0 H : Hp) : Res := CXL cfg (callw cfg) (LPL cfg (cfg.keep 19) 39) (cfg.keep 19) 39 seqL blockL (sub (bodyOf Tryz.f19) [1, 1, 1, 1]) (retL cfg 39 19 Tryz.f19 H0) [(2, x2), (3, x3), (4, x4), (5, x5)] H
noncomputable def F_sortkey_Order (p0 p1 p2 p3 : AV) (H : Hp) : Res :=
  bnd (abox p0 H) fun r4_1 =>
  bnd (abox p1 r4_1.2) fun r5_2 =>
  bnd (aload true 5 r5_2.1 r5_2.2) fun t10_3 =>
  bnd (flatC C_sortkey_valid [t10_3] r5_2.2) fun r11_4 =>
  bnd (astoreU 5 r5_2.1 r11_4.1 r11_4.2) fun r_5 =>
  bnd (aload true 6 r4_1.1 r_5.2) fun t12_6 =>
  bnd (aload true 5 r5_2.1 r_5.2) fun t13_7 =>
  bnd (flatC C_sortkey_Compare [t12_6, t13_7, p2, p3] r_5.2) fun r16_8 =>
  bnd (ibin .neq r16_8.1 (.int .i64 0)) fun t18_16 =>
  bnd (gdv t18_16 false (.tuple []) (afield 4 r5_2.1)) fun t20_17 =>
  bnd (gdv t18_16 false (.tuple []) (aload false 1 t20_17 r16_8.2)) fun t21_18 =>
  bnd (apick t18_16 (.bool true) t21_18) fun t22_19 =>
  bnd (gdv t22_19 false (.tuple []) (afield 3 r5_2.1)) fun t24_20 =>
  bnd (gdv t22_19 false (.tuple []) (aload false 1 t24_20 r16_8.2)) fun t25_21 =>
  bnd (apick t22_19 (.bool true) t25_21) fun t26_22 =>
  cnd t26_22
    (some (r16_8.1, r16_8.2))
    (sortkey_Order_J1 p2 p3 r4_1.1 r5_2.1 H r16_8.2)
theorem sortkey_Order_J2_eq (x9 : AV) (H0 H : Hp) : sortkey_Order_J2 x9 H0 H =
    some (x9, H) := (CXM_eq [5, 8] _ _ _ _).trans (by kernel_rfl)
theorem sortkey_Order_J1_eq (x2 x3 x4 x5 : AV) (H0 H : Hp) : sortkey_Order_J1 x2 x3 x4 x5 H0 H =
    bnd (aload true 6 x4 H) fun t28_9 =>
    bnd (flatC C_locale_Compare [t28_9, x2, x3] H) fun r31_10 =>
    bnd (afield 2 x5) fun t32_11 =>
    bnd (aload false 1 t32_11 r31_10.2) fun t33_12 =>
    bnd (ibin .and t33_12 (.int .i64 2)) fun t34_13 =>
    bnd (ibin .neq t34_13 (.int .i64 0)) fun t35_14 =>
    cnd t35_14
      (bnd (aun .neg r31_10.1) fun t37_15 =>
      some (t37_15, r31_10.2))
      (sortkey_Order_J2 r31_10.1 H0 r31_10.2) := (CXM_eq [5, 8] _ _ _ _).trans (by kernel_rfl)
theorem F_sortkey_Order_eq (p0 p1 p2 p3 : AV) (H : Hp) : C_sortkey_Order [p0, p1, p2, p3] H = F_sortkey_Order p0 p1 p2 p3 H := (callw_cxm (C := cfg) (fn := Tryz.f19) (c := bodyOf Tryz.f19) (n := 39) [5, 8] Tryz.func19 (by kernel_rfl) (by kernel_rfl) [p0, p1, p2, p3] (by kernel_rfl) H).trans (by kernel_rfl)

noncomputable def R20_Order_J2 (x9 : AV) (H0 H : Hp) : Res := CXL cfg (callw cfg) (LPL cfg (cfg.keep 20) 38) (cfg.keep 20) 38 seqL blockL (sub (bodyOf Tryz.f20) [1, 1, 1, 1, 1, 1]) (retL cfg 38 20 Tryz.f20 H0) [(9, x9)] H
noncomputable def R20_Order_J1 (x2 x3 x4 x5 : AV) (H0 H : Hp) : Res := CXL cfg (callw cfg) (LPL cfg (cfg.keep 20) 38) (cfg.keep 20) 38 seqL blockL (sub (bodyOf Tryz.f20) [1, 1, 1, 1]) (retL cfg 38 20 Tryz.f20 H0) [(2, x2), (3, x3), (4, x4), (5, x5)] H
noncomputable def F_R20_Order (p0 p1 p2 p3 : AV) (H : Hp) : Res :=
  bnd (abox p0 H) fun r4_1 =>
  bnd (abox p1 r4_1.2) fun r5_2 =>
  bnd (aload true 5 r5_2.1 r5_2.2) fun t10_3 =>
  bnd (flatC C_R20_valid [t10_3] r5_2.2) fun r11_4 =>
  bnd (astoreU 5 r5_2.1 r11_4.1 r11_4.2) fun r_5 =>
  bnd (aload true 6 r4_1.1 r_5.2) fun t12_6 =>
  bnd (aload true 5 r5_2.1 r_5.2) fun t13_7 =>
  bnd (flatC C_R20_Compare [t12_6, t13_7, p2, p3] r_5.2) fun r16_8 =>
  bnd (ibin .neq r16_8.1 (.int .i64 0)) fun t18_15 =>
  bnd (gdv t18_15 false (.tuple []) (afield 4 r5_2.1)) fun t20_16 =>
  bnd (gdv t18_15 false (.tuple []) (aload false 1 t20_16 r16_8.2)) fun t21_17 =>
  bnd (apick t18_15 (.bool true) t21_17) fun t22_18 =>
  bnd (gdv t22_18 false (.tuple []) (afield 3 r5_2.1)) fun t24_19 =>
  bnd (gdv t22_18 false (.tuple []) (aload false 1 t24_19 r16_8.2)) fun t25_20 =>
  bnd (apick t22_18 (.bool true) t25_20) fun t26_21 =>
  cnd t26_21
    (some (r16_8.1, r16_8.2))
    (R20_Order_J1 p2 p3 r4_1.1 r5_2.1 H r16_8.2)
theorem R20_Order_J2_eq (x9 : AV) (H0 H : Hp) : R20_Order_J2 x9 H0 H =
    some (x9, H) := (CXM_eq [5, 8] _ _ _ _).trans (by kernel_rfl)
theorem R20_Order_J1_eq (x2 x3 x4 x5 : AV) (H0 H : Hp) : R20_Order_J1 x2 x3 x4 x5 H0 H =
    bnd (aload true 6 x4 H) fun t28_9 =>
    bnd (flatC C_R05_Compare [t28_9, x2, x3] H) fun r31_10 =>
    bnd (afield 2 x5) fun t32_11 =>
    bnd (aload false 1 t32_11 r31_10.2) fun t33_12 =>
    bnd (flatC C_R20_Has [t33_12, (.int .i64 2)] r31_10.2) fun r34_13 =>
    cnd r34_13.1
      (bnd (aun .neg r31_10.1) fun t36_14 =>
      some (t36_14, r34_13.2))
      (R20_Order_J2 r31_10.1 H0 r34_13.2) := (CXM_eq [5, 8] _ _ _ _).trans (by kernel_rfl)
theorem F_R20_Order_eq (p0 p1 p2 p3 : AV) (H : Hp) : C_R20_Order [p0, p1, p2, p3] H = F_R20_Order p0 p1 p2 p3 H := (callw_cxm (C := cfg) (fn := Tryz.f20) (c := bodyOf Tryz.f20) (n := 38) [5, 8] Tryz.func20 (by kernel_rfl) (by kernel_rfl) [p0, p1, p2, p3] (by kernel_rfl) H).trans (by kernel_rfl)

noncomputable def sortkey_valid_J1 (x1 x2 : AV) (H0 H : Hp) : Res := CXL cfg (callw cfg) (LPL cfg (cfg.keep 39) 8) (cfg.keep 39) 8 seqL blockL (sub (bodyOf Tryz.f39) [1, 1]) (retL cfg 8 39 Tryz.f39 H0) [(1, x1), (2, x2)] H
noncomputable def F_sortkey_valid (p0 : AV) (H : Hp) : Res :=
  bnd (abox p0 H) fun r1_1 =>
  bnd (some ((.ptr r1_1.2.length 0), r1_1.2 ++ [.cells [.nils, (.int .i64 0), (.int .i64 0), (.bool false), (.bool false)]])) fun r2_2 =>
  bnd (aload true 5 r1_1.1 r2_2.2) fun t3_6 =>
  bnd (flatC C_sortkey_Check [t3_6] r2_2.2) fun r4_7 =>
  bnd (ibin .neq r4_7.1 (.int .i64 0)) fun t5_8 =>
  cnd t5_8
    (bnd ((afill [(1, 1, (.int .i64 (-1)))] [.nils, (.int .i64 0), (.int .i64 0), (.bool false), (.bool false)]).map .agg) fun t6_9 =>
    bnd (astoreU 5 r2_2.1 t6_9 r4_7.2) fun r_10 =>
    bnd (aload true 5 r2_2.1 r_10.2) fun v2_11 =>
    some (v2_11, r_10.2))
    (sortkey_valid_J1 r1_1.1 r2_2.1 H r4_7.2)
theorem sortkey_valid_J1_eq (x1 x2 : AV) (H0 H : Hp) : sortkey_valid_J1 x1 x2 H0 H =
    bnd (aload true 5 x1 H) fun t7_3 =>
    bnd (astoreU 5 x2 t7_3 H) fun r_4 =>
    bnd (aload true 5 x2 r_4.2) fun v2_5 =>
    some (v2_5, r_4.2) := (CXM_eq [3] _ _ _ _).trans (by kernel_rfl)
theorem F_sortkey_valid_eq (p0 : AV) (H : Hp) : C_sortkey_valid [p0] H = F_sortkey_valid p0 H := (callw_cxm (C := cfg) (fn := Tryz.f39) (c := bodyOf Tryz.f39) (n := 8) [3] Tryz.func39 (by kernel_rfl) (by kernel_rfl) [p0] (by kernel_rfl) H).trans (by kernel_rfl)

noncomputable def sortkey_parts_J2 (x4 x5 x6 x7 x9 : AV) (H0 H : Hp) : Res := CXL cfg (callw cfg) (LPL cfg (cfg.keep 40) 50) (cfg.keep 40) 50 seqL blockL (sub (bodyOf Tryz.f40) [1, 1, 1, 1]) (retL cfg 50 40 Tryz.f40 H0) [(4, x4), (5, x5), (6, x6), (7, x7), (9, x9)] H
noncomputable def sortkey_parts_J1 (x4 x5 x6 x7 x9 : AV) (H0 H : Hp) : Res := CXL cfg (callw cfg) (LPL cfg (cfg.keep 40) 50) (cfg.keep 40) 50 seqL blockL (sub (bodyOf Tryz.f40) [1, 1, 1]) (retL cfg 50 40 Tryz.f40 H0) [(4, x4), (5, x5), (6, x6), (7, x7), (9, x9)] H
noncomputable def F_sortkey_parts (p0 p1 p2 p3 : AV) (H : Hp) : Res :=
  bnd (abox p0 H) fun r4_1 =>
  bnd (abox p1 r4_1.2) fun r5_2 =>
  bnd (abox p2 r5_2.2) fun r6_3 =>
  bnd (abox p3 r6_3.2) fun r7_4 =>
  bnd (aload false 1 r5_2.1 r7_4.2) fun t15_29 =>
  bnd (ibin .and t15_29 (.int .i64 2)) fun t16_30 =>
  bnd (ibin .neq t16_30 (.int .i64 0)) fun t17_31 =>
  cnd t17_31
    (sortkey_parts_J1 r4_1.1 r5_2.1 r6_3.1 r7_4.1 (.int .i64 (-1)) H r7_4.2)
    (sortkey_parts_J1 r4_1.1 r5_2.1 r6_3.1 r7_4.1 (.int .i64 1) H r7_4.2)
theorem sortkey_parts_J2_eq (x4 x5 x6 x7 x9 : AV) (H0 H : Hp) : sortkey_parts_J2 x4 x5 x6 x7 x9 H0 H =
    bnd (some (.fn (.func 53) [] [x5, x6, x7])) fun t36_5 =>
    bnd (acall cfg (callw cfg) t36_5 [(.int .i64 8), (.fn (.func 54) [] [])] H) fun r38_6 =>
    bnd (acall cfg (callw cfg) t36_5 [(.int .i64 16), (.fn (.func 56) [] [])] r38_6.2) fun r40_7 =>
    frzK x4 r40_7.2 fun z4_8 z4_8H =>
    bnd (some (.fn (.func 57) [] [z4_8])) fun t42_9 =>
    bnd (acall cfg (callw cfg) t36_5 [(.int .i64 4), t42_9] z4_8H) fun r43_10 =>
    bnd (aload true 6 z4_8 r43_10.2) fun t45_11 =>
    bnd (aload false 1 x6 r43_10.2) fun t46_12 =>
    bnd (aload false 1 x7 r43_10.2) fun t47_13 =>
    bnd (flatC C_locale_Compare [t45_11, t46_12, t47_13] r43_10.2) fun r48_14 =>
    bnd (ibin .mul x9 r48_14.1) fun t49_15 =>
    some (t49_15, r48_14.2) := (CXM_eq [4, 8] _ _ _ _).trans (by kernel_rfl)
theorem sortkey_parts_J1_eq (x4 x5 x6 x7 x9 : AV) (H0 H : Hp) : sortkey_parts_J1 x4 x5 x6 x7 x9 H0 H =
    bnd (aload false 1 x5 H) fun t18_16 =>
    bnd (ibin .and t18_16 (.int .i64 1)) fun t19_17 =>
    bnd (ibin .neq t19_17 (.int .i64 0)) fun t20_18 =>
    cnd t20_18
      (bnd (aload false 1 x6 H) fun t22_19 =>
      bnd (flatC C_decimal_Prefix [t22_19] H) fun r23_20 =>
      bnd (aext r23_20.1 0) fun t24_21 =>
      bnd (aext r23_20.1 1) fun t25_22 =>
      bnd (aload false 1 x7 r23_20.2) fun t27_23 =>
      bnd (flatC C_decimal_Prefix [t27_23] r23_20.2) fun r28_24 =>
      bnd (aext r28_24.1 0) fun t29_25 =>
      bnd (aext r28_24.1 1) fun t30_26 =>
      bnd (flatC C_sortkey_sign [t24_21, t29_25] r28_24.2) fun r34_27 =>
      bnd (ibin .mul x9 r34_27.1) fun t35_28 =>
      some (t35_28, r34_27.2))
      (sortkey_parts_J2 x4 x5 x6 x7 x9 H0 H) := (CXM_eq [4, 8] _ _ _ _).trans (by kernel_rfl)
theorem F_sortkey_parts_eq (p0 p1 p2 p3 : AV) (H : Hp) : C_sortkey_parts [p0, p1, p2, p3] H = F_sortkey_parts p0 p1 p2 p3 H := (callw_cxm (C := cfg) (fn := Tryz.f40) (c := bodyOf Tryz.f40) (n := 50) [4, 8] Tryz.func40 (by kernel_rfl) (by kernel_rfl) [p0, p1, p2, p3] (by kernel_rfl) H).trans (by kernel_rfl)

noncomputable def R20_valid_J1 (x1 x2 : AV) (H0 H : Hp) : Res := CXL cfg (callw cfg) (LPL cfg (cfg.keep 42) 8) (cfg.keep 42) 8 seqL blockL (sub (bodyOf Tryz.f42) [1, 1]) (retL cfg 8 42 Tryz.f42 H0) [(1, x1), (2, x2)] H
noncomputable def F_R20_valid (p0 : AV) (H : Hp) : Res :=
  bnd (abox p0 H) fun r1_1 =>
  bnd (some ((.ptr r1_1.2.length 0), r1_1.2 ++ [.cells [.nils, (.int .i64 0), (.int .i64 0), (.bool false), (.bool false)]])) fun r2_2 =>
  bnd (aload true 5 r1_1.1 r2_2.2) fun t3_6 =>
  bnd (flatC C_R20_Check [t3_6] r2_2.2) fun r4_7 =>
  bnd (ibin .neq r4_7.1 (.int .i64 0)) fun t5_8 =>
  cnd t5_8
    (bnd ((afill [(1, 1, (.int .i64 (-1)))] [.nils, (.int .i64 0), (.int .i64 0), (.bool false), (.bool false)]).map .agg) fun t6_9 =>
    bnd (astoreU 5 r2_2.1 t6_9 r4_7.2) fun r_10 =>
    bnd (aload true 5 r2_2.1 r_10.2) fun v2_11 =>
    some (v2_11, r_10.2))
    (R20_valid_J1 r1_1.1 r2_2.1 H r4_7.2)
theorem R20_valid_J1_eq (x1 x2 : AV) (H0 H : Hp) : R20_valid_J1 x1 x2 H0 H =
    bnd (aload true 5 x1 H) fun t7_3 =>
    bnd (astoreU 5 x2 t7_3 H) fun r_4 =>
    bnd (aload true 5 x2 r_4.2) fun v2_5 =>
    some (v2_5, r_4.2) := (CXM_eq [3] _ _ _ _).trans (by kernel_rfl)
theorem F_R20_valid_eq (p0 : AV) (H : Hp) : C_R20_valid [p0] H = F_R20_valid p0 H := (callw_cxm (C := cfg) (fn := Tryz.f42) (c := bodyOf Tryz.f42) (n := 8) [3] Tryz.func42 (by kernel_rfl) (by kernel_rfl) [p0] (by kernel_rfl) H).trans (by kernel_rfl)

noncomputable def R20_parts_J2 (x9 : AV) (H0 H : Hp) : Res := CXL cfg (callw cfg) (LPL cfg (cfg.keep 43) 30) (cfg.keep 43) 30 seqL blockL (sub (bodyOf Tryz.f43) [1, 1, 1, 1]) (retL cfg 30 43 Tryz.f43 H0) [(9, x9)] H
noncomputable def R20_parts_J1 (x3 x9 : AV) (H0 H : Hp) : Res := CXL cfg (callw cfg) (LPL cfg (cfg.keep 43) 30) (cfg.keep 43) 30 seqL blockL (sub (bodyOf Tryz.f43) [1, 1, 1]) (retL cfg 30 43 Tryz.f43 H0) [(3, x3), (9, x9)] H
noncomputable def F_R20_parts (p0 p1 p2 p3 : AV) (H : Hp) : Res :=
  bnd (abox p0 H) fun r4_1 =>
  bnd (flatC C_R20_Has [p3, (.int .i64 1)] r4_1.2) fun r11_4 =>
  cnd r11_4.1
    (bnd (flatC C_R20_numbers [p1, p2] r11_4.2) fun r14_5 =>
    R20_parts_J1 p3 r14_5.1 H r14_5.2)
    (bnd (aload true 6 r4_1.1 r11_4.2) fun t15_6 =>
    bnd (aload true 6 r4_1.1 r11_4.2) fun t16_7 =>
    bnd (flatC C_R20_shape [t16_7, p1, p3] r11_4.2) fun r19_8 =>
    bnd (aload true 6 r4_1.1 r19_8.2) fun t20_9 =>
    bnd (flatC C_R20_shape [t20_9, p2, p3] r19_8.2) fun r23_10 =>
    bnd (flatC C_R05_Compare [t15_6, r19_8.1, r23_10.1] r23_10.2) fun r24_11 =>
    R20_parts_J1 p3 r24_11.1 H r24_11.2)
theorem R20_parts_J2_eq (x9 : AV) (H0 H : Hp) : R20_parts_J2 x9 H0 H =
    some (x9, H) := (CXM_eq [5, 7] _ _ _ _).trans (by kernel_rfl)
theorem R20_parts_J1_eq (x3 x9 : AV) (H0 H : Hp) : R20_parts_J1 x3 x9 H0 H =
    bnd (flatC C_R20_Has [x3, (.int .i64 2)] H) fun r26_2 =>
    cnd r26_2.1
      (bnd (aun .neg x9) fun t28_3 =>
      some (t28_3, r26_2.2))
      (R20_parts_J2 x9 H0 r26_2.2) := (CXM_eq [5, 7] _ _ _ _).trans (by kernel_rfl)
theorem F_R20_parts_eq (p0 p1 p2 p3 : AV) (H : Hp) : C_R20_parts [p0, p1, p2, p3] H = F_R20_parts p0 p1 p2 p3 H := (callw_cxm (C := cfg) (fn := Tryz.f43) (c := bodyOf Tryz.f43) (n := 30) [5, 7] Tryz.func43 (by kernel_rfl) (by kernel_rfl) [p0, p1, p2, p3] (by kernel_rfl) H).trans (by kernel_rfl)

noncomputable def locale_Compare_J3 (x1 x2 : AV) (H0 H : Hp) : Res := CXL cfg (callw cfg) (LPL cfg (cfg.keep 45) 60) (cfg.keep 45) 60 seqL blockL (sub (bodyOf Tryz.f45) [1, 1, 1, 1, 1, 1, 1]) (retL cfg 60 45 Tryz.f45 H0) [(1, x1), (2, x2)] H
noncomputable def locale_Compare_J2 (x1 x2 x8 x9 : AV) (H0 H : Hp) : Res := CXL cfg (callw cfg) (LPL cfg (cfg.keep 45) 60) (cfg.keep 45) 60 seqL blockL (sub (bodyOf Tryz.f45) [1, 1, 1, 1, 1, 1]) (retL cfg 60 45 Tryz.f45 H0) [(1, x1), (2, x2), (8, x8), (9, x9)] H
noncomputable def locale_Compare_J1 (x1 x2 x8 x9 : AV) (H0 H : Hp) : Res := CXL cfg (callw cfg) (LPL cfg (cfg.keep 45) 60) (cfg.keep 45) 60 seqL blockL (sub (bodyOf Tryz.f45) [1, 1, 1, 1, 1]) (retL cfg 60 45 Tryz.f45 H0) [(1, x1), (2, x2), (8, x8), (9, x9)] H
noncomputable def locale_Compare_K1 (H0 : Hp) : KL := seqL (fun k al H => CXL cfg (callw cfg) (LPL cfg (cfg.keep 45) 60) (cfg.keep 45) 60 seqL blockL (sub (bodyOf Tryz.f45) [1, 1, 1, 1, 1]) k (trimL (cfg.keep 45) (sub (bodyOf Tryz.f45) [1, 1, 1, 1, 1]) al) H) (retL cfg 60 45 Tryz.f45 H0)
theorem locale_Compare_K1_tame (H0 : Hp) : Tame 60 (locale_Compare_K1 H0) := tame_seq (C := cfg) (kp := cfg.keep 45) (sub (bodyOf Tryz.f45) [1, 1, 1, 1, 1]) (tame_ret 45 Tryz.f45 H0)
noncomputable def locale_Compare_J5 (x1 x2 x8 x9 x24 x25 : AV) (H0 H : Hp) : Res := CXL cfg (callw cfg) (LPL cfg (cfg.keep 45) 60) (cfg.keep 45) 60 seqL blockL (sub (bodyOf Tryz.f45) [1, 1, 1, 1, 0, 1, 0, 0, 1, 1, 1]) (seqL (fun k al H => LPL cfg (cfg.keep 45) 60 (sub (bodyOf Tryz.f45) [1, 1, 1, 1, 0, 1, 0, 0]) k (trimL (cfg.keep 45) (sub (bodyOf Tryz.f45) [1, 1, 1, 1, 0, 1, 0, 0]) al) H) (blockL 0 (locale_Compare_K1 H0))) [(1, x1), (2, x2), (8, x8), (9, x9), (24, x24), (25, x25)] H
noncomputable def locale_Compare_K2 (H0 : Hp) : KL := seqL (fun k al H => CXL cfg (callw cfg) (LPL cfg (cfg.keep 45) 60) (cfg.keep 45) 60 seqL blockL (sub (bodyOf Tryz.f45) [1, 1, 1, 1, 0, 1, 0, 0, 1, 1, 1]) k (trimL (cfg.keep 45) (sub (bodyOf Tryz.f45) [1, 1, 1, 1, 0, 1, 0, 0, 1, 1, 1]) al) H) (seqL (fun k al H => LPL cfg (cfg.keep 45) 60 (sub (bodyOf Tryz.f45) [1, 1, 1, 1, 0, 1, 0, 0]) k (trimL (cfg.keep 45) (sub (bodyOf Tryz.f45) [1, 1, 1, 1, 0, 1, 0, 0]) al) H) (blockL 0 (locale_Compare_K1 H0)))
noncomputable def locale_Compare_J6 (x1 x2 x8 x9 x10 x24 x25 : AV) (H0 H : Hp) : Res := CXL cfg (callw cfg) (LPL cfg (cfg.keep 45) 60) (cfg.keep 45) 60 seqL blockL (sub (bodyOf Tryz.f45) [1, 1, 1, 1, 0, 1, 0, 0, 1, 1, 0, 0, 1, 1]) (blockL 1 (locale_Compare_K2 H0)) [(1, x1), (2, x2), (8, x8), (9, x9), (10, x10), (24, x24), (25, x25)] H
noncomputable def locale_Compare_J4 (x1 x2 x8 x9 x24 x25 x26 : AV) (H0 H : Hp) : Res := CXL cfg (callw cfg) (LPL cfg (cfg.keep 45) 60) (cfg.keep 45) 60 seqL blockL (sub (bodyOf Tryz.f45) [1, 1, 1, 1, 0, 1, 0, 0, 1, 1]) (seqL (fun k al H => LPL cfg (cfg.keep 45) 60 (sub (bodyOf Tryz.f45) [1, 1, 1, 1, 0, 1, 0, 0]) k (trimL (cfg.keep 45) (sub (bodyOf Tryz.f45) [1, 1, 1, 1, 0, 1, 0, 0]) al) H) (blockL 0 (locale_Compare_K1 H0))) [(1, x1), (2, x2), (8, x8), (9, x9), (24, x24), (25, x25), (26, x26)] H
noncomputable def locale_Compare_L1 (x1 x2 x8 x9 x24 x25 : AV) (H0 H : Hp) : Res := LPL cfg (cfg.keep 45) 60 (sub (bodyOf Tryz.f45) [1, 1, 1, 1, 0, 1, 0, 0]) (blockL 0 (locale_Compare_K1 H0)) [(1, x1), (2, x2), (8, x8), (9, x9), (24, x24), (25, x25)] H
noncomputable def F_locale_Compare (p0 p1 p2 : AV) (H : Hp) : Res :=
  bnd (abox p0 H) fun r3_1 =>
  bnd (aload true 6 r3_1.1 r3_1.2) fun t11_2 =>
  bnd (flatC C_locale_valid [t11_2] r3_1.2) fun r12_3 =>
  bnd (astoreU 6 r3_1.1 r12_3.1 r12_3.2) fun r_4 =>
  frzK r3_1.1 r_4.2 fun z3_5 z3_5H =>
  bnd (some (.fn (.func 66) [] [z3_5])) fun t13_6 =>
  bnd (acallQ cfg (callw cfg) t13_6 [p1] z3_5H) fun r16_7 =>
  bnd (acall cfg (callw cfg) t13_6 [p2] r16_7.2) fun r19_8 =>
  bnd (alenD (.slice 3) r16_7.1) fun t21_16 =>
  bnd (alenD (.slice 3) r19_8.1) fun t23_17 =>
  bnd (amin2 t21_16 t23_17) fun t24_18 =>
  locale_Compare_L1 p1 p2 r16_7.1 r19_8.1 t24_18 (.int .i64 0) H r19_8.2
theorem locale_Compare_J3_eq (x1 x2 : AV) (H0 H : Hp) : locale_Compare_J3 x1 x2 H0 H =
    bnd (flatC C_strings_Compare [x1, x2] H) fun r59_9 =>
    some (r59_9.1, r59_9.2) := (CXM_eq [6, 9, 11, 12, 14, 16] _ _ _ _).trans (by kernel_rfl)
theorem locale_Compare_J2_eq (x1 x2 x8 x9 : AV) (H0 H : Hp) : locale_Compare_J2 x1 x2 x8 x9 H0 H =
    bnd (alenD (.slice 3) x8) fun t53_10 =>
    bnd (alenD (.slice 3) x9) fun t55_11 =>
    bnd (ibin .gtr t53_10 t55_11) fun t56_12 =>
    cnd t56_12
      (some ((.int .i64 1), H))
      (locale_Compare_J3 x1 x2 H0 H) := (CXM_eq [6, 9, 11, 12, 14, 16] _ _ _ _).trans (by kernel_rfl)
theorem locale_Compare_J1_eq (x1 x2 x8 x9 : AV) (H0 H : Hp) : locale_Compare_J1 x1 x2 x8 x9 H0 H =
    bnd (alenD (.slice 3) x8) fun t48_13 =>
    bnd (alenD (.slice 3) x9) fun t50_14 =>
    bnd (ibin .lss t48_13 t50_14) fun t51_15 =>
    cnd t51_15
      (some ((.int .i64 (-1)), H))
      (locale_Compare_J2 x1 x2 x8 x9 H0 H) := (CXM_eq [6, 9, 11, 12, 14, 16] _ _ _ _).trans (by kernel_rfl)
theorem locale_Compare_J5_eq (x1 x2 x8 x9 x24 x25 : AV) (H0 H : Hp) : locale_Compare_J5 x1 x2 x8 x9 x24 x25 H0 H =
    bnd (ibin .add x25 (.int .i64 1)) fun t46_20 =>
    locale_Compare_L1 x1 x2 x8 x9 x24 t46_20 H0 H := (CXM_eq [6, 9, 11, 12, 14, 16] _ _ _ _).trans (by kernel_rfl)
theorem locale_Compare_J6_eq (x1 x2 x8 x9 x10 x24 x25 : AV) (H0 H : Hp) : locale_Compare_J6 x1 x2 x8 x9 x10 x24 x25 H0 H =
    bnd (aindexS 1 x8 x10) fun t39_21 =>
    bnd (aload false 1 t39_21 H) fun t40_22 =>
    bnd (aindexS 1 x9 x10) fun t43_23 =>
    bnd (aload false 1 t43_23 H) fun t44_24 =>
    bnd (ibin .gtr t40_22 t44_24) fun t45_25 =>
    cnd t45_25
      (some ((.int .i64 1), H))
      (locale_Compare_J5 x1 x2 x8 x9 x24 x25 H0 H) := (CXM_eq [6, 9, 11, 12, 14, 16] _ _ _ _).trans (by kernel_rfl)
theorem locale_Compare_J4_eq (x1 x2 x8 x9 x24 x25 x26 : AV) (H0 H : Hp) : locale_Compare_J4 x1 x2 x8 x9 x24 x25 x26 H0 H =
    bnd (aindexS 1 x8 x25) fun t30_26 =>
    bnd (aload false 1 t30_26 H) fun t31_27 =>
    bnd (aindexS 1 x9 x25) fun t34_28 =>
    bnd (aload false 1 t34_28 H) fun t35_29 =>
    bnd (ibin .lss t31_27 t35_29) fun t36_30 =>
    cnd t36_30
      (some ((.int .i64 (-1)), H))
      (locale_Compare_J6 x1 x2 x8 x9 x25 x24 x25 H0 H) := (CXM_eq [6, 9, 11, 12, 14, 16] _ _ _ _).trans (by kernel_rfl)
theorem locale_Compare_L1_eq (x1 x2 x8 x9 x24 x25 : AV) (H0 H : Hp) : locale_Compare_L1 x1 x2 x8 x9 x24 x25 H0 H =
    bnd (ibin .lss x25 x24) fun t26_19 =>
    cnd t26_19
      (locale_Compare_J4 x1 x2 x8 x9 x24 x25 t26_19 H0 H)
      (locale_Compare_J1 x1 x2 x8 x9 H0 H) := (LPL_eqm (C := cfg) [6, 9, 11, 12, 14, 16] (tame_block 0 (locale_Compare_K1_tame H0)) _ _).trans (by kernel_rfl)
theorem F_locale_Compare_eq (p0 p1 p2 : AV) (H : Hp) : C_locale_Compare [p0, p1, p2] H = F_locale_Compare p0 p1 p2 H := (callw_cxm (C := cfg) (fn := Tryz.f45) (c := bodyOf Tryz.f45) (n := 60) [6, 9, 11, 12, 14, 16] Tryz.func45 (by kernel_rfl) (by kernel_rfl) [p0, p1, p2] (by kernel_rfl) H).trans (by kernel_rfl)

noncomputable def R05_Compare_J1 (x1 x2 : AV) (H0 H : Hp) : Res := CXL cfg (callw cfg) (LPL cfg (cfg.keep 46) 23) (cfg.keep 46) 23 seqL blockL (sub (bodyOf Tryz.f46) [1, 1, 1]) (retL cfg 23 46 Tryz.f46 H0) [(1, x1), (2, x2)] H
noncomputable def F_R05_Compare (p0 p1 p2 : AV) (H : Hp) : Res :=
  bnd (abox p0 H) fun r3_1 =>
  bnd (aload true 6 r3_1.1 r3_1.2) fun t8_2 =>
  bnd (flatC C_R05_valid [t8_2] r3_1.2) fun r9_3 =>
  bnd (astoreU 6 r3_1.1 r9_3.1 r9_3.2) fun r_4 =>
  bnd (aload true 6 r3_1.1 r_4.2) fun t10_6 =>
  bnd (flatC C_R05_weights [t10_6, p1] r_4.2) fun r12_7 =>
  bnd (aload true 6 r3_1.1 r12_7.2) fun t13_8 =>
  bnd (flatC C_R05_weights [t13_8, p2] r12_7.2) fun r15_9 =>
  bnd (flatC C_R05_order [r12_7.1, r15_9.1] r15_9.2) fun r16_10 =>
  bnd (ibin .neq r16_10.1 (.int .i64 0)) fun t18_11 =>
  cnd t18_11
    (some (r16_10.1, r16_10.2))
    (R05_Compare_J1 p1 p2 H r16_10.2)
theorem R05_Compare_J1_eq (x1 x2 : AV) (H0 H : Hp) : R05_Compare_J1 x1 x2 H0 H =
    bnd (flatC C_R05_Bytes [x1, x2] H) fun r22_5 =>
    some (r22_5.1, r22_5.2) := (CXM_eq [5] _ _ _ _).trans (by kernel_rfl)
theorem F_R05_Compare_eq (p0 p1 p2 : AV) (H : Hp) : C_R05_Compare [p0, p1, p2] H = F_R05_Compare p0 p1 p2 H := (callw_cxm (C := cfg) (fn := Tryz.f46) (c := bodyOf Tryz.f46) (n := 23) [5] Tryz.func46 (by kernel_rfl) (by kernel_rfl) [p0, p1, p2] (by kernel_rfl) H).trans (by kernel_rfl)

noncomputable def decimal_Prefix_J5 (x9 x11 : AV) (H0 H : Hp) : Res := CXL cfg (callw cfg) (LPL cfg (cfg.keep 51) 116) (cfg.keep 51) 116 seqL blockL (sub (bodyOf Tryz.f51) [1, 1, 1, 1, 1, 1, 1, 1, 1, 1, 1]) (retL cfg 116 51 Tryz.f51 H0) [(9, x9), (11, x11)] H
noncomputable def decimal_Prefix_J4 (x5 x7 x8 x9 : AV) (H0 H : Hp) : Res := CXL cfg (callw cfg) (LPL cfg (cfg.keep 51) 116) (cfg.keep 51) 116 seqL blockL (sub (bodyOf Tryz.f51) [1, 1, 1, 1, 1, 1, 1, 1, 1]) (retL cfg 116 51 Tryz.f51 H0) [(5, x5), (7, x7), (8, x8), (9, x9)] H
noncomputable def decimal_Prefix_J3 (x5 x6 x7 x8 x9 : AV) (H0 H : Hp) : Res := CXL cfg (callw cfg) (LPL cfg (cfg.keep 51) 116) (cfg.keep 51) 116 seqL blockL (sub (bodyOf Tryz.f51) [1, 1, 1, 1, 1, 1, 1, 1]) (retL cfg 116 51 Tryz.f51 H0) [(5, x5), (6, x6), (7, x7), (8, x8), (9, x9)] H
noncomputable def decimal_Prefix_J2 (x0 x4 x5 : AV) (H0 H : Hp) : Res := CXL cfg (callw cfg) (LPL cfg (cfg.keep 51) 116) (cfg.keep 51) 116 seqL blockL (sub (bodyOf Tryz.f51) [1, 1, 1, 1, 1]) (retL cfg 116 51 Tryz.f51 H0) [(0, x0), (4, x4), (5, x5)] H
noncomputable def decimal_Prefix_J1 (x0 x4 : AV) (H0 H : Hp) : Res := CXL cfg (callw cfg) (LPL cfg (cfg.keep 51) 116) (cfg.keep 51) 116 seqL blockL (sub (bodyOf Tryz.f51) [1, 1, 1]) (retL cfg 116 51 Tryz.f51 H0) [(0, x0), (4, x4)] H
noncomputable def decimal_Prefix_K1 (H0 : Hp) : KL := seqL (fun k al H => CXL cfg (callw cfg) (LPL cfg (cfg.keep 51) 116) (cfg.keep 51) 116 seqL blockL (sub (bodyOf Tryz.f51) [1, 1, 1]) k (trimL (cfg.keep 51) (sub (bodyOf Tryz.f51) [1, 1, 1]) al) H) (retL cfg 116 51 Tryz.f51 H0)
theorem decimal_Prefix_K1_tame (H0 : Hp) : Tame 116 (decimal_Prefix_K1 H0) := tame_seq (C := cfg) (kp := cfg.keep 51) (sub (bodyOf Tryz.f51) [1, 1, 1]) (tame_ret 51 Tryz.f51 H0)
noncomputable def decimal_Prefix_J6 (x0 x4 : AV) (H0 H : Hp) : Res := CXL cfg (callw cfg) (LPL cfg (cfg.keep 51) 116) (cfg.keep 51) 116 seqL blockL (sub (bodyOf Tryz.f51) [1, 1, 0, 0, 0, 1]) (seqL (fun k al H => LPL cfg (cfg.keep 51) 116 (sub (bodyOf Tryz.f51) [1, 1, 0, 0, 0]) k (trimL (cfg.keep 51) (sub (bodyOf Tryz.f51) [1, 1, 0, 0, 0]) al) H) (blockL 0 (decimal_Prefix_K1 H0))) [(0, x0), (4, x4)] H
noncomputable def decimal_Prefix_L1 (x0 x4 : AV) (H0 H : Hp) : Res := LPL cfg (cfg.keep 51) 116 (sub (bodyOf Tryz.f51) [1, 1, 0, 0, 0]) (blockL 0 (decimal_Prefix_K1 H0)) [(0, x0), (4, x4)] H
noncomputable def F_decimal_Prefix (p0 : AV) (H : Hp) : Res :=
  decimal_Prefix_L1 p0 (.int .i64 0) H H
theorem decimal_Prefix_J5_eq (x9 x11 : AV) (H0 H : Hp) : decimal_Prefix_J5 x9 x11 H0 H =
    some ((.tuple [x11, x9]), H) := (CXM_eq [3, 4, 7, 14, 16, 19] _ _ _ _).trans (by kernel_rfl)
theorem decimal_Prefix_J4_eq (x5 x7 x8 x9 : AV) (H0 H : Hp) : decimal_Prefix_J4 x5 x7 x8 x9 H0 H =
    bnd (flatC C_decimal_value [x7, x8] H) fun r109_13 =>
    bnd (amin2 (.int .i64 10000000000000) r109_13.1) fun t110_14 =>
    cnd x5
      (bnd (aun .neg t110_14) fun t113_15 =>
      decimal_Prefix_J5 x9 t113_15 H0 r109_13.2)
      (decimal_Prefix_J5 x9 t110_14 H0 r109_13.2) := (CXM_eq [3, 4, 7, 14, 16, 19] _ _ _ _).trans (by kernel_rfl)
theorem decimal_Prefix_J3_eq (x5 x6 x7 x8 x9 : AV) (H0 H : Hp) : decimal_Prefix_J3 x5 x6 x7 x8 x9 H0 H =
    bnd (ibin .eql x6 (.int .i64 0)) fun t102_16 =>
    bnd (gdv t102_16 true (.tuple []) (some x8)) fun t104_17 =>
    bnd (gdv t102_16 true (.tuple []) (sbin .eql t104_17 (.str []))) fun t105_18 =>
    bnd (apick t102_16 t105_18 (.bool false)) fun t106_19 =>
    cnd t106_19
      (some ((.tuple [(.int .i64 0), (.int .i64 0)]), H))
      (decimal_Prefix_J4 x5 x7 x8 x9 H0 H) := (CXM_eq [3, 4, 7, 14, 16, 19] _ _ _ _).trans (by kernel_rfl)
theorem decimal_Prefix_J2_eq (x0 x4 x5 : AV) (H0 H : Hp) : decimal_Prefix_J2 x0 x4 x5 H0 H =
    bnd (asliceS x0 (some x4) none none) fun t57_8 =>
    bnd (flatC C_decimal_digits [t57_8] H) fun r58_9 =>
    bnd (ibin .add x4 r58_9.1) fun t63_10 =>
    bnd (asliceS x0 (some x4) (some t63_10) none) fun t64_11 =>
    bnd (ibin .add x4 r58_9.1) fun t67_12 =>
    bnd (alenD .string x0) fun t70_20 =>
    bnd (ibin .lss t67_12 t70_20) fun t71_21 =>
    bnd (gdv t71_21 true (.tuple []) (some x0)) fun t73_22 =>
    bnd (gdv t71_21 true (.tuple []) (some t67_12)) fun t74_23 =>
    bnd (gdv t71_21 true (.tuple []) (aindexStr t73_22 t74_23)) fun t75_24 =>
    bnd (gdv t71_21 true (.tuple []) (ibin .eql t75_24 (.int .u8 46))) fun t76_25 =>
    bnd (apick t71_21 t76_25 (.bool false)) fun t77_26 =>
    cnd t77_26
      (bnd (ibin .add t67_12 (.int .i64 1)) fun t80_27 =>
      bnd (asliceS x0 (some t80_27) none none) fun t81_28 =>
      bnd (flatC C_decimal_digits [t81_28] r58_9.2) fun r82_29 =>
      bnd (ibin .gtr r58_9.1 (.int .i64 0)) fun t84_30 =>
      bnd (gdv t84_30 false (.tuple []) (some r82_29.1)) fun t86_31 =>
      bnd (gdv t84_30 false (.tuple []) (ibin .gtr t86_31 (.int .i64 0))) fun t87_32 =>
      bnd (apick t84_30 (.bool true) t87_32) fun t88_33 =>
      cnd t88_33
        (bnd (ibin .add t67_12 (.int .i64 1)) fun t91_34 =>
        bnd (ibin .add t67_12 (.int .i64 1)) fun t93_35 =>
        bnd (ibin .add t93_35 r82_29.1) fun t95_36 =>
        bnd (asliceS x0 (some t91_34) (some t95_36) none) fun t96_37 =>
        bnd (ibin .add (.int .i64 1) r82_29.1) fun t99_38 =>
        bnd (ibin .add t67_12 t99_38) fun t100_39 =>
        decimal_Prefix_J3 x5 r58_9.1 t64_11 t96_37 t100_39 H0 r82_29.2)
        (decimal_Prefix_J3 x5 r58_9.1 t64_11 (.str []) t67_12 H0 r82_29.2))
      (decimal_Prefix_J3 x5 r58_9.1 t64_11 (.str []) t67_12 H0 r58_9.2) := (CXM_eq [3, 4, 7, 14, 16, 19] _ _ _ _).trans (by kernel_rfl)
theorem decimal_Prefix_J1_eq (x0 x4 : AV) (H0 H : Hp) : decimal_Prefix_J1 x0 x4 H0 H =
    bnd (alenD .string x0) fun t32_1 =>
    bnd (ibin .lss x4 t32_1) fun t33_2 =>
    bnd (gdv t33_2 true (.tuple []) (some x0)) fun t35_3 =>
    bnd (gdv t33_2 true (.tuple []) (some x4)) fun t36_4 =>
    bnd (gdv t33_2 true (.tuple []) (aindexStr t35_3 t36_4)) fun t37_5 =>
    bnd (gdv t33_2 true (.tuple []) (ibin .eql t37_5 (.int .u8 45))) fun t38_6 =>
    bnd (apick t33_2 t38_6 (.bool false)) fun t39_7 =>
    bnd (gdv t39_7 false (.tuple []) (some x4)) fun t42_40 =>
    bnd (gdv t39_7 false (.tuple []) (some x0)) fun t43_41 =>
    bnd (gdv t39_7 false (.tuple []) (alenD .string t43_41)) fun t44_42 =>
    bnd (gdv t39_7 false (.tuple []) (ibin .lss t42_40 t44_42)) fun t45_43 =>
    bnd (gdv t39_7 false (.tuple []) (some t45_43)) fun t46_44 =>
    bnd (gdv t46_44 true (.tuple []) (some x0)) fun t47_45 =>
    bnd (gdv t46_44 true (.tuple []) (some x4)) fun t48_46 =>
    bnd (gdv t46_44 true (.tuple []) (aindexStr t47_45 t48_46)) fun t49_47 =>
    bnd (gdv t46_44 true (.tuple []) (ibin .eql t49_47 (.int .u8 43))) fun t50_48 =>
    bnd (gdv t39_7 false (.tuple []) (apick t46_44 t50_48 (.bool false))) fun t51_49 =>
    bnd (apick t39_7 (.bool true) t51_49) fun t52_50 =>
    cnd t52_50
      (bnd (ibin .add x4 (.int .i64 1)) fun t54_51 =>
      decimal_Prefix_J2 x0 t54_51 t39_7 H0 H)
      (decimal_Prefix_J2 x0 x4 t39_7 H0 H) := (CXM_eq [3, 4, 7, 14, 16, 19] _ _ _ _).trans (by kernel_rfl)
theorem decimal_Prefix_J6_eq (x0 x4 : AV) (H0 H : Hp) : decimal_Prefix_J6 x0 x4 H0 H =
    bnd (ibin .add x4 (.int .i64 1)) fun t29_52 =>
    decimal_Prefix_L1 x0 t29_52 H0 H := (CXM_eq [3, 4, 7, 14, 16, 19] _ _ _ _).trans (by kernel_rfl)
theorem decimal_Prefix_L1_eq (x0 x4 : AV) (H0 H : Hp) : decimal_Prefix_L1 x0 x4 H0 H =
    bnd (alenD .string x0) fun t14_53 =>
    bnd (ibin .lss x4 t14_53) fun t15_54 =>
    bnd (gdv t15_54 true (.tuple []) (some x0)) fun t17_55 =>
    bnd (gdv t15_54 true (.tuple []) (some x4)) fun t18_56 =>
    bnd (gdv t15_54 true (.tuple []) (aindexStr t17_55 t18_56)) fun t19_57 =>
    bnd (gdv t15_54 true (.tuple []) (ibin .eql t19_57 (.int .u8 32))) fun t20_58 =>
    bnd (gdv t15_54 true (.tuple []) (some t20_58)) fun t21_59 =>
    bnd (gdv t21_59 false (.tuple []) (some x0)) fun t22_60 =>
    bnd (gdv t21_59 false (.tuple []) (some x4)) fun t23_61 =>
    bnd (gdv t21_59 false (.tuple []) (aindexStr t22_60 t23_61)) fun t24_62 =>
    bnd (gdv t21_59 false (.tuple []) (ibin .eql t24_62 (.int .u8 9))) fun t25_63 =>
    bnd (gdv t15_54 true (.tuple []) (apick t21_59 (.bool true) t25_63)) fun t26_64 =>
    bnd (apick t15_54 t26_64 (.bool false)) fun t27_65 =>
    cnd t27_65
      (decimal_Prefix_J6 x0 x4 H0 H)
      (decimal_Prefix_J1 x0 x4 H0 H) := (LPL_eqm (C := cfg) [3, 4, 7, 14, 16, 19] (tame_block 0 (decimal_Prefix_K1_tame H0)) _ _).trans (by kernel_rfl)
theorem F_decimal_Prefix_eq (p0 : AV) (H : Hp) : C_decimal_Prefix [p0] H = F_decimal_Prefix p0 H := (callw_cxm (C := cfg) (fn := Tryz.f51) (c := bodyOf Tryz.f51) (n := 116) [3, 4, 7, 14, 16, 19] Tryz.func51 (by kernel_rfl) (by kernel_rfl) [p0] (by kernel_rfl) H).trans (by kernel_rfl)

noncomputable def sortkey_sign_J1 (H0 H : Hp) : Res := CXL cfg (callw cfg) (LPL cfg (cfg.keep 52) 13) (cfg.keep 52) 13 seqL blockL (sub (bodyOf Tryz.f52) [1, 1]) (retL cfg 13 52 Tryz.f52 H0) [] H
noncomputable def F_sortkey_sign (p0 p1 : AV) (H : Hp) : Res :=
  bnd (ibin .lss p0 p1) fun t8_1 =>
  cnd t8_1
    (some ((.int .i64 (-1)), H))
    (bnd (ibin .gtr p0 p1) fun t12_2 =>
    cnd t12_2
      (some ((.int .i64 1), H))
      (sortkey_sign_J1 H H))
theorem sortkey_sign_J1_eq (H0 H : Hp) : sortkey_sign_J1 H0 H =
    some ((.int .i64 0), H) := (CXM_eq [5] _ _ _ _).trans (by kernel_rfl)
theorem F_sortkey_sign_eq (p0 p1 : AV) (H : Hp) : C_sortkey_sign [p0, p1] H = F_sortkey_sign p0 p1 H := (callw_cxm (C := cfg) (fn := Tryz.f52) (c := bodyOf Tryz.f52) (n := 13) [5] Tryz.func52 (by kernel_rfl) (by kernel_rfl) [p0, p1] (by kernel_rfl) H).trans (by kernel_rfl)

noncomputable def F_sortkey_parts_1 (p0 p1 p2 p3 p4 : AV) (H : Hp) : Res :=
  bnd (aload false 1 p2 H) fun t7_1 =>
  bnd (ibin .and t7_1 p0) fun t9_2 =>
  bnd (ibin .neq t9_2 (.int .i64 0)) fun t10_3 =>
  cnd t10_3
    (bnd (aload false 1 p3 H) fun t12_4 =>
    bnd (acallQ cfg (callw cfg) p1 [t12_4] H) fun r13_5 =>
    bnd (aload false 1 p4 r13_5.2) fun t15_6 =>
    bnd (acallQ cfg (callw cfg) p1 [t15_6] r13_5.2) fun r16_7 =>
    bnd (astoreU 1 p3 r13_5.1 r16_7.2) fun r_8 =>
    bnd (astoreU 1 p4 r16_7.1 r_8.2) fun r_9 =>
    some ((.tuple []), r_9.2))
    (some ((.tuple []), H))
theorem F_sortkey_parts_1_eq (p0 p1 p2 p3 p4 : AV) (H : Hp) : C_sortkey_parts_1 [p0, p1, p2, p3, p4] H = F_sortkey_parts_1 p0 p1 p2 p3 p4 H := (callw_cxm (C := cfg) (fn := Tryz.f53) (c := bodyOf Tryz.f53) (n := 17) [] Tryz.func53 (by kernel_rfl) (by kernel_rfl) [p0, p1, p2, p3, p4] (by kernel_rfl) H).trans (by kernel_rfl)

noncomputable def F_sortkey_parts_2 (p0 : AV) (H : Hp) : Res :=
  bnd (sumC trimA [p0, (.str [32, 9])] H) fun r4_1 =>
  some (r4_1.1, r4_1.2)
theorem F_sortkey_parts_2_eq (p0 : AV) (H : Hp) : C_sortkey_parts_2 [p0] H = F_sortkey_parts_2 p0 H := (callw_cxm (C := cfg) (fn := Tryz.f54) (c := bodyOf Tryz.f54) (n := 5) [] Tryz.func54 (by kernel_rfl) (by kernel_rfl) [p0] (by kernel_rfl) H).trans (by kernel_rfl)

noncomputable def sortkey_dict_J1 (x3 : AV) (H0 H : Hp) : Res := CXL cfg (callw cfg) (LPL cfg (cfg.keep 56) 44) (cfg.keep 56) 44 seqL blockL (sub (bodyOf Tryz.f56) [1, 1, 1]) (retL cfg 44 56 Tryz.f56 H0) [(3, x3)] H
noncomputable def sortkey_dict_K1 (H0 : Hp) : KL := seqL (fun k al H => CXL cfg (callw cfg) (LPL cfg (cfg.keep 56) 44) (cfg.keep 56) 44 seqL blockL (sub (bodyOf Tryz.f56) [1, 1, 1]) k (trimL (cfg.keep 56) (sub (bodyOf Tryz.f56) [1, 1, 1]) al) H) (retL cfg 44 56 Tryz.f56 H0)
theorem sortkey_dict_K1_tame (H0 : Hp) : Tame 44 (sortkey_dict_K1 H0) := tame_seq (C := cfg) (kp := cfg.keep 56) (sub (bodyOf Tryz.f56) [1, 1, 1]) (tame_ret 56 Tryz.f56 H0)
noncomputable def sortkey_dict_J3 (x0 x3 x7 x8 : AV) (H0 H : Hp) : Res := CXL cfg (callw cfg) (LPL cfg (cfg.keep 56) 44) (cfg.keep 56) 44 seqL blockL (sub (bodyOf Tryz.f56) [1, 1, 0, 1, 0, 0, 1, 1, 1]) (seqL (fun k al H => LPL cfg (cfg.keep 56) 44 (sub (bodyOf Tryz.f56) [1, 1, 0, 1, 0, 0]) k (trimL (cfg.keep 56) (sub (bodyOf Tryz.f56) [1, 1, 0, 1, 0, 0]) al) H) (blockL 0 (sortkey_dict_K1 H0))) [(0, x0), (3, x3), (7, x7), (8, x8)] H
noncomputable def sortkey_dict_J2 (x0 x3 x7 x8 x9 : AV) (H0 H : Hp) : Res := CXL cfg (callw cfg) (LPL cfg (cfg.keep 56) 44) (cfg.keep 56) 44 seqL blockL (sub (bodyOf Tryz.f56) [1, 1, 0, 1, 0, 0, 1, 1]) (seqL (fun k al H => LPL cfg (cfg.keep 56) 44 (sub (bodyOf Tryz.f56) [1, 1, 0, 1, 0, 0]) k (trimL (cfg.keep 56) (sub (bodyOf Tryz.f56) [1, 1, 0, 1, 0, 0]) al) H) (blockL 0 (sortkey_dict_K1 H0))) [(0, x0), (3, x3), (7, x7), (8, x8), (9, x9)] H
noncomputable def sortkey_dict_L1 (x0 x3 x7 x8 : AV) (H0 H : Hp) : Res := LPL cfg (cfg.keep 56) 44 (sub (bodyOf Tryz.f56) [1, 1, 0, 1, 0, 0]) (blockL 0 (sortkey_dict_K1 H0)) [(0, x0), (3, x3), (7, x7), (8, x8)] H
noncomputable def F_sortkey_dict (p0 : AV) (H : Hp) : Res :=
  bnd (some ((.ptr H.length 0), H ++ [.bld 106 5 []])) fun r3_1 =>
  bnd (alenD .string p0) fun t7_3 =>
  sortkey_dict_L1 p0 r3_1.1 t7_3 (.int .i64 0) H r3_1.2
theorem sortkey_dict_J1_eq (x3 : AV) (H0 H : Hp) : sortkey_dict_J1 x3 H0 H =
    bnd (stringE.run [x3] H) fun r43_2 =>
    some (r43_2.1, r43_2.2) := (CXM_eq [4, 8, 9] _ _ _ _).trans (by kernel_rfl)
theorem sortkey_dict_J3_eq (x0 x3 x7 x8 : AV) (H0 H : Hp) : sortkey_dict_J3 x0 x3 x7 x8 H0 H =
    bnd (ibin .add x8 (.int .i64 1)) fun t42_5 =>
    sortkey_dict_L1 x0 x3 x7 t42_5 H0 H := (CXM_eq [4, 8, 9] _ _ _ _).trans (by kernel_rfl)
theorem sortkey_dict_J2_eq (x0 x3 x7 x8 x9 : AV) (H0 H : Hp) : sortkey_dict_J2 x0 x3 x7 x8 x9 H0 H =
    bnd (aindexStr x0 x8) fun t13_6 =>
    bnd (C_sortkey_blank [t13_6] H) fun r15_7 =>
    bnd (gdv r15_7.1 false (.tuple []) (some t13_6)) fun t17_8 =>
    bnd (gdv r15_7.1 false (.tuple []) (ibin .geq t17_8 (.int .u8 97))) fun t18_9 =>
    bnd (gdv r15_7.1 false (.tuple []) (some t18_9)) fun t19_10 =>
    bnd (gdv t19_10 true (.tuple []) (some t13_6)) fun t20_11 =>
    bnd (gdv t19_10 true (.tuple []) (ibin .leq t20_11 (.int .u8 122))) fun t21_12 =>
    bnd (gdv r15_7.1 false (.tuple []) (apick t19_10 t21_12 (.bool false))) fun t22_13 =>
    bnd (apick r15_7.1 (.bool true) t22_13) fun t23_14 =>
    bnd (gdv t23_14 false (.tuple []) (some t13_6)) fun t25_15 =>
    bnd (gdv t23_14 false (.tuple []) (ibin .geq t25_15 (.int .u8 65))) fun t26_16 =>
    bnd (gdv t23_14 false (.tuple []) (some t26_16)) fun t27_17 =>
    bnd (gdv t27_17 true (.tuple []) (some t13_6)) fun t28_18 =>
    bnd (gdv t27_17 true (.tuple []) (ibin .leq t28_18 (.int .u8 90))) fun t29_19 =>
    bnd (gdv t23_14 false (.tuple []) (apick t27_17 t29_19 (.bool false))) fun t30_20 =>
    bnd (apick t23_14 (.bool true) t30_20) fun t31_21 =>
    bnd (gdv t31_21 false (.tuple []) (some t13_6)) fun t33_22 =>
    bnd (gdv t31_21 false (.tuple []) (ibin .geq t33_22 (.int .u8 48))) fun t34_23 =>
    bnd (gdv t31_21 false (.tuple []) (some t34_23)) fun t35_24 =>
    bnd (gdv t35_24 true (.tuple []) (some t13_6)) fun t36_25 =>
    bnd (gdv t35_24 true (.tuple []) (ibin .leq t36_25 (.int .u8 57))) fun t37_26 =>
    bnd (gdv t31_21 false (.tuple []) (apick t35_24 t37_26 (.bool false))) fun t38_27 =>
    bnd (apick t31_21 (.bool true) t38_27) fun t39_28 =>
    cnd t39_28
      (bnd (byteE.run [x3, t13_6] r15_7.2) fun r41_29 =>
      sortkey_dict_J3 x0 x3 x7 x8 H0 r41_29.2)
      (sortkey_dict_J3 x0 x3 x7 x8 H0 r15_7.2) := (CXM_eq [4, 8, 9] _ _ _ _).trans (by kernel_rfl)
theorem sortkey_dict_L1_eq (x0 x3 x7 x8 : AV) (H0 H : Hp) : sortkey_dict_L1 x0 x3 x7 x8 H0 H =
    bnd (ibin .lss x8 x7) fun t9_4 =>
    cnd t9_4
      (sortkey_dict_J2 x0 x3 x7 x8 t9_4 H0 H)
      (sortkey_dict_J1 x3 H0 H) := (LPL_eqm (C := cfg) [4, 8, 9] (tame_block 0 (sortkey_dict_K1_tame H0)) _ _).trans (by kernel_rfl)
theorem F_sortkey_dict_eq (p0 : AV) (H : Hp) : C_sortkey_dict [p0] H = F_sortkey_dict p0 H := (callw_cxm (C := cfg) (fn := Tryz.f56) (c := bodyOf Tryz.f56) (n := 44) [4, 8, 9] Tryz.func56 (by kernel_rfl) (by kernel_rfl) [p0] (by kernel_rfl) H).trans (by kernel_rfl)

noncomputable def F_sortkey_parts_3 (p0 p1 : AV) (H : Hp) : Res :=
  bnd (aload true 6 p1 H) fun t4_1 =>
  bnd (flatC C_locale_Upper [t4_1, p0] H) fun r6_2 =>
  some (r6_2.1, r6_2.2)
theorem F_sortkey_parts_3_eq (p0 p1 : AV) (H : Hp) : C_sortkey_parts_3 [p0, p1] H = F_sortkey_parts_3 p0 p1 H := (callw_cxm (C := cfg) (fn := Tryz.f57) (c := bodyOf Tryz.f57) (n := 7) [] Tryz.func57 (by kernel_rfl) (by kernel_rfl) [p0, p1] (by kernel_rfl) H).trans (by kernel_rfl)

noncomputable def F_locale_Upper (p0 p1 : AV) (H : Hp) : Res :=
  bnd (abox p0 H) fun r2_1 =>
  bnd (aload true 6 r2_1.1 r2_1.2) fun t5_2 =>
  bnd (flatC C_locale_valid [t5_2] r2_1.2) fun r6_3 =>
  bnd (afieldV false 1 3 r6_3.1) fun t7_4 =>
  bnd (flatC C_locale_mapped [t7_4, p1] r6_3.2) fun r9_5 =>
  some (r9_5.1, r9_5.2)
theorem F_locale_Upper_eq (p0 p1 : AV) (H : Hp) : C_locale_Upper [p0, p1] H = F_locale_Upper p0 p1 H := (callw_cxm (C := cfg) (fn := Tryz.f58) (c := bodyOf Tryz.f58) (n := 10) [] Tryz.func58 (by kernel_rfl) (by kernel_rfl) [p0, p1] (by kernel_rfl) H).trans (by kernel_rfl)

noncomputable def R20_numbers_J2 (H0 H : Hp) : Res := CXL cfg (callw cfg) (LPL cfg (cfg.keep 60) 25) (cfg.keep 60) 25 seqL blockL (sub (bodyOf Tryz.f60) [1, 1, 1, 1, 1]) (retL cfg 25 60 Tryz.f60 H0) [] H
noncomputable def R20_numbers_J1 (x5 x7 : AV) (H0 H : Hp) : Res := CXL cfg (callw cfg) (LPL cfg (cfg.keep 60) 25) (cfg.keep 60) 25 seqL blockL (sub (bodyOf Tryz.f60) [1, 1, 1, 1]) (retL cfg 25 60 Tryz.f60 H0) [(5, x5), (7, x7)] H
noncomputable def F_R20_numbers (p0 p1 : AV) (H : Hp) : Res :=
  bnd (flatC C_R02_Prefix [p0] H) fun r11_1 =>
  bnd (aext r11_1.1 0) fun t12_2 =>
  bnd (aext r11_1.1 1) fun t13_3 =>
  bnd (flatC C_R02_Prefix [p1] r11_1.2) fun r16_4 =>
  bnd (aext r16_4.1 0) fun t17_5 =>
  bnd (aext r16_4.1 1) fun t18_6 =>
  bnd (ibin .lss t12_2 t17_5) fun t21_8 =>
  cnd t21_8
    (some ((.int .i64 (-1)), r16_4.2))
    (R20_numbers_J1 t12_2 t17_5 H r16_4.2)
theorem R20_numbers_J2_eq (H0 H : Hp) : R20_numbers_J2 H0 H =
    some ((.int .i64 0), H) := (CXM_eq [5, 7] _ _ _ _).trans (by kernel_rfl)
theorem R20_numbers_J1_eq (x5 x7 : AV) (H0 H : Hp) : R20_numbers_J1 x5 x7 H0 H =
    bnd (ibin .gtr x5 x7) fun t24_7 =>
    cnd t24_7
      (some ((.int .i64 1), H))
      (R20_numbers_J2 H0 H) := (CXM_eq [5, 7] _ _ _ _).trans (by kernel_rfl)
theorem F_R20_numbers_eq (p0 p1 : AV) (H : Hp) : C_R20_numbers [p0, p1] H = F_R20_numbers p0 p1 H := (callw_cxm (C := cfg) (fn := Tryz.f60) (c := bodyOf Tryz.f60) (n := 25) [5, 7] Tryz.func60 (by kernel_rfl) (by kernel_rfl) [p0, p1] (by kernel_rfl) H).trans (by kernel_rfl)

noncomputable def R20_shape_J3 (x1 : AV) (H0 H : Hp) : Res := CXL cfg (callw cfg) (LPL cfg (cfg.keep 61) 31) (cfg.keep 61) 31 seqL blockL (sub (bodyOf Tryz.f61) [1, 1, 1, 1]) (retL cfg 31 61 Tryz.f61 H0) [(1, x1)] H
noncomputable def R20_shape_J2 (x1 x2 x3 : AV) (H0 H : Hp) : Res := CXL cfg (callw cfg) (LPL cfg (cfg.keep 61) 31) (cfg.keep 61) 31 seqL blockL (sub (bodyOf Tryz.f61) [1, 1, 1]) (retL cfg 31 61 Tryz.f61 H0) [(1, x1), (2, x2), (3, x3)] H
noncomputable def R20_shape_J1 (x1 x2 x3 : AV) (H0 H : Hp) : Res := CXL cfg (callw cfg) (LPL cfg (cfg.keep 61) 31) (cfg.keep 61) 31 seqL blockL (sub (bodyOf Tryz.f61) [1, 1]) (retL cfg 31 61 Tryz.f61 H0) [(1, x1), (2, x2), (3, x3)] H
noncomputable def R20_shape_K1 (H0 : Hp) : KL := seqL (fun k al H => CXL cfg (callw cfg) (LPL cfg (cfg.keep 61) 31) (cfg.keep 61) 31 seqL blockL (sub (bodyOf Tryz.f61) [1, 1]) k (trimL (cfg.keep 61) (sub (bodyOf Tryz.f61) [1, 1]) al) H) (retL cfg 31 61 Tryz.f61 H0)
theorem R20_shape_K1_tame (H0 : Hp) : Tame 31 (R20_shape_K1 H0) := tame_seq (C := cfg) (kp := cfg.keep 61) (sub (bodyOf Tryz.f61) [1, 1]) (tame_ret 61 Tryz.f61 H0)
noncomputable def R20_shape_J4 (x1 x2 x3 : AV) (H0 H : Hp) : Res := CXL cfg (callw cfg) (LPL cfg (cfg.keep 61) 31) (cfg.keep 61) 31 seqL blockL (sub (bodyOf Tryz.f61) [1, 0, 0, 0, 1]) (seqL (fun k al H => LPL cfg (cfg.keep 61) 31 (sub (bodyOf Tryz.f61) [1, 0, 0, 0]) k (trimL (cfg.keep 61) (sub (bodyOf Tryz.f61) [1, 0, 0, 0]) al) H) (blockL 0 (R20_shape_K1 H0))) [(1, x1), (2, x2), (3, x3)] H
noncomputable def R20_shape_L1 (x1 x2 x3 : AV) (H0 H : Hp) : Res := LPL cfg (cfg.keep 61) 31 (sub (bodyOf Tryz.f61) [1, 0, 0, 0]) (blockL 0 (R20_shape_K1 H0)) [(1, x1), (2, x2), (3, x3)] H
noncomputable def F_R20_shape (p0 p1 p2 : AV) (H : Hp) : Res :=
  bnd (abox p0 H) fun r3_1 =>
  R20_shape_L1 p1 p2 r3_1.1 H r3_1.2
theorem R20_shape_J3_eq (x1 : AV) (H0 H : Hp) : R20_shape_J3 x1 H0 H =
    some (x1, H) := (CXM_eq [2, 3, 5, 7] _ _ _ _).trans (by kernel_rfl)
theorem R20_shape_J2_eq (x1 x2 x3 : AV) (H0 H : Hp) : R20_shape_J2 x1 x2 x3 H0 H =
    bnd (flatC C_R20_Has [x2, (.int .i64 4)] H) fun r26_2 =>
    cnd r26_2.1
      (bnd (aload true 6 x3 r26_2.2) fun t27_3 =>
      bnd (flatC C_R05_Upper [t27_3, x1] r26_2.2) fun r29_4 =>
      R20_shape_J3 r29_4.1 H0 r29_4.2)
      (R20_shape_J3 x1 H0 r26_2.2) := (CXM_eq [2, 3, 5, 7] _ _ _ _).trans (by kernel_rfl)
theorem R20_shape_J1_eq (x1 x2 x3 : AV) (H0 H : Hp) : R20_shape_J1 x1 x2 x3 H0 H =
    bnd (flatC C_R20_Has [x2, (.int .i64 16)] H) fun r22_5 =>
    cnd r22_5.1
      (bnd (flatC C_R20_dict [x1] r22_5.2) fun r24_6 =>
      R20_shape_J2 r24_6.1 x2 x3 H0 r24_6.2)
      (R20_shape_J2 x1 x2 x3 H0 r22_5.2) := (CXM_eq [2, 3, 5, 7] _ _ _ _).trans (by kernel_rfl)
theorem R20_shape_J4_eq (x1 x2 x3 : AV) (H0 H : Hp) : R20_shape_J4 x1 x2 x3 H0 H =
    bnd (asliceS x1 (some (.int .i64 1)) none none) fun t20_7 =>
    R20_shape_L1 t20_7 x2 x3 H0 H := (CXM_eq [2, 3, 5, 7] _ _ _ _).trans (by kernel_rfl)
theorem R20_shape_L1_eq (x1 x2 x3 : AV) (H0 H : Hp) : R20_shape_L1 x1 x2 x3 H0 H =
    bnd (flatC C_R20_Has [x2, (.int .i64 8)] H) fun r8_8 =>
    bnd (gdv r8_8.1 true (.tuple []) (some x1)) fun t10_9 =>
    bnd (gdv r8_8.1 true (.tuple []) (alenD .string t10_9)) fun t11_10 =>
    bnd (gdv r8_8.1 true (.tuple []) (ibin .gtr t11_10 (.int .i64 0))) fun t12_11 =>
    bnd (apick r8_8.1 t12_11 (.bool false)) fun t13_12 =>
    bnd (gdv t13_12 true (.tuple []) (some x1)) fun t15_13 =>
    bnd (gdv t13_12 true (.tuple []) (aindexStr t15_13 (.int .i64 0))) fun t16_14 =>
    bnd (gdv t13_12 true ((.tuple []), r8_8.2) (C_R20_blank [t16_14] r8_8.2)) fun r17_15 =>
    bnd (apick t13_12 r17_15.1 (.bool false)) fun t18_16 =>
    cnd t18_16
      (R20_shape_J4 x1 x2 x3 H0 r17_15.2)
      (R20_shape_J1 x1 x2 x3 H0 r17_15.2) := (LPL_eqm (C := cfg) [2, 3, 5, 7] (tame_block 0 (R20_shape_K1_tame H0)) _ _).trans (by kernel_rfl)
theorem F_R20_shape_eq (p0 p1 p2 : AV) (H : Hp) : C_R20_shape [p0, p1, p2] H = F_R20_shape p0 p1 p2 H := (callw_cxm (C := cfg) (fn := Tryz.f61) (c := bodyOf Tryz.f61) (n := 31) [2, 3, 5, 7] Tryz.func61 (by kernel_rfl) (by kernel_rfl) [p0, p1, p2] (by kernel_rfl) H).trans (by kernel_rfl)

noncomputable def locale_valid_J1 (x1 x2 : AV) (H0 H : Hp) : Res := CXL cfg (callw cfg) (LPL cfg (cfg.keep 65) 16) (cfg.keep 65) 16 seqL blockL (sub (bodyOf Tryz.f65) [1, 1]) (retL cfg 16 65 Tryz.f65 H0) [(1, x1), (2, x2)] H
noncomputable def F_locale_valid (p0 : AV) (H : Hp) : Res :=
  bnd (abox p0 H) fun r1_1 =>
  bnd (some ((.ptr r1_1.2.length 0), r1_1.2 ++ [.cells [(.str []), .nils, (.str []), (.str []), .nils, .nils]])) fun r2_2 =>
  bnd (aload true 6 r1_1.1 r2_2.2) fun t4_12 =>
  bnd (flatC C_locale_Check [t4_12] r2_2.2) fun r5_13 =>
  bnd (ibin .neq r5_13.1 (.int .i64 0)) fun t6_14 =>
  cnd t6_14
    (bnd (flatC C_locale_Default [] r5_13.2) fun r7_15 =>
    bnd (astoreU 6 r2_2.1 r7_15.1 r7_15.2) fun r_16 =>
    bnd (aload true 6 r2_2.1 r_16.2) fun v2_17 =>
    some (v2_17, r_16.2))
    (locale_valid_J1 r1_1.1 r2_2.1 H r5_13.2)
theorem locale_valid_J1_eq (x1 x2 : AV) (H0 H : Hp) : locale_valid_J1 x1 x2 H0 H =
    bnd (amake 1 8 false (.int .i64 0) (.int .i64 256) (.int .i64 256) H) fun r8_3 =>
    bnd (afield 1 x1) fun t10_4 =>
    bnd (aload false 1 t10_4 r8_3.2) fun t11_5 =>
    bnd (acopy 1 r8_3.1 t11_5 r8_3.2) fun r12_6 =>
    bnd (afield 1 x1) fun t14_7 =>
    bnd (astoreU 1 t14_7 r8_3.1 r12_6.2) fun r_8 =>
    bnd (aload true 6 x1 r_8.2) fun t15_9 =>
    bnd (astoreU 6 x2 t15_9 r_8.2) fun r_10 =>
    bnd (aload true 6 x2 r_10.2) fun v2_11 =>
    some (v2_11, r_10.2) := (CXM_eq [3] _ _ _ _).trans (by kernel_rfl)
theorem F_locale_valid_eq (p0 : AV) (H : Hp) : C_locale_valid [p0] H = F_locale_valid p0 H := (callw_cxm (C := cfg) (fn := Tryz.f65) (c := bodyOf Tryz.f65) (n := 16) [3] Tryz.func65 (by kernel_rfl) (by kernel_rfl) [p0] (by kernel_rfl) H).trans (by kernel_rfl)

noncomputable def F_locale_Compare_1 (p0 p1 : AV) (H : Hp) : Res :=
  bnd (some ((.ptr H.length 0), H ++ [.cells [.nils]])) fun r4_1 =>
  bnd (aload true 6 p1 r4_1.2) fun t5_2 =>
  bnd (some (.fn (.func 68) [] [r4_1.1])) fun t7_3 =>
  bnd (C_locale_each [t5_2, p0, t7_3] r4_1.2) fun r8_4 =>
  bnd (aload false 1 r4_1.1 r8_4.2) fun t9_5 =>
  some (t9_5, r8_4.2)
theorem F_locale_Compare_1_eq (p0 p1 : AV) (H : Hp) : C_locale_Compare_1 [p0, p1] H = F_locale_Compare_1 p0 p1 H := (callw_cxm (C := cfg) (fn := Tryz.f66) (c := bodyOf Tryz.f66) (n := 10) [] Tryz.func66 (by kernel_rfl) (by kernel_rfl) [p0, p1] (by kernel_rfl) H).trans (by kernel_rfl)

noncomputable def locale_each_J4 (x1 x2 x3 x6 x9 x10 : AV) (H0 H : Hp) : Res := CXL cfg (callw cfg) (LPL cfg (cfg.keep 67) 75) (cfg.keep 67) 75 seqL blockL (sub (bodyOf Tryz.f67) [1, 1, 1, 1, 0, 0, 1, 0, 1, 1, 1]) (blockL 3 (seqL (fun k al H => LPL cfg (cfg.keep 67) 75 (sub (bodyOf Tryz.f67) [1, 1, 1, 1, 0, 0]) k (trimL (cfg.keep 67) (sub (bodyOf Tryz.f67) [1, 1, 1, 1, 0, 0]) al) H) (blockL 2 (retL cfg 75 67 Tryz.f67 H0)))) [(1, x1), (2, x2), (3, x3), (6, x6), (9, x9), (10, x10)] H
noncomputable def locale_each_J3 (x1 x2 x3 x6 x9 x10 x11 : AV) (H0 H : Hp) : Res := CXL cfg (callw cfg) (LPL cfg (cfg.keep 67) 75) (cfg.keep 67) 75 seqL blockL (sub (bodyOf Tryz.f67) [1, 1, 1, 1, 0, 0, 1, 0, 1, 1]) (blockL 3 (seqL (fun k al H => LPL cfg (cfg.keep 67) 75 (sub (bodyOf Tryz.f67) [1, 1, 1, 1, 0, 0]) k (trimL (cfg.keep 67) (sub (bodyOf Tryz.f67) [1, 1, 1, 1, 0, 0]) al) H) (blockL 2 (retL cfg 75 67 Tryz.f67 H0)))) [(1, x1), (2, x2), (3, x3), (6, x6), (9, x9), (10, x10), (11, x11)] H
noncomputable def locale_each_J2 (x1 x2 x3 x6 x9 : AV) (H0 H : Hp) : Res := CXL cfg (callw cfg) (LPL cfg (cfg.keep 67) 75) (cfg.keep 67) 75 seqL blockL (sub (bodyOf Tryz.f67) [1, 1, 1, 1, 0, 0, 1]) (seqL (fun k al H => LPL cfg (cfg.keep 67) 75 (sub (bodyOf Tryz.f67) [1, 1, 1, 1, 0, 0]) k (trimL (cfg.keep 67) (sub (bodyOf Tryz.f67) [1, 1, 1, 1, 0, 0]) al) H) (blockL 2 (retL cfg 75 67 Tryz.f67 H0))) [(1, x1), (2, x2), (3, x3), (6, x6), (9, x9)] H
noncomputable def locale_each_L1 (x1 x2 x3 x6 x9 : AV) (H0 H : Hp) : Res := LPL cfg (cfg.keep 67) 75 (sub (bodyOf Tryz.f67) [1, 1, 1, 1, 0, 0]) (blockL 2 (retL cfg 75 67 Tryz.f67 H0)) [(1, x1), (2, x2), (3, x3), (6, x6), (9, x9)] H
noncomputable def locale_each_J1 (x1 x2 x3 x6 : AV) (H0 H : Hp) : Res := CXL cfg (callw cfg) (LPL cfg (cfg.keep 67) 75) (cfg.keep 67) 75 seqL blockL (sub (bodyOf Tryz.f67) [1, 1, 1]) (retL cfg 75 67 Tryz.f67 H0) [(1, x1), (2, x2), (3, x3), (6, x6)] H
noncomputable def locale_each_K1 (H0 : Hp) : KL := seqL (fun k al H => CXL cfg (callw cfg) (LPL cfg (cfg.keep 67) 75) (cfg.keep 67) 75 seqL blockL (sub (bodyOf Tryz.f67) [1, 1, 1]) k (trimL (cfg.keep 67) (sub (bodyOf Tryz.f67) [1, 1, 1]) al) H) (retL cfg 75 67 Tryz.f67 H0)
theorem locale_each_K1_tame (H0 : Hp) : Tame 75 (locale_each_K1 H0) := tame_seq (C := cfg) (kp := cfg.keep 67) (sub (bodyOf Tryz.f67) [1, 1, 1]) (tame_ret 67 Tryz.f67 H0)
noncomputable def locale_each_J6 (x1 x2 x3 x6 x16 x17 x18 : AV) (H0 H : Hp) : Res := CXL cfg (callw cfg) (LPL cfg (cfg.keep 67) 75) (cfg.keep 67) 75 seqL blockL (sub (bodyOf Tryz.f67) [1, 1, 0, 1, 0, 0, 1, 1, 1]) (seqL (fun k al H => LPL cfg (cfg.keep 67) 75 (sub (bodyOf Tryz.f67) [1, 1, 0, 1, 0, 0]) k (trimL (cfg.keep 67) (sub (bodyOf Tryz.f67) [1, 1, 0, 1, 0, 0]) al) H) (blockL 0 (locale_each_K1 H0))) [(1, x1), (2, x2), (3, x3), (6, x6), (16, x16), (17, x17), (18, x18)] H
noncomputable def locale_each_J5 (x1 x2 x3 x6 x16 x17 x18 x19 : AV) (H0 H : Hp) : Res := CXL cfg (callw cfg) (LPL cfg (cfg.keep 67) 75) (cfg.keep 67) 75 seqL blockL (sub (bodyOf Tryz.f67) [1, 1, 0, 1, 0, 0, 1, 1]) (seqL (fun k al H => LPL cfg (cfg.keep 67) 75 (sub (bodyOf Tryz.f67) [1, 1, 0, 1, 0, 0]) k (trimL (cfg.keep 67) (sub (bodyOf Tryz.f67) [1, 1, 0, 1, 0, 0]) al) H) (blockL 0 (locale_each_K1 H0))) [(1, x1), (2, x2), (3, x3), (6, x6), (16, x16), (17, x17), (18, x18), (19, x19)] H
noncomputable def locale_each_L2 (x1 x2 x3 x6 x16 x17 x18 : AV) (H0 H : Hp) : Res := LPL cfg (cfg.keep 67) 75 (sub (bodyOf Tryz.f67) [1, 1, 0, 1, 0, 0]) (blockL 0 (locale_each_K1 H0)) [(1, x1), (2, x2), (3, x3), (6, x6), (16, x16), (17, x17), (18, x18)] H
noncomputable def F_locale_each (p0 p1 p2 : AV) (H : Hp) : Res :=
  bnd (abox p0 H) fun r3_1 =>
  bnd (some ((.map r3_1.2.length), r3_1.2 ++ [.map [] 0])) fun r14_2 =>
  bnd (afield 5 r3_1.1) fun t15_26 =>
  bnd (aload false 1 t15_26 r14_2.2) fun t16_27 =>
  bnd (alenD (.slice 116) t16_27) fun t17_28 =>
  locale_each_L2 p1 p2 r3_1.1 r14_2.1 t16_27 t17_28 (.int .i64 0) H r14_2.2
theorem locale_each_J4_eq (x1 x2 x3 x6 x9 x10 : AV) (H0 H : Hp) : locale_each_J4 x1 x2 x3 x6 x9 x10 H0 H =
    bnd (alenD .string x10) fun t73_10 =>
    bnd (ibin .add x9 t73_10) fun t74_11 =>
    locale_each_L1 x1 x2 x3 x6 t74_11 H0 H := (CXM_eq [4, 6, 7, 9, 14, 15] _ _ _ _).trans (by kernel_rfl)
theorem locale_each_J3_eq (x1 x2 x3 x6 x9 x10 x11 : AV) (H0 H : Hp) : locale_each_J3 x1 x2 x3 x6 x9 x10 x11 H0 H =
    bnd (acall cfg (callw cfg) x2 [x10, x11] H) fun r69_12 =>
    bnd (aun .not r69_12.1) fun t70_13 =>
    cnd t70_13
      (some ((.tuple []), r69_12.2))
      (locale_each_J4 x1 x2 x3 x6 x9 x10 H0 r69_12.2) := (CXM_eq [4, 6, 7, 9, 14, 15] _ _ _ _).trans (by kernel_rfl)
theorem locale_each_J2_eq (x1 x2 x3 x6 x9 : AV) (H0 H : Hp) : locale_each_J2 x1 x2 x3 x6 x9 H0 H =
    bnd (ibin .add x9 (.int .i64 1)) fun t35_3 =>
    bnd (asliceS x1 (some x9) (some t35_3) none) fun t36_4 =>
    bnd (afield 1 x3) fun t37_5 =>
    bnd (aload false 1 t37_5 H) fun t38_6 =>
    bnd (aindexStr x1 x9) fun t41_7 =>
    bnd (aindexS 1 t38_6 t41_7) fun t42_8 =>
    bnd (aload false 1 t42_8 H) fun t43_9 =>
    bnd (ibin .add x9 (.int .i64 2)) fun t45_14 =>
    bnd (alenD .string x1) fun t47_15 =>
    bnd (ibin .leq t45_14 t47_15) fun t48_16 =>
    cnd t48_16
      (bnd (ibin .add x9 (.int .i64 2)) fun t54_17 =>
      bnd (asliceS x1 (some x9) (some t54_17) none) fun t55_18 =>
      bnd (alookup .string (.int .i64 0) true x6 t55_18 H) fun t56_19 =>
      bnd (aext t56_19 0) fun t57_20 =>
      bnd (aext t56_19 1) fun t58_21 =>
      cnd t58_21
        (bnd (ibin .add x9 (.int .i64 2)) fun t63_22 =>
        bnd (asliceS x1 (some x9) (some t63_22) none) fun t64_23 =>
        locale_each_J3 x1 x2 x3 x6 x9 t64_23 t57_20 H0 H)
        (locale_each_J3 x1 x2 x3 x6 x9 t36_4 t43_9 H0 H))
      (locale_each_J3 x1 x2 x3 x6 x9 t36_4 t43_9 H0 H) := (CXM_eq [4, 6, 7, 9, 14, 15] _ _ _ _).trans (by kernel_rfl)
theorem locale_each_L1_eq (x1 x2 x3 x6 x9 : AV) (H0 H : Hp) : locale_each_L1 x1 x2 x3 x6 x9 H0 H =
    bnd (alenD .string x1) fun t30_24 =>
    bnd (ibin .lss x9 t30_24) fun t31_25 =>
    cnd t31_25
      (locale_each_J2 x1 x2 x3 x6 x9 H0 H)
      (some ((.tuple []), H)) := (LPL_eqm (C := cfg) [4, 6, 7, 9, 14, 15] (tame_block 2 (tame_ret 67 Tryz.f67 H0)) _ _).trans (by kernel_rfl)
theorem locale_each_J1_eq (x1 x2 x3 x6 : AV) (H0 H : Hp) : locale_each_J1 x1 x2 x3 x6 H0 H =
    locale_each_L1 x1 x2 x3 x6 (.int .i64 0) H0 H := (CXM_eq [4, 6, 7, 9, 14, 15] _ _ _ _).trans (by kernel_rfl)
theorem locale_each_J6_eq (x1 x2 x3 x6 x16 x17 x18 : AV) (H0 H : Hp) : locale_each_J6 x1 x2 x3 x6 x16 x17 x18 H0 H =
    bnd (ibin .add x18 (.int .i64 1)) fun t27_30 =>
    locale_each_L2 x1 x2 x3 x6 x16 x17 t27_30 H0 H := (CXM_eq [4, 6, 7, 9, 14, 15] _ _ _ _).trans (by kernel_rfl)
theorem locale_each_J5_eq (x1 x2 x3 x6 x16 x17 x18 x19 : AV) (H0 H : Hp) : locale_each_J5 x1 x2 x3 x6 x16 x17 x18 x19 H0 H =
    bnd (aindexS 2 x16 x18) fun t20_31 =>
    bnd (aload true 2 t20_31 H) fun t21_32 =>
    bnd (some ((.ptr H.length 0), H ++ [.cells [(.str []), (.int .i64 0)]])) fun r8_33 =>
    bnd (astoreU 2 r8_33.1 t21_32 r8_33.2) fun r_34 =>
    bnd (afield 0 r8_33.1) fun t23_35 =>
    bnd (aload false 1 t23_35 r_34.2) fun t24_36 =>
    bnd (afield 1 r8_33.1) fun t25_37 =>
    bnd (aload false 1 t25_37 r_34.2) fun t26_38 =>
    bnd (amapSet .string x6 t24_36 t26_38 r_34.2) fun r_39 =>
    locale_each_J6 x1 x2 x3 x6 x16 x17 x18 H0 r_39.2 := (CXM_eq [4, 6, 7, 9, 14, 15] _ _ _ _).trans (by kernel_rfl)
theorem locale_each_L2_eq (x1 x2 x3 x6 x16 x17 x18 : AV) (H0 H : Hp) : locale_each_L2 x1 x2 x3 x6 x16 x17 x18 H0 H =
    bnd (ibin .lss x18 x17) fun t19_29 =>
    cnd t19_29
      (locale_each_J5 x1 x2 x3 x6 x16 x17 x18 t19_29 H0 H)
      (locale_each_J1 x1 x2 x3 x6 H0 H) := (LPL_eqm (C := cfg) [4, 6, 7, 9, 14, 15] (tame_block 0 (locale_each_K1_tame H0)) _ _).trans (by kernel_rfl)
theorem F_locale_each_eq (p0 p1 p2 : AV) (H : Hp) : C_locale_each [p0, p1, p2] H = F_locale_each p0 p1 p2 H := (callw_cxm (C := cfg) (fn := Tryz.f67) (c := bodyOf Tryz.f67) (n := 75) [4, 6, 7, 9, 14, 15] Tryz.func67 (by kernel_rfl) (by kernel_rfl) [p0, p1, p2] (by kernel_rfl) H).trans (by kernel_rfl)

noncomputable def F_locale_Compare_1_1 (p0 p1 p2 : AV) (H : Hp) : Res :=
  bnd (aload false 1 p2 H) fun t6_1 =>
  bnd ((setElems 1 [(0, p1)] [(.int .i64 0)]).map (.vs 1 .clip)) fun t8_2 =>
  bnd (aappE 1 8 t6_1 t8_2 H) fun r9_3 =>
  bnd (astoreU 1 p2 r9_3.1 r9_3.2) fun r_4 =>
  some ((.bool true), r_4.2)
theorem F_locale_Compare_1_1_eq (p0 p1 p2 : AV) (H : Hp) : C_locale_Compare_1_1 [p0, p1, p2] H = F_locale_Compare_1_1 p0 p1 p2 H := (callw_cxm (C := cfg) (fn := Tryz.f68) (c := bodyOf Tryz.f68) (n := 10) [] Tryz.func68 (by kernel_rfl) (by kernel_rfl) [p0, p1, p2] (by kernel_rfl) H).trans (by kernel_rfl)

noncomputable def F_strings_Compare (p0 p1 : AV) (H : Hp) : Res :=
  bnd (flatC C_internal_bytealg_CompareString [p0, p1] H) fun r7_1 =>
  some (r7_1.1, r7_1.2)
theorem F_strings_Compare_eq (p0 p1 : AV) (H : Hp) : C_strings_Compare [p0, p1] H = F_strings_Compare p0 p1 H := (callw_cxm (C := cfg) (fn := Tryz.f69) (c := bodyOf Tryz.f69) (n := 8) [] Tryz.func69 (by kernel_rfl) (by kernel_rfl) [p0, p1] (by kernel_rfl) H).trans (by kernel_rfl)

noncomputable def R05_valid_J1 (x1 x2 : AV) (H0 H : Hp) : Res := CXL cfg (callw cfg) (LPL cfg (cfg.keep 70) 8) (cfg.keep 70) 8 seqL blockL (sub (bodyOf Tryz.f70) [1, 1]) (retL cfg 8 70 Tryz.f70 H0) [(1, x1), (2, x2)] H
noncomputable def F_R05_valid (p0 : AV) (H : Hp) : Res :=
  bnd (abox p0 H) fun r1_1 =>
  bnd (some ((.ptr r1_1.2.length 0), r1_1.2 ++ [.cells [(.str []), .nils, (.str []), (.str []), .nils, .nils]])) fun r2_2 =>
  bnd (aload true 6 r1_1.1 r2_2.2) fun t3_6 =>
  bnd (flatC C_R05_Check [t3_6] r2_2.2) fun r4_7 =>
  bnd (ibin .neq r4_7.1 (.int .i64 0)) fun t5_8 =>
  cnd t5_8
    (bnd (flatC C_R05_Default [] r4_7.2) fun r6_9 =>
    bnd (astoreU 6 r2_2.1 r6_9.1 r6_9.2) fun r_10 =>
    bnd (aload true 6 r2_2.1 r_10.2) fun v2_11 =>
    some (v2_11, r_10.2))
    (R05_valid_J1 r1_1.1 r2_2.1 H r4_7.2)
theorem R05_valid_J1_eq (x1 x2 : AV) (H0 H : Hp) : R05_valid_J1 x1 x2 H0 H =
    bnd (aload true 6 x1 H) fun t7_3 =>
    bnd (astoreU 6 x2 t7_3 H) fun r_4 =>
    bnd (aload true 6 x2 r_4.2) fun v2_5 =>
    some (v2_5, r_4.2) := (CXM_eq [3] _ _ _ _).trans (by kernel_rfl)
theorem F_R05_valid_eq (p0 : AV) (H : Hp) : C_R05_valid [p0] H = F_R05_valid p0 H := (callw_cxm (C := cfg) (fn := Tryz.f70) (c := bodyOf Tryz.f70) (n := 8) [3] Tryz.func70 (by kernel_rfl) (by kernel_rfl) [p0] (by kernel_rfl) H).trans (by kernel_rfl)

noncomputable def R05_order_J3 (H0 H : Hp) : Res := CXL cfg (callw cfg) (LPL cfg (cfg.keep 71) 46) (cfg.keep 71) 46 seqL blockL (sub (bodyOf Tryz.f71) [1, 1, 1, 1]) (retL cfg 46 71 Tryz.f71 H0) [] H
noncomputable def R05_order_J2 (x0 x1 : AV) (H0 H : Hp) : Res := CXL cfg (callw cfg) (LPL cfg (cfg.keep 71) 46) (cfg.keep 71) 46 seqL blockL (sub (bodyOf Tryz.f71) [1, 1, 1]) (retL cfg 46 71 Tryz.f71 H0) [(0, x0), (1, x1)] H
noncomputable def R05_order_J1 (x0 x1 : AV) (H0 H : Hp) : Res := CXL cfg (callw cfg) (LPL cfg (cfg.keep 71) 46) (cfg.keep 71) 46 seqL blockL (sub (bodyOf Tryz.f71) [1, 1]) (retL cfg 46 71 Tryz.f71 H0) [(0, x0), (1, x1)] H
noncomputable def R05_order_K1 (H0 : Hp) : KL := seqL (fun k al H => CXL cfg (callw cfg) (LPL cfg (cfg.keep 71) 46) (cfg.keep 71) 46 seqL blockL (sub (bodyOf Tryz.f71) [1, 1]) k (trimL (cfg.keep 71) (sub (bodyOf Tryz.f71) [1, 1]) al) H) (retL cfg 46 71 Tryz.f71 H0)
theorem R05_order_K1_tame (H0 : Hp) : Tame 46 (R05_order_K1 H0) := tame_seq (C := cfg) (kp := cfg.keep 71) (sub (bodyOf Tryz.f71) [1, 1]) (tame_ret 71 Tryz.f71 H0)
noncomputable def R05_order_J5 (x0 x1 x5 : AV) (H0 H : Hp) : Res := CXL cfg (callw cfg) (LPL cfg (cfg.keep 71) 46) (cfg.keep 71) 46 seqL blockL (sub (bodyOf Tryz.f71) [1, 0, 1, 0, 0, 1, 1]) (seqL (fun k al H => LPL cfg (cfg.keep 71) 46 (sub (bodyOf Tryz.f71) [1, 0, 1, 0, 0]) k (trimL (cfg.keep 71) (sub (bodyOf Tryz.f71) [1, 0, 1, 0, 0]) al) H) (blockL 0 (R05_order_K1 H0))) [(0, x0), (1, x1), (5, x5)] H
noncomputable def R05_order_K2 (H0 : Hp) : KL := seqL (fun k al H => CXL cfg (callw cfg) (LPL cfg (cfg.keep 71) 46) (cfg.keep 71) 46 seqL blockL (sub (bodyOf Tryz.f71) [1, 0, 1, 0, 0, 1, 1]) k (trimL (cfg.keep 71) (sub (bodyOf Tryz.f71) [1, 0, 1, 0, 0, 1, 1]) al) H) (seqL (fun k al H => LPL cfg (cfg.keep 71) 46 (sub (bodyOf Tryz.f71) [1, 0, 1, 0, 0]) k (trimL (cfg.keep 71) (sub (bodyOf Tryz.f71) [1, 0, 1, 0, 0]) al) H) (blockL 0 (R05_order_K1 H0)))
noncomputable def R05_order_J6 (x0 x1 x5 : AV) (H0 H : Hp) : Res := CXL cfg (callw cfg) (LPL cfg (cfg.keep 71) 46) (cfg.keep 71) 46 seqL blockL (sub (bodyOf Tryz.f71) [1, 0, 1, 0, 0, 1, 0, 0, 1]) (blockL 1 (R05_order_K2 H0)) [(0, x0), (1, x1), (5, x5)] H
noncomputable def R05_order_J4 (x0 x1 x5 : AV) (H0 H : Hp) : Res := CXL cfg (callw cfg) (LPL cfg (cfg.keep 71) 46) (cfg.keep 71) 46 seqL blockL (sub (bodyOf Tryz.f71) [1, 0, 1, 0, 0, 1]) (seqL (fun k al H => LPL cfg (cfg.keep 71) 46 (sub (bodyOf Tryz.f71) [1, 0, 1, 0, 0]) k (trimL (cfg.keep 71) (sub (bodyOf Tryz.f71) [1, 0, 1, 0, 0]) al) H) (blockL 0 (R05_order_K1 H0))) [(0, x0), (1, x1), (5, x5)] H
noncomputable def R05_order_L1 (x0 x1 x5 : AV) (H0 H : Hp) : Res := LPL cfg (cfg.keep 71) 46 (sub (bodyOf Tryz.f71) [1, 0, 1, 0, 0]) (blockL 0 (R05_order_K1 H0)) [(0, x0), (1, x1), (5, x5)] H
noncomputable def F_R05_order (p0 p1 : AV) (H : Hp) : Res :=
  R05_order_L1 p0 p1 (.int .i64 0) H H
theorem R05_order_J3_eq (H0 H : Hp) : R05_order_J3 H0 H =
    some ((.int .i64 0), H) := (CXM_eq [3, 4, 6, 8, 10, 12] _ _ _ _).trans (by kernel_rfl)
theorem R05_order_J2_eq (x0 x1 : AV) (H0 H : Hp) : R05_order_J2 x0 x1 H0 H =
    bnd (alenD (.slice 3) x0) fun t42_1 =>
    bnd (alenD (.slice 3) x1) fun t44_2 =>
    bnd (ibin .gtr t42_1 t44_2) fun t45_3 =>
    cnd t45_3
      (some ((.int .i64 1), H))
      (R05_order_J3 H0 H) := (CXM_eq [3, 4, 6, 8, 10, 12] _ _ _ _).trans (by kernel_rfl)
theorem R05_order_J1_eq (x0 x1 : AV) (H0 H : Hp) : R05_order_J1 x0 x1 H0 H =
    bnd (alenD (.slice 3) x0) fun t37_4 =>
    bnd (alenD (.slice 3) x1) fun t39_5 =>
    bnd (ibin .lss t37_4 t39_5) fun t40_6 =>
    cnd t40_6
      (some ((.int .i64 (-1)), H))
      (R05_order_J2 x0 x1 H0 H) := (CXM_eq [3, 4, 6, 8, 10, 12] _ _ _ _).trans (by kernel_rfl)
theorem R05_order_J5_eq (x0 x1 x5 : AV) (H0 H : Hp) : R05_order_J5 x0 x1 x5 H0 H =
    bnd (ibin .add x5 (.int .i64 1)) fun t17_7 =>
    R05_order_L1 x0 x1 t17_7 H0 H := (CXM_eq [3, 4, 6, 8, 10, 12] _ _ _ _).trans (by kernel_rfl)
theorem R05_order_J6_eq (x0 x1 x5 : AV) (H0 H : Hp) : R05_order_J6 x0 x1 x5 H0 H =
    bnd (aindexS 1 x0 x5) fun t29_8 =>
    bnd (aload false 1 t29_8 H) fun t30_9 =>
    bnd (aindexS 1 x1 x5) fun t33_10 =>
    bnd (aload false 1 t33_10 H) fun t34_11 =>
    bnd (ibin .gtr t30_9 t34_11) fun t35_12 =>
    cnd t35_12
      (some ((.int .i64 1), H))
      (R05_order_J5 x0 x1 x5 H0 H) := (CXM_eq [3, 4, 6, 8, 10, 12] _ _ _ _).trans (by kernel_rfl)
theorem R05_order_J4_eq (x0 x1 x5 : AV) (H0 H : Hp) : R05_order_J4 x0 x1 x5 H0 H =
    bnd (aindexS 1 x0 x5) fun t20_13 =>
    bnd (aload false 1 t20_13 H) fun t21_14 =>
    bnd (aindexS 1 x1 x5) fun t24_15 =>
    bnd (aload false 1 t24_15 H) fun t25_16 =>
    bnd (ibin .lss t21_14 t25_16) fun t26_17 =>
    cnd t26_17
      (some ((.int .i64 (-1)), H))
      (R05_order_J6 x0 x1 x5 H0 H) := (CXM_eq [3, 4, 6, 8, 10, 12] _ _ _ _).trans (by kernel_rfl)
theorem R05_order_L1_eq (x0 x1 x5 : AV) (H0 H : Hp) : R05_order_L1 x0 x1 x5 H0 H =
    bnd (alenD (.slice 3) x0) fun t8_18 =>
    bnd (ibin .lss x5 t8_18) fun t9_19 =>
    bnd (gdv t9_19 true (.tuple []) (some x5)) fun t11_20 =>
    bnd (gdv t9_19 true (.tuple []) (some x1)) fun t12_21 =>
    bnd (gdv t9_19 true (.tuple []) (alenD (.slice 3) t12_21)) fun t13_22 =>
    bnd (gdv t9_19 true (.tuple []) (ibin .lss t11_20 t13_22)) fun t14_23 =>
    bnd (apick t9_19 t14_23 (.bool false)) fun t15_24 =>
    cnd t15_24
      (R05_order_J4 x0 x1 x5 H0 H)
      (R05_order_J1 x0 x1 H0 H) := (LPL_eqm (C := cfg) [3, 4, 6, 8, 10, 12] (tame_block 0 (R05_order_K1_tame H0)) _ _).trans (by kernel_rfl)
theorem F_R05_order_eq (p0 p1 : AV) (H : Hp) : C_R05_order [p0, p1] H = F_R05_order p0 p1 H := (callw_cxm (C := cfg) (fn := Tryz.f71) (c := bodyOf Tryz.f71) (n := 46) [3, 4, 6, 8, 10, 12] Tryz.func71 (by kernel_rfl) (by kernel_rfl) [p0, p1] (by kernel_rfl) H).trans (by kernel_rfl)

noncomputable def R05_weights_J1 (x5 : AV) (H0 H : Hp) : Res := CXL cfg (callw cfg) (LPL cfg (cfg.keep 72) 42) (cfg.keep 72) 42 seqL blockL (sub (bodyOf Tryz.f72) [1, 1, 1]) (retL cfg 42 72 Tryz.f72 H0) [(5, x5)] H
noncomputable def R05_weights_K1 (H0 : Hp) : KL := seqL (fun k al H => CXL cfg (callw cfg) (LPL cfg (cfg.keep 72) 42) (cfg.keep 72) 42 seqL blockL (sub (bodyOf Tryz.f72) [1, 1, 1]) k (trimL (cfg.keep 72) (sub (bodyOf Tryz.f72) [1, 1, 1]) al) H) (retL cfg 42 72 Tryz.f72 H0)
theorem R05_weights_K1_tame (H0 : Hp) : Tame 42 (R05_weights_K1 H0) := tame_seq (C := cfg) (kp := cfg.keep 72) (sub (bodyOf Tryz.f72) [1, 1, 1]) (tame_ret 72 Tryz.f72 H0)
noncomputable def R05_weights_J2 (x1 x2 x5 x6 : AV) (H0 H : Hp) : Res := CXL cfg (callw cfg) (LPL cfg (cfg.keep 72) 42) (cfg.keep 72) 42 seqL blockL (sub (bodyOf Tryz.f72) [1, 1, 0, 1, 0, 0, 1]) (seqL (fun k al H => LPL cfg (cfg.keep 72) 42 (sub (bodyOf Tryz.f72) [1, 1, 0, 1, 0, 0]) k (trimL (cfg.keep 72) (sub (bodyOf Tryz.f72) [1, 1, 0, 1, 0, 0]) al) H) (blockL 0 (R05_weights_K1 H0))) [(1, x1), (2, x2), (5, x5), (6, x6)] H
noncomputable def R05_weights_L1 (x1 x2 x5 x6 : AV) (H0 H : Hp) : Res := LPL cfg (cfg.keep 72) 42 (sub (bodyOf Tryz.f72) [1, 1, 0, 1, 0, 0]) (blockL 0 (R05_weights_K1 H0)) [(1, x1), (2, x2), (5, x5), (6, x6)] H
noncomputable def F_R05_weights (p0 p1 : AV) (H : Hp) : Res :=
  bnd (abox p0 H) fun r2_1 =>
  R05_weights_L1 p1 r2_1.1 .nils (.int .i64 0) H r2_1.2
theorem R05_weights_J1_eq (x5 : AV) (H0 H : Hp) : R05_weights_J1 x5 H0 H =
    some (x5, H) := (CXM_eq [4, 10] _ _ _ _).trans (by kernel_rfl)
theorem R05_weights_J2_eq (x1 x2 x5 x6 : AV) (H0 H : Hp) : R05_weights_J2 x1 x2 x5 x6 H0 H =
    bnd (aload true 6 x2 H) fun t12_2 =>
    bnd (flatC C_R05_find [t12_2, x1, x6] H) fun r15_3 =>
    bnd (ibin .lss r15_3.1 (.int .i64 0)) fun t17_4 =>
    cnd t17_4
      (bnd (afield 1 x2) fun t19_5 =>
      bnd (aload false 1 t19_5 r15_3.2) fun t20_6 =>
      bnd (aindexStr x1 x6) fun t23_7 =>
      bnd (aindexS 1 t20_6 t23_7) fun t24_8 =>
      bnd (aload false 1 t24_8 r15_3.2) fun t25_9 =>
      bnd ((setElems 1 [(0, t25_9)] [(.int .i64 0)]).map (.vs 1 .clip)) fun t26_10 =>
      bnd (aappE 1 8 x5 t26_10 r15_3.2) fun r27_11 =>
      bnd (ibin .add x6 (.int .i64 1)) fun t29_12 =>
      R05_weights_L1 x1 x2 r27_11.1 t29_12 H0 r27_11.2)
      (bnd (afield 5 x2) fun t31_13 =>
      bnd (aload false 1 t31_13 r15_3.2) fun t32_14 =>
      bnd (aindexS 2 t32_14 r15_3.1) fun t34_15 =>
      bnd (afield 1 t34_15) fun t35_16 =>
      bnd (aload false 1 t35_16 r15_3.2) fun t36_17 =>
      bnd ((setElems 1 [(0, t36_17)] [(.int .i64 0)]).map (.vs 1 .clip)) fun t37_18 =>
      bnd (aappE 1 8 x5 t37_18 r15_3.2) fun r38_19 =>
      bnd (ibin .add x6 (.int .i64 2)) fun t40_20 =>
      R05_weights_L1 x1 x2 r38_19.1 t40_20 H0 r38_19.2) := (CXM_eq [4, 10] _ _ _ _).trans (by kernel_rfl)
theorem R05_weights_L1_eq (x1 x2 x5 x6 : AV) (H0 H : Hp) : R05_weights_L1 x1 x2 x5 x6 H0 H =
    bnd (alenD .string x1) fun t10_21 =>
    bnd (ibin .lss x6 t10_21) fun t11_22 =>
    cnd t11_22
      (R05_weights_J2 x1 x2 x5 x6 H0 H)
      (R05_weights_J1 x5 H0 H) := (LPL_eqm (C := cfg) [4, 10] (tame_block 0 (R05_weights_K1_tame H0)) _ _).trans (by kernel_rfl)
theorem F_R05_weights_eq (p0 p1 : AV) (H : Hp) : C_R05_weights [p0, p1] H = F_R05_weights p0 p1 H := (callw_cxm (C := cfg) (fn := Tryz.f72) (c := bodyOf Tryz.f72) (n := 42) [4, 10] Tryz.func72 (by kernel_rfl) (by kernel_rfl) [p0, p1] (by kernel_rfl) H).trans (by kernel_rfl)

noncomputable def R05_Bytes_J2 (x5 x6 : AV) (H0 H : Hp) : Res := CXL cfg (callw cfg) (LPL cfg (cfg.keep 73) 38) (cfg.keep 73) 38 seqL blockL (sub (bodyOf Tryz.f73) [1, 1, 1, 1]) (retL cfg 38 73 Tryz.f73 H0) [(5, x5), (6, x6)] H
noncomputable def R05_Bytes_K1 (H0 : Hp) : KL := seqL (fun k al H => CXL cfg (callw cfg) (LPL cfg (cfg.keep 73) 38) (cfg.keep 73) 38 seqL blockL (sub (bodyOf Tryz.f73) [1, 1, 1, 1]) k (trimL (cfg.keep 73) (sub (bodyOf Tryz.f73) [1, 1, 1, 1]) al) H) (retL cfg 38 73 Tryz.f73 H0)
theorem R05_Bytes_K1_tame (H0 : Hp) : Tame 38 (R05_Bytes_K1 H0) := tame_seq (C := cfg) (kp := cfg.keep 73) (sub (bodyOf Tryz.f73) [1, 1, 1, 1]) (tame_ret 73 Tryz.f73 H0)
noncomputable def R05_Bytes_J4 (x1 x5 x6 x8 : AV) (H0 H : Hp) : Res := CXL cfg (callw cfg) (LPL cfg (cfg.keep 73) 38) (cfg.keep 73) 38 seqL blockL (sub (bodyOf Tryz.f73) [1, 1, 1, 0, 1, 0, 0, 1, 1]) (seqL (fun k al H => LPL cfg (cfg.keep 73) 38 (sub (bodyOf Tryz.f73) [1, 1, 1, 0, 1, 0, 0]) k (trimL (cfg.keep 73) (sub (bodyOf Tryz.f73) [1, 1, 1, 0, 1, 0, 0]) al) H) (blockL 2 (R05_Bytes_K1 H0))) [(1, x1), (5, x5), (6, x6), (8, x8)] H
noncomputable def R05_Bytes_J3 (x1 x5 x6 x8 : AV) (H0 H : Hp) : Res := CXL cfg (callw cfg) (LPL cfg (cfg.keep 73) 38) (cfg.keep 73) 38 seqL blockL (sub (bodyOf Tryz.f73) [1, 1, 1, 0, 1, 0, 0, 1]) (seqL (fun k al H => LPL cfg (cfg.keep 73) 38 (sub (bodyOf Tryz.f73) [1, 1, 1, 0, 1, 0, 0]) k (trimL (cfg.keep 73) (sub (bodyOf Tryz.f73) [1, 1, 1, 0, 1, 0, 0]) al) H) (blockL 2 (R05_Bytes_K1 H0))) [(1, x1), (5, x5), (6, x6), (8, x8)] H
noncomputable def R05_Bytes_L1 (x1 x5 x6 x8 : AV) (H0 H : Hp) : Res := LPL cfg (cfg.keep 73) 38 (sub (bodyOf Tryz.f73) [1, 1, 1, 0, 1, 0, 0]) (blockL 2 (R05_Bytes_K1 H0)) [(1, x1), (5, x5), (6, x6), (8, x8)] H
noncomputable def R05_Bytes_J1 (x1 x5 x6 : AV) (H0 H : Hp) : Res := CXL cfg (callw cfg) (LPL cfg (cfg.keep 73) 38) (cfg.keep 73) 38 seqL blockL (sub (bodyOf Tryz.f73) [1, 1, 1]) (retL cfg 38 73 Tryz.f73 H0) [(1, x1), (5, x5), (6, x6)] H
noncomputable def R05_Bytes_K2 (H0 : Hp) : KL := seqL (fun k al H => CXL cfg (callw cfg) (LPL cfg (cfg.keep 73) 38) (cfg.keep 73) 38 seqL blockL (sub (bodyOf Tryz.f73) [1, 1, 1]) k (trimL (cfg.keep 73) (sub (bodyOf Tryz.f73) [1, 1, 1]) al) H) (retL cfg 38 73 Tryz.f73 H0)
theorem R05_Bytes_K2_tame (H0 : Hp) : Tame 38 (R05_Bytes_K2 H0) := tame_seq (C := cfg) (kp := cfg.keep 73) (sub (bodyOf Tryz.f73) [1, 1, 1]) (tame_ret 73 Tryz.f73 H0)
noncomputable def R05_Bytes_J6 (x0 x1 x5 x6 x7 : AV) (H0 H : Hp) : Res := CXL cfg (callw cfg) (LPL cfg (cfg.keep 73) 38) (cfg.keep 73) 38 seqL blockL (sub (bodyOf Tryz.f73) [1, 1, 0, 1, 0, 0, 1, 1]) (seqL (fun k al H => LPL cfg (cfg.keep 73) 38 (sub (bodyOf Tryz.f73) [1, 1, 0, 1, 0, 0]) k (trimL (cfg.keep 73) (sub (bodyOf Tryz.f73) [1, 1, 0, 1, 0, 0]) al) H) (blockL 0 (R05_Bytes_K2 H0))) [(0, x0), (1, x1), (5, x5), (6, x6), (7, x7)] H
noncomputable def R05_Bytes_J5 (x0 x1 x5 x6 x7 : AV) (H0 H : Hp) : Res := CXL cfg (callw cfg) (LPL cfg (cfg.keep 73) 38) (cfg.keep 73) 38 seqL blockL (sub (bodyOf Tryz.f73) [1, 1, 0, 1, 0, 0, 1]) (seqL (fun k al H => LPL cfg (cfg.keep 73) 38 (sub (bodyOf Tryz.f73) [1, 1, 0, 1, 0, 0]) k (trimL (cfg.keep 73) (sub (bodyOf Tryz.f73) [1, 1, 0, 1, 0, 0]) al) H) (blockL 0 (R05_Bytes_K2 H0))) [(0, x0), (1, x1), (5, x5), (6, x6), (7, x7)] H
noncomputable def R05_Bytes_L2 (x0 x1 x5 x6 x7 : AV) (H0 H : Hp) : Res := LPL cfg (cfg.keep 73) 38 (sub (bodyOf Tryz.f73) [1, 1, 0, 1, 0, 0]) (blockL 0 (R05_Bytes_K2 H0)) [(0, x0), (1, x1), (5, x5), (6, x6), (7, x7)] H
noncomputable def F_R05_Bytes (p0 p1 : AV) (H : Hp) : Res :=
  R05_Bytes_L2 p0 p1 .nils .nils (.int .i64 0) H H
theorem R05_Bytes_J2_eq (x5 x6 : AV) (H0 H : Hp) : R05_Bytes_J2 x5 x6 H0 H =
    bnd (flatC C_R05_order [x5, x6] H) fun r37_1 =>
    some (r37_1.1, r37_1.2) := (CXM_eq [4, 5, 6, 8, 9, 10] _ _ _ _).trans (by kernel_rfl)
theorem R05_Bytes_J4_eq (x1 x5 x6 x8 : AV) (H0 H : Hp) : R05_Bytes_J4 x1 x5 x6 x8 H0 H =
    bnd (ibin .add x8 (.int .i64 1)) fun t27_2 =>
    R05_Bytes_L1 x1 x5 x6 t27_2 H0 H := (CXM_eq [4, 5, 6, 8, 9, 10] _ _ _ _).trans (by kernel_rfl)
theorem R05_Bytes_J3_eq (x1 x5 x6 x8 : AV) (H0 H : Hp) : R05_Bytes_J3 x1 x5 x6 x8 H0 H =
    bnd (aindexStr x1 x8) fun t31_3 =>
    bnd (cvInt .i64 t31_3) fun t32_4 =>
    bnd ((setElems 1 [(0, t32_4)] [(.int .i64 0)]).map (.vs 1 .clip)) fun t33_5 =>
    bnd (aappE 1 8 x6 t33_5 H) fun r34_6 =>
    R05_Bytes_J4 x1 x5 r34_6.1 x8 H0 r34_6.2 := (CXM_eq [4, 5, 6, 8, 9, 10] _ _ _ _).trans (by kernel_rfl)
theorem R05_Bytes_L1_eq (x1 x5 x6 x8 : AV) (H0 H : Hp) : R05_Bytes_L1 x1 x5 x6 x8 H0 H =
    bnd (alenD .string x1) fun t24_7 =>
    bnd (ibin .lss x8 t24_7) fun t25_8 =>
    cnd t25_8
      (R05_Bytes_J3 x1 x5 x6 x8 H0 H)
      (R05_Bytes_J2 x5 x6 H0 H) := (LPL_eqm (C := cfg) [4, 5, 6, 8, 9, 10] (tame_block 2 (R05_Bytes_K1_tame H0)) _ _).trans (by kernel_rfl)
theorem R05_Bytes_J1_eq (x1 x5 x6 : AV) (H0 H : Hp) : R05_Bytes_J1 x1 x5 x6 H0 H =
    R05_Bytes_L1 x1 x5 x6 (.int .i64 0) H0 H := (CXM_eq [4, 5, 6, 8, 9, 10] _ _ _ _).trans (by kernel_rfl)
theorem R05_Bytes_J6_eq (x0 x1 x5 x6 x7 : AV) (H0 H : Hp) : R05_Bytes_J6 x0 x1 x5 x6 x7 H0 H =
    bnd (ibin .add x7 (.int .i64 1)) fun t14_9 =>
    R05_Bytes_L2 x0 x1 x5 x6 t14_9 H0 H := (CXM_eq [4, 5, 6, 8, 9, 10] _ _ _ _).trans (by kernel_rfl)
theorem R05_Bytes_J5_eq (x0 x1 x5 x6 x7 : AV) (H0 H : Hp) : R05_Bytes_J5 x0 x1 x5 x6 x7 H0 H =
    bnd (aindexStr x0 x7) fun t18_10 =>
    bnd (cvInt .i64 t18_10) fun t19_11 =>
    bnd ((setElems 1 [(0, t19_11)] [(.int .i64 0)]).map (.vs 1 .clip)) fun t20_12 =>
    bnd (aappE 1 8 x5 t20_12 H) fun r21_13 =>
    R05_Bytes_J6 x0 x1 r21_13.1 x6 x7 H0 r21_13.2 := (CXM_eq [4, 5, 6, 8, 9, 10] _ _ _ _).trans (by kernel_rfl)
theorem R05_Bytes_L2_eq (x0 x1 x5 x6 x7 : AV) (H0 H : Hp) : R05_Bytes_L2 x0 x1 x5 x6 x7 H0 H =
    bnd (alenD .string x0) fun t11_14 =>
    bnd (ibin .lss x7 t11_14) fun t12_15 =>
    cnd t12_15
      (R05_Bytes_J5 x0 x1 x5 x6 x7 H0 H)
      (R05_Bytes_J1 x1 x5 x6 H0 H) := (LPL_eqm (C := cfg) [4, 5, 6, 8, 9, 10] (tame_block 0 (R05_Bytes_K2_tame H0)) _ _).trans (by kernel_rfl)
theorem F_R05_Bytes_eq (p0 p1 : AV) (H : Hp) : C_R05_Bytes [p0, p1] H = F_R05_Bytes p0 p1 H := (callw_cxm (C := cfg) (fn := Tryz.f73) (c := bodyOf Tryz.f73) (n := 38) [4, 5, 6, 8, 9, 10] Tryz.func73 (by kernel_rfl) (by kernel_rfl) [p0, p1] (by kernel_rfl) H).trans (by kernel_rfl)

noncomputable def decimal_digits_J1 (x3 : AV) (H0 H : Hp) : Res := CXL cfg (callw cfg) (LPL cfg (cfg.keep 75) 23) (cfg.keep 75) 23 seqL blockL (sub (bodyOf Tryz.f75) [1, 1, 1]) (retL cfg 23 75 Tryz.f75 H0) [(3, x3)] H
noncomputable def decimal_digits_K1 (H0 : Hp) : KL := seqL (fun k al H => CXL cfg (callw cfg) (LPL cfg (cfg.keep 75) 23) (cfg.keep 75) 23 seqL blockL (sub (bodyOf Tryz.f75) [1, 1, 1]) k (trimL (cfg.keep 75) (sub (bodyOf Tryz.f75) [1, 1, 1]) al) H) (retL cfg 23 75 Tryz.f75 H0)
theorem decimal_digits_K1_tame (H0 : Hp) : Tame 23 (decimal_digits_K1 H0) := tame_seq (C := cfg) (kp := cfg.keep 75) (sub (bodyOf Tryz.f75) [1, 1, 1]) (tame_ret 75 Tryz.f75 H0)
noncomputable def decimal_digits_J2 (x0 x3 : AV) (H0 H : Hp) : Res := CXL cfg (callw cfg) (LPL cfg (cfg.keep 75) 23) (cfg.keep 75) 23 seqL blockL (sub (bodyOf Tryz.f75) [1, 1, 0, 0, 0, 1]) (seqL (fun k al H => LPL cfg (cfg.keep 75) 23 (sub (bodyOf Tryz.f75) [1, 1, 0, 0, 0]) k (trimL (cfg.keep 75) (sub (bodyOf Tryz.f75) [1, 1, 0, 0, 0]) al) H) (blockL 0 (decimal_digits_K1 H0))) [(0, x0), (3, x3)] H
noncomputable def decimal_digits_L1 (x0 x3 : AV) (H0 H : Hp) : Res := LPL cfg (cfg.keep 75) 23 (sub (bodyOf Tryz.f75) [1, 1, 0, 0, 0]) (blockL 0 (decimal_digits_K1 H0)) [(0, x0), (3, x3)] H
noncomputable def F_decimal_digits (p0 : AV) (H : Hp) : Res :=
  decimal_digits_L1 p0 (.int .i64 0) H H
theorem decimal_digits_J1_eq (x3 : AV) (H0 H : Hp) : decimal_digits_J1 x3 H0 H =
    some (x3, H) := (CXM_eq [3, 4] _ _ _ _).trans (by kernel_rfl)
theorem decimal_digits_J2_eq (x0 x3 : AV) (H0 H : Hp) : decimal_digits_J2 x0 x3 H0 H =
    bnd (ibin .add x3 (.int .i64 1)) fun t21_1 =>
    decimal_digits_L1 x0 t21_1 H0 H := (CXM_eq [3, 4] _ _ _ _).trans (by kernel_rfl)
theorem decimal_digits_L1_eq (x0 x3 : AV) (H0 H : Hp) : decimal_digits_L1 x0 x3 H0 H =
    bnd (alenD .string x0) fun t6_2 =>
    bnd (ibin .lss x3 t6_2) fun t7_3 =>
    bnd (gdv t7_3 true (.tuple []) (some x0)) fun t9_4 =>
    bnd (gdv t7_3 true (.tuple []) (some x3)) fun t10_5 =>
    bnd (gdv t7_3 true (.tuple []) (aindexStr t9_4 t10_5)) fun t11_6 =>
    bnd (gdv t7_3 true (.tuple []) (ibin .geq t11_6 (.int .u8 48))) fun t12_7 =>
    bnd (apick t7_3 t12_7 (.bool false)) fun t13_8 =>
    bnd (gdv t13_8 true (.tuple []) (some x0)) fun t15_9 =>
    bnd (gdv t13_8 true (.tuple []) (some x3)) fun t16_10 =>
    bnd (gdv t13_8 true (.tuple []) (aindexStr t15_9 t16_10)) fun t17_11 =>
    bnd (gdv t13_8 true (.tuple []) (ibin .leq t17_11 (.int .u8 57))) fun t18_12 =>
    bnd (apick t13_8 t18_12 (.bool false)) fun t19_13 =>
    cnd t19_13
      (decimal_digits_J2 x0 x3 H0 H)
      (decimal_digits_J1 x3 H0 H) := (LPL_eqm (C := cfg) [3, 4] (tame_block 0 (decimal_digits_K1_tame H0)) _ _).trans (by kernel_rfl)
theorem F_decimal_digits_eq (p0 : AV) (H : Hp) : C_decimal_digits [p0] H = F_decimal_digits p0 H := (callw_cxm (C := cfg) (fn := Tryz.f75) (c := bodyOf Tryz.f75) (n := 23) [3, 4] Tryz.func75 (by kernel_rfl) (by kernel_rfl) [p0] (by kernel_rfl) H).trans (by kernel_rfl)

noncomputable def decimal_value_J1 (x1 x5 : AV) (H0 H : Hp) : Res := CXL cfg (callw cfg) (LPL cfg (cfg.keep 76) 29) (cfg.keep 76) 29 seqL blockL (sub (bodyOf Tryz.f76) [1, 1, 1]) (retL cfg 29 76 Tryz.f76 H0) [(1, x1), (5, x5)] H
noncomputable def decimal_value_K1 (H0 : Hp) : KL := seqL (fun k al H => CXL cfg (callw cfg) (LPL cfg (cfg.keep 76) 29) (cfg.keep 76) 29 seqL blockL (sub (bodyOf Tryz.f76) [1, 1, 1]) k (trimL (cfg.keep 76) (sub (bodyOf Tryz.f76) [1, 1, 1]) al) H) (retL cfg 29 76 Tryz.f76 H0)
theorem decimal_value_K1_tame (H0 : Hp) : Tame 29 (decimal_value_K1 H0) := tame_seq (C := cfg) (kp := cfg.keep 76) (sub (bodyOf Tryz.f76) [1, 1, 1]) (tame_ret 76 Tryz.f76 H0)
noncomputable def decimal_value_J3 (x0 x1 x5 x8 x9 : AV) (H0 H : Hp) : Res := CXL cfg (callw cfg) (LPL cfg (cfg.keep 76) 29) (cfg.keep 76) 29 seqL blockL (sub (bodyOf Tryz.f76) [1, 1, 0, 1, 0, 0, 1, 1, 1]) (seqL (fun k al H => LPL cfg (cfg.keep 76) 29 (sub (bodyOf Tryz.f76) [1, 1, 0, 1, 0, 0]) k (trimL (cfg.keep 76) (sub (bodyOf Tryz.f76) [1, 1, 0, 1, 0, 0]) al) H) (blockL 0 (decimal_value_K1 H0))) [(0, x0), (1, x1), (5, x5), (8, x8), (9, x9)] H
noncomputable def decimal_value_J2 (x0 x1 x5 x8 x9 x10 : AV) (H0 H : Hp) : Res := CXL cfg (callw cfg) (LPL cfg (cfg.keep 76) 29) (cfg.keep 76) 29 seqL blockL (sub (bodyOf Tryz.f76) [1, 1, 0, 1, 0, 0, 1, 1]) (seqL (fun k al H => LPL cfg (cfg.keep 76) 29 (sub (bodyOf Tryz.f76) [1, 1, 0, 1, 0, 0]) k (trimL (cfg.keep 76) (sub (bodyOf Tryz.f76) [1, 1, 0, 1, 0, 0]) al) H) (blockL 0 (decimal_value_K1 H0))) [(0, x0), (1, x1), (5, x5), (8, x8), (9, x9), (10, x10)] H
noncomputable def decimal_value_L1 (x0 x1 x5 x8 x9 : AV) (H0 H : Hp) : Res := LPL cfg (cfg.keep 76) 29 (sub (bodyOf Tryz.f76) [1, 1, 0, 1, 0, 0]) (blockL 0 (decimal_value_K1 H0)) [(0, x0), (1, x1), (5, x5), (8, x8), (9, x9)] H
noncomputable def F_decimal_value (p0 p1 : AV) (H : Hp) : Res :=
  bnd (alenD .string p0) fun t8_5 =>
  decimal_value_L1 p0 p1 (.int .i64 0) t8_5 (.int .i64 0) H H
theorem decimal_value_J1_eq (x1 x5 : AV) (H0 H : Hp) : decimal_value_J1 x1 x5 H0 H =
    bnd (ibin .mul x5 (.int .i64 10000)) fun t24_1 =>
    bnd (flatC C_decimal_fraction [x1] H) fun r26_2 =>
    bnd (ibin .add t24_1 r26_2.1) fun t27_3 =>
    bnd (amin2 (.int .i64 10000000000001) t27_3) fun t28_4 =>
    some (t28_4, r26_2.2) := (CXM_eq [4, 8, 9] _ _ _ _).trans (by kernel_rfl)
theorem decimal_value_J3_eq (x0 x1 x5 x8 x9 : AV) (H0 H : Hp) : decimal_value_J3 x0 x1 x5 x8 x9 H0 H =
    bnd (ibin .add x9 (.int .i64 1)) fun t22_7 =>
    decimal_value_L1 x0 x1 x5 x8 t22_7 H0 H := (CXM_eq [4, 8, 9] _ _ _ _).trans (by kernel_rfl)
theorem decimal_value_J2_eq (x0 x1 x5 x8 x9 x10 : AV) (H0 H : Hp) : decimal_value_J2 x0 x1 x5 x8 x9 x10 H0 H =
    bnd (ibin .mul (.int .i64 10) x5) fun t13_8 =>
    bnd (aindexStr x0 x9) fun t16_9 =>
    bnd (ibin .sub t16_9 (.int .u8 48)) fun t17_10 =>
    bnd (cvInt .i64 t17_10) fun t18_11 =>
    bnd (ibin .add t13_8 t18_11) fun t19_12 =>
    bnd (ibin .gtr t19_12 (.int .i64 1000000000)) fun t21_13 =>
    cnd t21_13
      (some ((.int .i64 10000000000001), H))
      (decimal_value_J3 x0 x1 t19_12 x8 x9 H0 H) := (CXM_eq [4, 8, 9] _ _ _ _).trans (by kernel_rfl)
theorem decimal_value_L1_eq (x0 x1 x5 x8 x9 : AV) (H0 H : Hp) : decimal_value_L1 x0 x1 x5 x8 x9 H0 H =
    bnd (ibin .lss x9 x8) fun t10_6 =>
    cnd t10_6
      (decimal_value_J2 x0 x1 x5 x8 x9 t10_6 H0 H)
      (decimal_value_J1 x1 x5 H0 H) := (LPL_eqm (C := cfg) [4, 8, 9] (tame_block 0 (decimal_value_K1_tame H0)) _ _).trans (by kernel_rfl)
theorem F_decimal_value_eq (p0 p1 : AV) (H : Hp) : C_decimal_value [p0, p1] H = F_decimal_value p0 p1 H := (callw_cxm (C := cfg) (fn := Tryz.f76) (c := bodyOf Tryz.f76) (n := 29) [4, 8, 9] Tryz.func76 (by kernel_rfl) (by kernel_rfl) [p0, p1] (by kernel_rfl) H).trans (by kernel_rfl)

noncomputable def locale_mapped_J1 (x5 : AV) (H0 H : Hp) : Res := CXL cfg (callw cfg) (LPL cfg (cfg.keep 84) 26) (cfg.keep 84) 26 seqL blockL (sub (bodyOf Tryz.f84) [1, 1, 1]) (retL cfg 26 84 Tryz.f84 H0) [(5, x5)] H
noncomputable def locale_mapped_K1 (H0 : Hp) : KL := seqL (fun k al H => CXL cfg (callw cfg) (LPL cfg (cfg.keep 84) 26) (cfg.keep 84) 26 seqL blockL (sub (bodyOf Tryz.f84) [1, 1, 1]) k (trimL (cfg.keep 84) (sub (bodyOf Tryz.f84) [1, 1, 1]) al) H) (retL cfg 26 84 Tryz.f84 H0)
theorem locale_mapped_K1_tame (H0 : Hp) : Tame 26 (locale_mapped_K1 H0) := tame_seq (C := cfg) (kp := cfg.keep 84) (sub (bodyOf Tryz.f84) [1, 1, 1]) (tame_ret 84 Tryz.f84 H0)
noncomputable def locale_mapped_J3 (x0 x5 x10 x11 : AV) (H0 H : Hp) : Res := CXL cfg (callw cfg) (LPL cfg (cfg.keep 84) 26) (cfg.keep 84) 26 seqL blockL (sub (bodyOf Tryz.f84) [1, 1, 0, 1, 0, 0, 1, 1, 1]) (seqL (fun k al H => LPL cfg (cfg.keep 84) 26 (sub (bodyOf Tryz.f84) [1, 1, 0, 1, 0, 0]) k (trimL (cfg.keep 84) (sub (bodyOf Tryz.f84) [1, 1, 0, 1, 0, 0]) al) H) (blockL 0 (locale_mapped_K1 H0))) [(0, x0), (5, x5), (10, x10), (11, x11)] H
noncomputable def locale_mapped_J2 (x0 x5 x10 x11 x12 : AV) (H0 H : Hp) : Res := CXL cfg (callw cfg) (LPL cfg (cfg.keep 84) 26) (cfg.keep 84) 26 seqL blockL (sub (bodyOf Tryz.f84) [1, 1, 0, 1, 0, 0, 1, 1]) (seqL (fun k al H => LPL cfg (cfg.keep 84) 26 (sub (bodyOf Tryz.f84) [1, 1, 0, 1, 0, 0]) k (trimL (cfg.keep 84) (sub (bodyOf Tryz.f84) [1, 1, 0, 1, 0, 0]) al) H) (blockL 0 (locale_mapped_K1 H0))) [(0, x0), (5, x5), (10, x10), (11, x11), (12, x12)] H
noncomputable def locale_mapped_L1 (x0 x5 x10 x11 : AV) (H0 H : Hp) : Res := LPL cfg (cfg.keep 84) 26 (sub (bodyOf Tryz.f84) [1, 1, 0, 1, 0, 0]) (blockL 0 (locale_mapped_K1 H0)) [(0, x0), (5, x5), (10, x10), (11, x11)] H
noncomputable def F_locale_mapped (p0 p1 : AV) (H : Hp) : Res :=
  bnd (cvRow p1 H) fun r8_1 =>
  bnd (alenD (.slice 5) r8_1.1) fun t10_3 =>
  locale_mapped_L1 p0 r8_1.1 t10_3 (.int .i64 0) H r8_1.2
theorem locale_mapped_J1_eq (x5 : AV) (H0 H : Hp) : locale_mapped_J1 x5 H0 H =
    bnd (cvRd x5 H) fun t25_2 =>
    some (t25_2, H) := (CXM_eq [4, 6, 7] _ _ _ _).trans (by kernel_rfl)
theorem locale_mapped_J3_eq (x0 x5 x10 x11 : AV) (H0 H : Hp) : locale_mapped_J3 x0 x5 x10 x11 H0 H =
    bnd (ibin .add x11 (.int .i64 1)) fun t23_5 =>
    locale_mapped_L1 x0 x5 x10 t23_5 H0 H := (CXM_eq [4, 6, 7] _ _ _ _).trans (by kernel_rfl)
theorem locale_mapped_J2_eq (x0 x5 x10 x11 x12 : AV) (H0 H : Hp) : locale_mapped_J2 x0 x5 x10 x11 x12 H0 H =
    bnd (aindexS 1 x5 x11) fun t19_6 =>
    bnd (aload false 1 t19_6 H) fun t20_7 =>
    bnd (aindexStr x0 t20_7) fun t21_8 =>
    bnd (aindexS 1 x5 x11) fun t22_9 =>
    bnd (astoreU 1 t22_9 t21_8 H) fun r_10 =>
    locale_mapped_J3 x0 x5 x10 x11 H0 r_10.2 := (CXM_eq [4, 6, 7] _ _ _ _).trans (by kernel_rfl)
theorem locale_mapped_L1_eq (x0 x5 x10 x11 : AV) (H0 H : Hp) : locale_mapped_L1 x0 x5 x10 x11 H0 H =
    bnd (ibin .lss x11 x10) fun t12_4 =>
    cnd t12_4
      (locale_mapped_J2 x0 x5 x10 x11 t12_4 H0 H)
      (locale_mapped_J1 x5 H0 H) := (LPL_eqm (C := cfg) [4, 6, 7] (tame_block 0 (locale_mapped_K1_tame H0)) _ _).trans (by kernel_rfl)
theorem F_locale_mapped_eq (p0 p1 : AV) (H : Hp) : C_locale_mapped [p0, p1] H = F_locale_mapped p0 p1 H := (callw_cxm (C := cfg) (fn := Tryz.f84) (c := bodyOf Tryz.f84) (n := 26) [4, 6, 7] Tryz.func84 (by kernel_rfl) (by kernel_rfl) [p0, p1] (by kernel_rfl) H).trans (by kernel_rfl)

noncomputable def R02_Prefix_J7 (x7 x10 : AV) (H0 H : Hp) : Res := CXL cfg (callw cfg) (LPL cfg (cfg.keep 86) 112) (cfg.keep 86) 112 seqL blockL (sub (bodyOf Tryz.f86) [1, 1, 1, 1, 1, 1, 1, 1, 1, 1, 1, 1, 1]) (retL cfg 112 86 Tryz.f86 H0) [(7, x7), (10, x10)] H
noncomputable def R02_Prefix_J6 (x5 x7 x10 : AV) (H0 H : Hp) : Res := CXL cfg (callw cfg) (LPL cfg (cfg.keep 86) 112) (cfg.keep 86) 112 seqL blockL (sub (bodyOf Tryz.f86) [1, 1, 1, 1, 1, 1, 1, 1, 1, 1, 1, 1]) (retL cfg 112 86 Tryz.f86 H0) [(5, x5), (7, x7), (10, x10)] H
noncomputable def R02_Prefix_J5 (x0 x4 x5 x6 x7 x8 : AV) (H0 H : Hp) : Res := CXL cfg (callw cfg) (LPL cfg (cfg.keep 86) 112) (cfg.keep 86) 112 seqL blockL (sub (bodyOf Tryz.f86) [1, 1, 1, 1, 1, 1, 1, 1, 1, 1]) (retL cfg 112 86 Tryz.f86 H0) [(0, x0), (4, x4), (5, x5), (6, x6), (7, x7), (8, x8)] H
noncomputable def R02_Prefix_J4 (x0 x4 x5 x6 x7 x8 : AV) (H0 H : Hp) : Res := CXL cfg (callw cfg) (LPL cfg (cfg.keep 86) 112) (cfg.keep 86) 112 seqL blockL (sub (bodyOf Tryz.f86) [1, 1, 1, 1, 1, 1, 1, 1, 1]) (retL cfg 112 86 Tryz.f86 H0) [(0, x0), (4, x4), (5, x5), (6, x6), (7, x7), (8, x8)] H
noncomputable def R02_Prefix_J3 (x0 x4 x5 x6 x7 x8 : AV) (H0 H : Hp) : Res := CXL cfg (callw cfg) (LPL cfg (cfg.keep 86) 112) (cfg.keep 86) 112 seqL blockL (sub (bodyOf Tryz.f86) [1, 1, 1, 1, 1, 1, 1, 1]) (retL cfg 112 86 Tryz.f86 H0) [(0, x0), (4, x4), (5, x5), (6, x6), (7, x7), (8, x8)] H
noncomputable def R02_Prefix_J2 (x0 x4 x5 : AV) (H0 H : Hp) : Res := CXL cfg (callw cfg) (LPL cfg (cfg.keep 86) 112) (cfg.keep 86) 112 seqL blockL (sub (bodyOf Tryz.f86) [1, 1, 1, 1, 1]) (retL cfg 112 86 Tryz.f86 H0) [(0, x0), (4, x4), (5, x5)] H
noncomputable def R02_Prefix_J1 (x0 x4 : AV) (H0 H : Hp) : Res := CXL cfg (callw cfg) (LPL cfg (cfg.keep 86) 112) (cfg.keep 86) 112 seqL blockL (sub (bodyOf Tryz.f86) [1, 1, 1]) (retL cfg 112 86 Tryz.f86 H0) [(0, x0), (4, x4)] H
noncomputable def R02_Prefix_K1 (H0 : Hp) : KL := seqL (fun k al H => CXL cfg (callw cfg) (LPL cfg (cfg.keep 86) 112) (cfg.keep 86) 112 seqL blockL (sub (bodyOf Tryz.f86) [1, 1, 1]) k (trimL (cfg.keep 86) (sub (bodyOf Tryz.f86) [1, 1, 1]) al) H) (retL cfg 112 86 Tryz.f86 H0)
theorem R02_Prefix_K1_tame (H0 : Hp) : Tame 112 (R02_Prefix_K1 H0) := tame_seq (C := cfg) (kp := cfg.keep 86) (sub (bodyOf Tryz.f86) [1, 1, 1]) (tame_ret 86 Tryz.f86 H0)
noncomputable def R02_Prefix_J8 (x0 x4 : AV) (H0 H : Hp) : Res := CXL cfg (callw cfg) (LPL cfg (cfg.keep 86) 112) (cfg.keep 86) 112 seqL blockL (sub (bodyOf Tryz.f86) [1, 1, 0, 0, 0, 1]) (seqL (fun k al H => LPL cfg (cfg.keep 86) 112 (sub (bodyOf Tryz.f86) [1, 1, 0, 0, 0]) k (trimL (cfg.keep 86) (sub (bodyOf Tryz.f86) [1, 1, 0, 0, 0]) al) H) (blockL 0 (R02_Prefix_K1 H0))) [(0, x0), (4, x4)] H
noncomputable def R02_Prefix_L1 (x0 x4 : AV) (H0 H : Hp) : Res := LPL cfg (cfg.keep 86) 112 (sub (bodyOf Tryz.f86) [1, 1, 0, 0, 0]) (blockL 0 (R02_Prefix_K1 H0)) [(0, x0), (4, x4)] H
noncomputable def F_R02_Prefix (p0 : AV) (H : Hp) : Res :=
  R02_Prefix_L1 p0 (.int .i64 0) H H
theorem R02_Prefix_J7_eq (x7 x10 : AV) (H0 H : Hp) : R02_Prefix_J7 x7 x10 H0 H =
    some ((.tuple [x10, x7]), H) := (CXM_eq [3, 4, 7, 14, 16, 18, 21, 23] _ _ _ _).trans (by kernel_rfl)
theorem R02_Prefix_J6_eq (x5 x7 x10 : AV) (H0 H : Hp) : R02_Prefix_J6 x5 x7 x10 H0 H =
    cnd x5
      (bnd (aun .neg x10) fun t109_13 =>
      R02_Prefix_J7 x7 t109_13 H0 H)
      (R02_Prefix_J7 x7 x10 H0 H) := (CXM_eq [3, 4, 7, 14, 16, 18, 21, 23] _ _ _ _).trans (by kernel_rfl)
theorem R02_Prefix_J5_eq (x0 x4 x5 x6 x7 x8 : AV) (H0 H : Hp) : R02_Prefix_J5 x0 x4 x5 x6 x7 x8 H0 H =
    bnd (asliceS x0 (some x4) (some x6) none) fun t100_9 =>
    bnd (flatC C_R02_number [t100_9, x8] H) fun r102_10 =>
    bnd (aext r102_10.1 0) fun t103_11 =>
    bnd (aext r102_10.1 1) fun t104_12 =>
    bnd (aun .not t104_12) fun t106_14 =>
    cnd t106_14
      (R02_Prefix_J6 x5 x7 (.int .i64 10000000000000) H0 r102_10.2)
      (R02_Prefix_J6 x5 x7 t103_11 H0 r102_10.2) := (CXM_eq [3, 4, 7, 14, 16, 18, 21, 23] _ _ _ _).trans (by kernel_rfl)
theorem R02_Prefix_J4_eq (x0 x4 x5 x6 x7 x8 : AV) (H0 H : Hp) : R02_Prefix_J4 x0 x4 x5 x6 x7 x8 H0 H =
    bnd (alenD .string x8) fun t92_15 =>
    bnd (ibin .gtr t92_15 (.int .i64 4)) fun t93_16 =>
    cnd t93_16
      (bnd (asliceS x8 none (some (.int .i64 4)) none) fun t95_17 =>
      R02_Prefix_J5 x0 x4 x5 x6 x7 t95_17 H0 H)
      (R02_Prefix_J5 x0 x4 x5 x6 x7 x8 H0 H) := (CXM_eq [3, 4, 7, 14, 16, 18, 21, 23] _ _ _ _).trans (by kernel_rfl)
theorem R02_Prefix_J3_eq (x0 x4 x5 x6 x7 x8 : AV) (H0 H : Hp) : R02_Prefix_J3 x0 x4 x5 x6 x7 x8 H0 H =
    bnd (ibin .eql x7 x4) fun t90_18 =>
    cnd t90_18
      (some ((.tuple [(.int .i64 0), (.int .i64 0)]), H))
      (R02_Prefix_J4 x0 x4 x5 x6 x7 x8 H0 H) := (CXM_eq [3, 4, 7, 14, 16, 18, 21, 23] _ _ _ _).trans (by kernel_rfl)
theorem R02_Prefix_J2_eq (x0 x4 x5 : AV) (H0 H : Hp) : R02_Prefix_J2 x0 x4 x5 H0 H =
    bnd (flatC C_R02_digits [x0, x4] H) fun r57_8 =>
    bnd (alenD .string x0) fun t61_19 =>
    bnd (ibin .lss r57_8.1 t61_19) fun t62_20 =>
    bnd (gdv t62_20 true (.tuple []) (some x0)) fun t64_21 =>
    bnd (gdv t62_20 true (.tuple []) (some r57_8.1)) fun t65_22 =>
    bnd (gdv t62_20 true (.tuple []) (aindexStr t64_21 t65_22)) fun t66_23 =>
    bnd (gdv t62_20 true (.tuple []) (ibin .eql t66_23 (.int .u8 46))) fun t67_24 =>
    bnd (apick t62_20 t67_24 (.bool false)) fun t68_25 =>
    cnd t68_25
      (bnd (ibin .add r57_8.1 (.int .i64 1)) fun t71_26 =>
      bnd (flatC C_R02_digits [x0, t71_26] r57_8.2) fun r72_27 =>
      bnd (ibin .gtr r57_8.1 x4) fun t75_28 =>
      bnd (gdv t75_28 false (.tuple []) (some r72_27.1)) fun t77_29 =>
      bnd (gdv t75_28 false (.tuple []) (some r57_8.1)) fun t78_30 =>
      bnd (gdv t75_28 false (.tuple []) (ibin .add t78_30 (.int .i64 1))) fun t79_31 =>
      bnd (gdv t75_28 false (.tuple []) (ibin .gtr t77_29 t79_31)) fun t80_32 =>
      bnd (apick t75_28 (.bool true) t80_32) fun t81_33 =>
      cnd t81_33
        (bnd (ibin .add r57_8.1 (.int .i64 1)) fun t85_34 =>
        bnd (asliceS x0 (some t85_34) (some r72_27.1) none) fun t87_35 =>
        R02_Prefix_J3 x0 x4 x5 r57_8.1 r72_27.1 t87_35 H0 r72_27.2)
        (R02_Prefix_J3 x0 x4 x5 r57_8.1 r57_8.1 (.str []) H0 r72_27.2))
      (R02_Prefix_J3 x0 x4 x5 r57_8.1 r57_8.1 (.str []) H0 r57_8.2) := (CXM_eq [3, 4, 7, 14, 16, 18, 21, 23] _ _ _ _).trans (by kernel_rfl)
theorem R02_Prefix_J1_eq (x0 x4 : AV) (H0 H : Hp) : R02_Prefix_J1 x0 x4 H0 H =
    bnd (alenD .string x0) fun t32_1 =>
    bnd (ibin .lss x4 t32_1) fun t33_2 =>
    bnd (gdv t33_2 true (.tuple []) (some x0)) fun t35_3 =>
    bnd (gdv t33_2 true (.tuple []) (some x4)) fun t36_4 =>
    bnd (gdv t33_2 true (.tuple []) (aindexStr t35_3 t36_4)) fun t37_5 =>
    bnd (gdv t33_2 true (.tuple []) (ibin .eql t37_5 (.int .u8 45))) fun t38_6 =>
    bnd (apick t33_2 t38_6 (.bool false)) fun t39_7 =>
    bnd (gdv t39_7 false (.tuple []) (some x4)) fun t42_36 =>
    bnd (gdv t39_7 false (.tuple []) (some x0)) fun t43_37 =>
    bnd (gdv t39_7 false (.tuple []) (alenD .string t43_37)) fun t44_38 =>
    bnd (gdv t39_7 false (.tuple []) (ibin .lss t42_36 t44_38)) fun t45_39 =>
    bnd (gdv t39_7 false (.tuple []) (some t45_39)) fun t46_40 =>
    bnd (gdv t46_40 true (.tuple []) (some x0)) fun t47_41 =>
    bnd (gdv t46_40 true (.tuple []) (some x4)) fun t48_42 =>
    bnd (gdv t46_40 true (.tuple []) (aindexStr t47_41 t48_42)) fun t49_43 =>
    bnd (gdv t46_40 true (.tuple []) (ibin .eql t49_43 (.int .u8 43))) fun t50_44 =>
    bnd (gdv t39_7 false (.tuple []) (apick t46_40 t50_44 (.bool false))) fun t51_45 =>
    bnd (apick t39_7 (.bool true) t51_45) fun t52_46 =>
    cnd t52_46
      (bnd (ibin .add x4 (.int .i64 1)) fun t54_47 =>
      R02_Prefix_J2 x0 t54_47 t39_7 H0 H)
      (R02_Prefix_J2 x0 x4 t39_7 H0 H) := (CXM_eq [3, 4, 7, 14, 16, 18, 21, 23] _ _ _ _).trans (by kernel_rfl)
theorem R02_Prefix_J8_eq (x0 x4 : AV) (H0 H : Hp) : R02_Prefix_J8 x0 x4 H0 H =
    bnd (ibin .add x4 (.int .i64 1)) fun t29_48 =>
    R02_Prefix_L1 x0 t29_48 H0 H := (CXM_eq [3, 4, 7, 14, 16, 18, 21, 23] _ _ _ _).trans (by kernel_rfl)
theorem R02_Prefix_L1_eq (x0 x4 : AV) (H0 H : Hp) : R02_Prefix_L1 x0 x4 H0 H =
    bnd (alenD .string x0) fun t14_49 =>
    bnd (ibin .lss x4 t14_49) fun t15_50 =>
    bnd (gdv t15_50 true (.tuple []) (some x0)) fun t17_51 =>
    bnd (gdv t15_50 true (.tuple []) (some x4)) fun t18_52 =>
    bnd (gdv t15_50 true (.tuple []) (aindexStr t17_51 t18_52)) fun t19_53 =>
    bnd (gdv t15_50 true (.tuple []) (ibin .eql t19_53 (.int .u8 32))) fun t20_54 =>
    bnd (gdv t15_50 true (.tuple []) (some t20_54)) fun t21_55 =>
    bnd (gdv t21_55 false (.tuple []) (some x0)) fun t22_56 =>
    bnd (gdv t21_55 false (.tuple []) (some x4)) fun t23_57 =>
    bnd (gdv t21_55 false (.tuple []) (aindexStr t22_56 t23_57)) fun t24_58 =>
    bnd (gdv t21_55 false (.tuple []) (ibin .eql t24_58 (.int .u8 9))) fun t25_59 =>
    bnd (gdv t15_50 true (.tuple []) (apick t21_55 (.bool true) t25_59)) fun t26_60 =>
    bnd (apick t15_50 t26_60 (.bool false)) fun t27_61 =>
    cnd t27_61
      (R02_Prefix_J8 x0 x4 H0 H)
      (R02_Prefix_J1 x0 x4 H0 H) := (LPL_eqm (C := cfg) [3, 4, 7, 14, 16, 18, 21, 23] (tame_block 0 (R02_Prefix_K1_tame H0)) _ _).trans (by kernel_rfl)
theorem F_R02_Prefix_eq (p0 : AV) (H : Hp) : C_R02_Prefix [p0] H = F_R02_Prefix p0 H := (callw_cxm (C := cfg) (fn := Tryz.f86) (c := bodyOf Tryz.f86) (n := 112) [3, 4, 7, 14, 16, 18, 21, 23] Tryz.func86 (by kernel_rfl) (by kernel_rfl) [p0] (by kernel_rfl) H).trans (by kernel_rfl)

noncomputable def R20_dict_J1 (x3 : AV) (H0 H : Hp) : Res := CXL cfg (callw cfg) (LPL cfg (cfg.keep 88) 47) (cfg.keep 88) 47 seqL blockL (sub (bodyOf Tryz.f88) [1, 1, 1]) (retL cfg 47 88 Tryz.f88 H0) [(3, x3)] H
noncomputable def R20_dict_K1 (H0 : Hp) : KL := seqL (fun k al H => CXL cfg (callw cfg) (LPL cfg (cfg.keep 88) 47) (cfg.keep 88) 47 seqL blockL (sub (bodyOf Tryz.f88) [1, 1, 1]) k (trimL (cfg.keep 88) (sub (bodyOf Tryz.f88) [1, 1, 1]) al) H) (retL cfg 47 88 Tryz.f88 H0)
theorem R20_dict_K1_tame (H0 : Hp) : Tame 47 (R20_dict_K1 H0) := tame_seq (C := cfg) (kp := cfg.keep 88) (sub (bodyOf Tryz.f88) [1, 1, 1]) (tame_ret 88 Tryz.f88 H0)
noncomputable def R20_dict_J3 (x0 x3 x4 : AV) (H0 H : Hp) : Res := CXL cfg (callw cfg) (LPL cfg (cfg.keep 88) 47) (cfg.keep 88) 47 seqL blockL (sub (bodyOf Tryz.f88) [1, 1, 0, 1, 0, 0, 1, 1]) (seqL (fun k al H => LPL cfg (cfg.keep 88) 47 (sub (bodyOf Tryz.f88) [1, 1, 0, 1, 0, 0]) k (trimL (cfg.keep 88) (sub (bodyOf Tryz.f88) [1, 1, 0, 1, 0, 0]) al) H) (blockL 0 (R20_dict_K1 H0))) [(0, x0), (3, x3), (4, x4)] H
noncomputable def R20_dict_J2 (x0 x3 x4 : AV) (H0 H : Hp) : Res := CXL cfg (callw cfg) (LPL cfg (cfg.keep 88) 47) (cfg.keep 88) 47 seqL blockL (sub (bodyOf Tryz.f88) [1, 1, 0, 1, 0, 0, 1]) (seqL (fun k al H => LPL cfg (cfg.keep 88) 47 (sub (bodyOf Tryz.f88) [1, 1, 0, 1, 0, 0]) k (trimL (cfg.keep 88) (sub (bodyOf Tryz.f88) [1, 1, 0, 1, 0, 0]) al) H) (blockL 0 (R20_dict_K1 H0))) [(0, x0), (3, x3), (4, x4)] H
noncomputable def R20_dict_L1 (x0 x3 x4 : AV) (H0 H : Hp) : Res := LPL cfg (cfg.keep 88) 47 (sub (bodyOf Tryz.f88) [1, 1, 0, 1, 0, 0]) (blockL 0 (R20_dict_K1 H0)) [(0, x0), (3, x3), (4, x4)] H
noncomputable def F_R20_dict (p0 : AV) (H : Hp) : Res :=
  R20_dict_L1 p0 .nils (.int .i64 0) H H
theorem R20_dict_J1_eq (x3 : AV) (H0 H : Hp) : R20_dict_J1 x3 H0 H =
    bnd (cvRd x3 H) fun t46_1 =>
    some (t46_1, H) := (CXM_eq [4, 5, 8] _ _ _ _).trans (by kernel_rfl)
theorem R20_dict_J3_eq (x0 x3 x4 : AV) (H0 H : Hp) : R20_dict_J3 x0 x3 x4 H0 H =
    bnd (ibin .add x4 (.int .i64 1)) fun t11_2 =>
    R20_dict_L1 x0 x3 t11_2 H0 H := (CXM_eq [4, 5, 8] _ _ _ _).trans (by kernel_rfl)
theorem R20_dict_J2_eq (x0 x3 x4 : AV) (H0 H : Hp) : R20_dict_J2 x0 x3 x4 H0 H =
    bnd (aindexStr x0 x4) fun t14_3 =>
    bnd (C_R20_blank [t14_3] H) fun r16_4 =>
    bnd (gdv r16_4.1 false (.tuple []) (some t14_3)) fun t18_5 =>
    bnd (gdv r16_4.1 false (.tuple []) (ibin .geq t18_5 (.int .u8 48))) fun t19_6 =>
    bnd (gdv r16_4.1 false (.tuple []) (some t19_6)) fun t20_7 =>
    bnd (gdv t20_7 true (.tuple []) (some t14_3)) fun t21_8 =>
    bnd (gdv t20_7 true (.tuple []) (ibin .leq t21_8 (.int .u8 57))) fun t22_9 =>
    bnd (gdv r16_4.1 false (.tuple []) (apick t20_7 t22_9 (.bool false))) fun t23_10 =>
    bnd (apick r16_4.1 (.bool true) t23_10) fun t24_11 =>
    bnd (gdv t24_11 false (.tuple []) (some t14_3)) fun t26_12 =>
    bnd (gdv t24_11 false (.tuple []) (ibin .geq t26_12 (.int .u8 97))) fun t27_13 =>
    bnd (gdv t24_11 false (.tuple []) (some t27_13)) fun t28_14 =>
    bnd (gdv t28_14 true (.tuple []) (some t14_3)) fun t29_15 =>
    bnd (gdv t28_14 true (.tuple []) (ibin .leq t29_15 (.int .u8 122))) fun t30_16 =>
    bnd (gdv t24_11 false (.tuple []) (apick t28_14 t30_16 (.bool false))) fun t31_17 =>
    bnd (apick t24_11 (.bool true) t31_17) fun t32_18 =>
    bnd (gdv t32_18 false (.tuple []) (some t14_3)) fun t34_19 =>
    bnd (gdv t32_18 false (.tuple []) (ibin .geq t34_19 (.int .u8 65))) fun t35_20 =>
    bnd (gdv t32_18 false (.tuple []) (some t35_20)) fun t36_21 =>
    bnd (gdv t36_21 true (.tuple []) (some t14_3)) fun t37_22 =>
    bnd (gdv t36_21 true (.tuple []) (ibin .leq t37_22 (.int .u8 90))) fun t38_23 =>
    bnd (gdv t32_18 false (.tuple []) (apick t36_21 t38_23 (.bool false))) fun t39_24 =>
    bnd (apick t32_18 (.bool true) t39_24) fun t40_25 =>
    cnd t40_25
      (bnd ((setElems 1 [(0, t14_3)] [(.int .u8 0)]).map (.vs 1 .clip)) fun t43_26 =>
      bnd (aappE 1 1 x3 t43_26 r16_4.2) fun r44_27 =>
      R20_dict_J3 x0 r44_27.1 x4 H0 r44_27.2)
      (R20_dict_J3 x0 x3 x4 H0 r16_4.2) := (CXM_eq [4, 5, 8] _ _ _ _).trans (by kernel_rfl)
theorem R20_dict_L1_eq (x0 x3 x4 : AV) (H0 H : Hp) : R20_dict_L1 x0 x3 x4 H0 H =
    bnd (alenD .string x0) fun t8_28 =>
    bnd (ibin .lss x4 t8_28) fun t9_29 =>
    cnd t9_29
      (R20_dict_J2 x0 x3 x4 H0 H)
      (R20_dict_J1 x3 H0 H) := (LPL_eqm (C := cfg) [4, 5, 8] (tame_block 0 (R20_dict_K1_tame H0)) _ _).trans (by kernel_rfl)
theorem F_R20_dict_eq (p0 : AV) (H : Hp) : C_R20_dict [p0] H = F_R20_dict p0 H := (callw_cxm (C := cfg) (fn := Tryz.f88) (c := bodyOf Tryz.f88) (n := 47) [4, 5, 8] Tryz.func88 (by kernel_rfl) (by kernel_rfl) [p0] (by kernel_rfl) H).trans (by kernel_rfl)

noncomputable def F_R05_Upper (p0 p1 : AV) (H : Hp) : Res :=
  bnd (abox p0 H) fun r2_1 =>
  bnd (aload true 6 r2_1.1 r2_1.2) fun t5_2 =>
  bnd (flatC C_R05_valid [t5_2] r2_1.2) fun r6_3 =>
  bnd (afieldV false 1 3 r6_3.1) fun t7_4 =>
  bnd (flatC C_R05_mapped [t7_4, p1] r6_3.2) fun r9_5 =>
  some (r9_5.1, r9_5.2)
theorem F_R05_Upper_eq (p0 p1 : AV) (H : Hp) : C_R05_Upper [p0, p1] H = F_R05_Upper p0 p1 H := (callw_cxm (C := cfg) (fn := Tryz.f89) (c := bodyOf Tryz.f89) (n := 10) [] Tryz.func89 (by kernel_rfl) (by kernel_rfl) [p0, p1] (by kernel_rfl) H).trans (by kernel_rfl)

noncomputable def locale_Check_J4 (x1 : AV) (H0 H : Hp) : Res := CXL cfg (callw cfg) (LPL cfg (cfg.keep 90) 49) (cfg.keep 90) 49 seqL blockL (sub (bodyOf Tryz.f90) [1, 1, 1, 1, 1]) (retL cfg 49 90 Tryz.f90 H0) [(1, x1)] H
noncomputable def locale_Check_J3 (x1 : AV) (H0 H : Hp) : Res := CXL cfg (callw cfg) (LPL cfg (cfg.keep 90) 49) (cfg.keep 90) 49 seqL blockL (sub (bodyOf Tryz.f90) [1, 1, 1, 1]) (retL cfg 49 90 Tryz.f90 H0) [(1, x1)] H
noncomputable def locale_Check_K1 (H0 : Hp) : KL := seqL (fun k al H => CXL cfg (callw cfg) (LPL cfg (cfg.keep 90) 49) (cfg.keep 90) 49 seqL blockL (sub (bodyOf Tryz.f90) [1, 1, 1, 1]) k (trimL (cfg.keep 90) (sub (bodyOf Tryz.f90) [1, 1, 1, 1]) al) H) (retL cfg 49 90 Tryz.f90 H0)
theorem locale_Check_K1_tame (H0 : Hp) : Tame 49 (locale_Check_K1 H0) := tame_seq (C := cfg) (kp := cfg.keep 90) (sub (bodyOf Tryz.f90) [1, 1, 1, 1]) (tame_ret 90 Tryz.f90 H0)
noncomputable def locale_Check_J6 (x1 x27 x28 x29 : AV) (H0 H : Hp) : Res := CXL cfg (callw cfg) (LPL cfg (cfg.keep 90) 49) (cfg.keep 90) 49 seqL blockL (sub (bodyOf Tryz.f90) [1, 1, 1, 0, 1, 0, 0, 1, 1, 1]) (seqL (fun k al H => LPL cfg (cfg.keep 90) 49 (sub (bodyOf Tryz.f90) [1, 1, 1, 0, 1, 0, 0]) k (trimL (cfg.keep 90) (sub (bodyOf Tryz.f90) [1, 1, 1, 0, 1, 0, 0]) al) H) (blockL 0 (locale_Check_K1 H0))) [(1, x1), (27, x27), (28, x28), (29, x29)] H
noncomputable def locale_Check_J5 (x1 x27 x28 x29 x30 : AV) (H0 H : Hp) : Res := CXL cfg (callw cfg) (LPL cfg (cfg.keep 90) 49) (cfg.keep 90) 49 seqL blockL (sub (bodyOf Tryz.f90) [1, 1, 1, 0, 1, 0, 0, 1, 1]) (seqL (fun k al H => LPL cfg (cfg.keep 90) 49 (sub (bodyOf Tryz.f90) [1, 1, 1, 0, 1, 0, 0]) k (trimL (cfg.keep 90) (sub (bodyOf Tryz.f90) [1, 1, 1, 0, 1, 0, 0]) al) H) (blockL 0 (locale_Check_K1 H0))) [(1, x1), (27, x27), (28, x28), (29, x29), (30, x30)] H
noncomputable def locale_Check_L1 (x1 x27 x28 x29 : AV) (H0 H : Hp) : Res := LPL cfg (cfg.keep 90) 49 (sub (bodyOf Tryz.f90) [1, 1, 1, 0, 1, 0, 0]) (blockL 0 (locale_Check_K1 H0)) [(1, x1), (27, x27), (28, x28), (29, x29)] H
noncomputable def locale_Check_J2 (x1 : AV) (H0 H : Hp) : Res := CXL cfg (callw cfg) (LPL cfg (cfg.keep 90) 49) (cfg.keep 90) 49 seqL blockL (sub (bodyOf Tryz.f90) [1, 1, 1]) (retL cfg 49 90 Tryz.f90 H0) [(1, x1)] H
noncomputable def locale_Check_J1 (x1 : AV) (H0 H : Hp) : Res := CXL cfg (callw cfg) (LPL cfg (cfg.keep 90) 49) (cfg.keep 90) 49 seqL blockL (sub (bodyOf Tryz.f90) [1, 1]) (retL cfg 49 90 Tryz.f90 H0) [(1, x1)] H
noncomputable def F_locale_Check (p0 : AV) (H : Hp) : Res :=
  bnd (abox p0 H) fun r1_1 =>
  bnd (afield 0 r1_1.1) fun t6_34 =>
  bnd (aload false 1 t6_34 r1_1.2) fun t7_35 =>
  bnd (flatC C_locale_name [t7_35] r1_1.2) fun r8_36 =>
  bnd (aun .not r8_36.1) fun t9_37 =>
  cnd t9_37
    (some ((.int .i64 4), r8_36.2))
    (locale_Check_J1 r1_1.1 H r8_36.2)
theorem locale_Check_J4_eq (x1 : AV) (H0 H : Hp) : locale_Check_J4 x1 H0 H =
    bnd (afield 5 x1) fun t46_2 =>
    bnd (aload false 1 t46_2 H) fun t47_3 =>
    bnd (flatC C_locale_checkElements [t47_3] H) fun r48_4 =>
    some (r48_4.1, r48_4.2) := (CXM_eq [3, 5, 7, 10, 11, 14] _ _ _ _).trans (by kernel_rfl)
theorem locale_Check_J3_eq (x1 : AV) (H0 H : Hp) : locale_Check_J3 x1 H0 H =
    bnd (afield 4 x1) fun t40_5 =>
    bnd (aload false 1 t40_5 H) fun t41_6 =>
    bnd (flatC C_locale_checkClasses [t41_6] H) fun r42_7 =>
    bnd (ibin .neq r42_7.1 (.int .i64 0)) fun t44_8 =>
    cnd t44_8
      (some (r42_7.1, r42_7.2))
      (locale_Check_J4 x1 H0 r42_7.2) := (CXM_eq [3, 5, 7, 10, 11, 14] _ _ _ _).trans (by kernel_rfl)
theorem locale_Check_J6_eq (x1 x27 x28 x29 : AV) (H0 H : Hp) : locale_Check_J6 x1 x27 x28 x29 H0 H =
    bnd (ibin .add x29 (.int .i64 1)) fun t39_13 =>
    locale_Check_L1 x1 x27 x28 t39_13 H0 H := (CXM_eq [3, 5, 7, 10, 11, 14] _ _ _ _).trans (by kernel_rfl)
theorem locale_Check_J5_eq (x1 x27 x28 x29 x30 : AV) (H0 H : Hp) : locale_Check_J5 x1 x27 x28 x29 x30 H0 H =
    bnd (aindexS 1 x27 x29) fun t31_14 =>
    bnd (aload false 1 t31_14 H) fun t32_15 =>
    bnd (ibin .lss t32_15 (.int .i64 0)) fun t34_16 =>
    bnd (gdv t34_16 false (.tuple []) (some t32_15)) fun t36_17 =>
    bnd (gdv t34_16 false (.tuple []) (ibin .gtr t36_17 (.int .i64 65535))) fun t37_18 =>
    bnd (apick t34_16 (.bool true) t37_18) fun t38_19 =>
    cnd t38_19
      (some ((.int .i64 2), H))
      (locale_Check_J6 x1 x27 x28 x29 H0 H) := (CXM_eq [3, 5, 7, 10, 11, 14] _ _ _ _).trans (by kernel_rfl)
theorem locale_Check_L1_eq (x1 x27 x28 x29 : AV) (H0 H : Hp) : locale_Check_L1 x1 x27 x28 x29 H0 H =
    bnd (ibin .lss x29 x28) fun t30_12 =>
    cnd t30_12
      (locale_Check_J5 x1 x27 x28 x29 t30_12 H0 H)
      (locale_Check_J3 x1 H0 H) := (LPL_eqm (C := cfg) [3, 5, 7, 10, 11, 14] (tame_block 0 (locale_Check_K1_tame H0)) _ _).trans (by kernel_rfl)
theorem locale_Check_J2_eq (x1 : AV) (H0 H : Hp) : locale_Check_J2 x1 H0 H =
    bnd (afield 1 x1) fun t26_9 =>
    bnd (aload false 1 t26_9 H) fun t27_10 =>
    bnd (alenD (.slice 3) t27_10) fun t28_11 =>
    locale_Check_L1 x1 t27_10 t28_11 (.int .i64 0) H0 H := (CXM_eq [3, 5, 7, 10, 11, 14] _ _ _ _).trans (by kernel_rfl)
theorem locale_Check_J1_eq (x1 : AV) (H0 H : Hp) : locale_Check_J1 x1 H0 H =
    bnd (afield 1 x1) fun t10_20 =>
    bnd (aload false 1 t10_20 H) fun t11_21 =>
    bnd (alenD (.slice 3) t11_21) fun t12_22 =>
    bnd (ibin .neq t12_22 (.int .i64 256)) fun t13_23 =>
    bnd (gdv t13_23 false (.tuple []) (afield 2 x1)) fun t15_24 =>
    bnd (gdv t13_23 false (.tuple []) (aload false 1 t15_24 H)) fun t16_25 =>
    bnd (gdv t13_23 false (.tuple []) (alenD .string t16_25)) fun t17_26 =>
    bnd (gdv t13_23 false (.tuple []) (ibin .neq t17_26 (.int .i64 256))) fun t18_27 =>
    bnd (apick t13_23 (.bool true) t18_27) fun t19_28 =>
    bnd (gdv t19_28 false (.tuple []) (afield 3 x1)) fun t21_29 =>
    bnd (gdv t19_28 false (.tuple []) (aload false 1 t21_29 H)) fun t22_30 =>
    bnd (gdv t19_28 false (.tuple []) (alenD .string t22_30)) fun t23_31 =>
    bnd (gdv t19_28 false (.tuple []) (ibin .neq t23_31 (.int .i64 256))) fun t24_32 =>
    bnd (apick t19_28 (.bool true) t24_32) fun t25_33 =>
    cnd t25_33
      (some ((.int .i64 2), H))
      (locale_Check_J2 x1 H0 H) := (CXM_eq [3, 5, 7, 10, 11, 14] _ _ _ _).trans (by kernel_rfl)
theorem F_locale_Check_eq (p0 : AV) (H : Hp) : C_locale_Check [p0] H = F_locale_Check p0 H := (callw_cxm (C := cfg) (fn := Tryz.f90) (c := bodyOf Tryz.f90) (n := 49) [3, 5, 7, 10, 11, 14] Tryz.func90 (by kernel_rfl) (by kernel_rfl) [p0] (by kernel_rfl) H).trans (by kernel_rfl)

noncomputable def F_internal_bytealg_CompareString (p0 p1 : AV) (H : Hp) : Res :=
  bnd (extC .cmp [p0, p1] H) fun r7_1 =>
  some (r7_1.1, r7_1.2)
theorem F_internal_bytealg_CompareString_eq (p0 p1 : AV) (H : Hp) : C_internal_bytealg_CompareString [p0, p1] H = F_internal_bytealg_CompareString p0 p1 H := (callw_cxm (C := cfg) (fn := Tryz.f92) (c := bodyOf Tryz.f92) (n := 8) [] Tryz.func92 (by kernel_rfl) (by kernel_rfl) [p0, p1] (by kernel_rfl) H).trans (by kernel_rfl)

noncomputable def R05_Check_J5 (x1 : AV) (H0 H : Hp) : Res := CXL cfg (callw cfg) (LPL cfg (cfg.keep 93) 43) (cfg.keep 93) 43 seqL blockL (sub (bodyOf Tryz.f93) [1, 1, 1, 1, 1, 1]) (retL cfg 43 93 Tryz.f93 H0) [(1, x1)] H
noncomputable def R05_Check_J4 (x1 : AV) (H0 H : Hp) : Res := CXL cfg (callw cfg) (LPL cfg (cfg.keep 93) 43) (cfg.keep 93) 43 seqL blockL (sub (bodyOf Tryz.f93) [1, 1, 1, 1, 1]) (retL cfg 43 93 Tryz.f93 H0) [(1, x1)] H
noncomputable def R05_Check_J3 (x1 : AV) (H0 H : Hp) : Res := CXL cfg (callw cfg) (LPL cfg (cfg.keep 93) 43) (cfg.keep 93) 43 seqL blockL (sub (bodyOf Tryz.f93) [1, 1, 1, 1]) (retL cfg 43 93 Tryz.f93 H0) [(1, x1)] H
noncomputable def R05_Check_K1 (H0 : Hp) : KL := seqL (fun k al H => CXL cfg (callw cfg) (LPL cfg (cfg.keep 93) 43) (cfg.keep 93) 43 seqL blockL (sub (bodyOf Tryz.f93) [1, 1, 1, 1]) k (trimL (cfg.keep 93) (sub (bodyOf Tryz.f93) [1, 1, 1, 1]) al) H) (retL cfg 43 93 Tryz.f93 H0)
theorem R05_Check_K1_tame (H0 : Hp) : Tame 43 (R05_Check_K1 H0) := tame_seq (C := cfg) (kp := cfg.keep 93) (sub (bodyOf Tryz.f93) [1, 1, 1, 1]) (tame_ret 93 Tryz.f93 H0)
noncomputable def R05_Check_J7 (x1 x3 : AV) (H0 H : Hp) : Res := CXL cfg (callw cfg) (LPL cfg (cfg.keep 93) 43) (cfg.keep 93) 43 seqL blockL (sub (bodyOf Tryz.f93) [1, 1, 1, 0, 1, 0, 0, 1, 1]) (seqL (fun k al H => LPL cfg (cfg.keep 93) 43 (sub (bodyOf Tryz.f93) [1, 1, 1, 0, 1, 0, 0]) k (trimL (cfg.keep 93) (sub (bodyOf Tryz.f93) [1, 1, 1, 0, 1, 0, 0]) al) H) (blockL 0 (R05_Check_K1 H0))) [(1, x1), (3, x3)] H
noncomputable def R05_Check_J6 (x1 x3 : AV) (H0 H : Hp) : Res := CXL cfg (callw cfg) (LPL cfg (cfg.keep 93) 43) (cfg.keep 93) 43 seqL blockL (sub (bodyOf Tryz.f93) [1, 1, 1, 0, 1, 0, 0, 1]) (seqL (fun k al H => LPL cfg (cfg.keep 93) 43 (sub (bodyOf Tryz.f93) [1, 1, 1, 0, 1, 0, 0]) k (trimL (cfg.keep 93) (sub (bodyOf Tryz.f93) [1, 1, 1, 0, 1, 0, 0]) al) H) (blockL 0 (R05_Check_K1 H0))) [(1, x1), (3, x3)] H
noncomputable def R05_Check_L1 (x1 x3 : AV) (H0 H : Hp) : Res := LPL cfg (cfg.keep 93) 43 (sub (bodyOf Tryz.f93) [1, 1, 1, 0, 1, 0, 0]) (blockL 0 (R05_Check_K1 H0)) [(1, x1), (3, x3)] H
noncomputable def R05_Check_J2 (x1 : AV) (H0 H : Hp) : Res := CXL cfg (callw cfg) (LPL cfg (cfg.keep 93) 43) (cfg.keep 93) 43 seqL blockL (sub (bodyOf Tryz.f93) [1, 1, 1]) (retL cfg 43 93 Tryz.f93 H0) [(1, x1)] H
noncomputable def R05_Check_J1 (x1 : AV) (H0 H : Hp) : Res := CXL cfg (callw cfg) (LPL cfg (cfg.keep 93) 43) (cfg.keep 93) 43 seqL blockL (sub (bodyOf Tryz.f93) [1, 1]) (retL cfg 43 93 Tryz.f93 H0) [(1, x1)] H
noncomputable def F_R05_Check (p0 : AV) (H : Hp) : Res :=
  bnd (abox p0 H) fun r1_1 =>
  bnd (afield 0 r1_1.1) fun t5_30 =>
  bnd (aload false 1 t5_30 r1_1.2) fun t6_31 =>
  bnd (flatC C_R05_IsName [t6_31] r1_1.2) fun r7_32 =>
  bnd (aun .not r7_32.1) fun t8_33 =>
  cnd t8_33
    (some ((.int .i64 4), r7_32.2))
    (R05_Check_J1 r1_1.1 H r7_32.2)
theorem R05_Check_J5_eq (x1 : AV) (H0 H : Hp) : R05_Check_J5 x1 H0 H =
    bnd (afield 5 x1) fun t40_2 =>
    bnd (aload false 1 t40_2 H) fun t41_3 =>
    bnd (flatC C_R05_checkElements [t41_3] H) fun r42_4 =>
    some (r42_4.1, r42_4.2) := (CXM_eq [3, 5, 7, 8, 10, 12, 15] _ _ _ _).trans (by kernel_rfl)
theorem R05_Check_J4_eq (x1 : AV) (H0 H : Hp) : R05_Check_J4 x1 H0 H =
    bnd (afield 4 x1) fun t34_5 =>
    bnd (aload false 1 t34_5 H) fun t35_6 =>
    bnd (flatC C_R05_checkClasses [t35_6] H) fun r36_7 =>
    bnd (ibin .neq r36_7.1 (.int .i64 0)) fun t38_8 =>
    cnd t38_8
      (some (r36_7.1, r36_7.2))
      (R05_Check_J5 x1 H0 r36_7.2) := (CXM_eq [3, 5, 7, 8, 10, 12, 15] _ _ _ _).trans (by kernel_rfl)
theorem R05_Check_J3_eq (x1 : AV) (H0 H : Hp) : R05_Check_J3 x1 H0 H =
    bnd (afield 2 x1) fun t24_9 =>
    bnd (aload false 1 t24_9 H) fun t25_10 =>
    bnd (alenD .string t25_10) fun t26_11 =>
    bnd (ibin .neq t26_11 (.int .i64 256)) fun t27_12 =>
    bnd (gdv t27_12 false (.tuple []) (afield 3 x1)) fun t29_13 =>
    bnd (gdv t27_12 false (.tuple []) (aload false 1 t29_13 H)) fun t30_14 =>
    bnd (gdv t27_12 false (.tuple []) (alenD .string t30_14)) fun t31_15 =>
    bnd (gdv t27_12 false (.tuple []) (ibin .neq t31_15 (.int .i64 256))) fun t32_16 =>
    bnd (apick t27_12 (.bool true) t32_16) fun t33_17 =>
    cnd t33_17
      (some ((.int .i64 2), H))
      (R05_Check_J4 x1 H0 H) := (CXM_eq [3, 5, 7, 8, 10, 12, 15] _ _ _ _).trans (by kernel_rfl)
theorem R05_Check_J7_eq (x1 x3 : AV) (H0 H : Hp) : R05_Check_J7 x1 x3 H0 H =
    bnd (ibin .add x3 (.int .i64 1)) fun t16_18 =>
    R05_Check_L1 x1 t16_18 H0 H := (CXM_eq [3, 5, 7, 8, 10, 12, 15] _ _ _ _).trans (by kernel_rfl)
theorem R05_Check_J6_eq (x1 x3 : AV) (H0 H : Hp) : R05_Check_J6 x1 x3 H0 H =
    bnd (afield 1 x1) fun t17_19 =>
    bnd (aload false 1 t17_19 H) fun t18_20 =>
    bnd (aindexS 1 t18_20 x3) fun t20_21 =>
    bnd (aload false 1 t20_21 H) fun t21_22 =>
    bnd (flatC C_R05_light [t21_22] H) fun r22_23 =>
    bnd (aun .not r22_23.1) fun t23_24 =>
    cnd t23_24
      (some ((.int .i64 2), r22_23.2))
      (R05_Check_J7 x1 x3 H0 r22_23.2) := (CXM_eq [3, 5, 7, 8, 10, 12, 15] _ _ _ _).trans (by kernel_rfl)
theorem R05_Check_L1_eq (x1 x3 : AV) (H0 H : Hp) : R05_Check_L1 x1 x3 H0 H =
    bnd (ibin .lss x3 (.int .i64 256)) fun t14_25 =>
    cnd t14_25
      (R05_Check_J6 x1 x3 H0 H)
      (R05_Check_J3 x1 H0 H) := (LPL_eqm (C := cfg) [3, 5, 7, 8, 10, 12, 15] (tame_block 0 (R05_Check_K1_tame H0)) _ _).trans (by kernel_rfl)
theorem R05_Check_J2_eq (x1 : AV) (H0 H : Hp) : R05_Check_J2 x1 H0 H =
    R05_Check_L1 x1 (.int .i64 0) H0 H := (CXM_eq [3, 5, 7, 8, 10, 12, 15] _ _ _ _).trans (by kernel_rfl)
theorem R05_Check_J1_eq (x1 : AV) (H0 H : Hp) : R05_Check_J1 x1 H0 H =
    bnd (afield 1 x1) fun t9_26 =>
    bnd (aload false 1 t9_26 H) fun t10_27 =>
    bnd (alenD (.slice 3) t10_27) fun t11_28 =>
    bnd (ibin .neq t11_28 (.int .i64 256)) fun t12_29 =>
    cnd t12_29
      (some ((.int .i64 2), H))
      (R05_Check_J2 x1 H0 H) := (CXM_eq [3, 5, 7, 8, 10, 12, 15] _ _ _ _).trans (by kernel_rfl)
theorem F_R05_Check_eq (p0 : AV) (H : Hp) : C_R05_Check [p0] H = F_R05_Check p0 H := (callw_cxm (C := cfg) (fn := Tryz.f93) (c := bodyOf Tryz.f93) (n := 43) [3, 5, 7, 8, 10, 12, 15] Tryz.func93 (by kernel_rfl) (by kernel_rfl) [p0] (by kernel_rfl) H).trans (by kernel_rfl)

noncomputable def R05_find_J1 (H0 H : Hp) : Res := CXL cfg (callw cfg) (LPL cfg (cfg.keep 94) 35) (cfg.keep 94) 35 seqL blockL (sub (bodyOf Tryz.f94) [1, 1]) (retL cfg 35 94 Tryz.f94 H0) [] H
noncomputable def R05_find_K1 (H0 : Hp) : KL := seqL (fun k al H => CXL cfg (callw cfg) (LPL cfg (cfg.keep 94) 35) (cfg.keep 94) 35 seqL blockL (sub (bodyOf Tryz.f94) [1, 1]) k (trimL (cfg.keep 94) (sub (bodyOf Tryz.f94) [1, 1]) al) H) (retL cfg 35 94 Tryz.f94 H0)
theorem R05_find_K1_tame (H0 : Hp) : Tame 35 (R05_find_K1 H0) := tame_seq (C := cfg) (kp := cfg.keep 94) (sub (bodyOf Tryz.f94) [1, 1]) (tame_ret 94 Tryz.f94 H0)
noncomputable def R05_find_J3 (x1 x2 x3 x7 : AV) (H0 H : Hp) : Res := CXL cfg (callw cfg) (LPL cfg (cfg.keep 94) 35) (cfg.keep 94) 35 seqL blockL (sub (bodyOf Tryz.f94) [1, 0, 1, 0, 0, 1, 1]) (seqL (fun k al H => LPL cfg (cfg.keep 94) 35 (sub (bodyOf Tryz.f94) [1, 0, 1, 0, 0]) k (trimL (cfg.keep 94) (sub (bodyOf Tryz.f94) [1, 0, 1, 0, 0]) al) H) (blockL 0 (R05_find_K1 H0))) [(1, x1), (2, x2), (3, x3), (7, x7)] H
noncomputable def R05_find_J2 (x1 x2 x3 x7 : AV) (H0 H : Hp) : Res := CXL cfg (callw cfg) (LPL cfg (cfg.keep 94) 35) (cfg.keep 94) 35 seqL blockL (sub (bodyOf Tryz.f94) [1, 0, 1, 0, 0, 1]) (seqL (fun k al H => LPL cfg (cfg.keep 94) 35 (sub (bodyOf Tryz.f94) [1, 0, 1, 0, 0]) k (trimL (cfg.keep 94) (sub (bodyOf Tryz.f94) [1, 0, 1, 0, 0]) al) H) (blockL 0 (R05_find_K1 H0))) [(1, x1), (2, x2), (3, x3), (7, x7)] H
noncomputable def R05_find_L1 (x1 x2 x3 x7 : AV) (H0 H : Hp) : Res := LPL cfg (cfg.keep 94) 35 (sub (bodyOf Tryz.f94) [1, 0, 1, 0, 0]) (blockL 0 (R05_find_K1 H0)) [(1, x1), (2, x2), (3, x3), (7, x7)] H
noncomputable def F_R05_find (p0 p1 p2 : AV) (H : Hp) : Res :=
  bnd (abox p0 H) fun r3_1 =>
  R05_find_L1 p1 p2 r3_1.1 (.int .i64 0) H r3_1.2
theorem R05_find_J1_eq (H0 H : Hp) : R05_find_J1 H0 H =
    some ((.int .i64 (-1)), H) := (CXM_eq [3, 4, 6] _ _ _ _).trans (by kernel_rfl)
theorem R05_find_J3_eq (x1 x2 x3 x7 : AV) (H0 H : Hp) : R05_find_J3 x1 x2 x3 x7 H0 H =
    bnd (ibin .add x7 (.int .i64 1)) fun t14_2 =>
    R05_find_L1 x1 x2 x3 t14_2 H0 H := (CXM_eq [3, 4, 6] _ _ _ _).trans (by kernel_rfl)
theorem R05_find_J2_eq (x1 x2 x3 x7 : AV) (H0 H : Hp) : R05_find_J2 x1 x2 x3 x7 H0 H =
    bnd (ibin .add x2 (.int .i64 2)) fun t16_3 =>
    bnd (alenD .string x1) fun t18_4 =>
    bnd (ibin .leq t16_3 t18_4) fun t19_5 =>
    bnd (gdv t19_5 true (.tuple []) (some x1)) fun t21_6 =>
    bnd (gdv t19_5 true (.tuple []) (some x2)) fun t22_7 =>
    bnd (gdv t19_5 true (.tuple []) (some x2)) fun t23_8 =>
    bnd (gdv t19_5 true (.tuple []) (ibin .add t23_8 (.int .i64 2))) fun t24_9 =>
    bnd (gdv t19_5 true (.tuple []) (asliceS t21_6 (some t22_7) (some t24_9) none)) fun t25_10 =>
    bnd (gdv t19_5 true (.tuple []) (afield 5 x3)) fun t26_11 =>
    bnd (gdv t19_5 true (.tuple []) (aload false 1 t26_11 H)) fun t27_12 =>
    bnd (gdv t19_5 true (.tuple []) (some x7)) fun t28_13 =>
    bnd (gdv t19_5 true (.tuple []) (aindexS 2 t27_12 t28_13)) fun t29_14 =>
    bnd (gdv t19_5 true (.tuple []) (afield 0 t29_14)) fun t30_15 =>
    bnd (gdv t19_5 true (.tuple []) (aload false 1 t30_15 H)) fun t31_16 =>
    bnd (gdv t19_5 true (.tuple []) (sbin .eql t25_10 t31_16)) fun t32_17 =>
    bnd (apick t19_5 t32_17 (.bool false)) fun t33_18 =>
    cnd t33_18
      (some (x7, H))
      (R05_find_J3 x1 x2 x3 x7 H0 H) := (CXM_eq [3, 4, 6] _ _ _ _).trans (by kernel_rfl)
theorem R05_find_L1_eq (x1 x2 x3 x7 : AV) (H0 H : Hp) : R05_find_L1 x1 x2 x3 x7 H0 H =
    bnd (afield 5 x3) fun t9_19 =>
    bnd (aload false 1 t9_19 H) fun t10_20 =>
    bnd (alenD (.slice 116) t10_20) fun t11_21 =>
    bnd (ibin .lss x7 t11_21) fun t12_22 =>
    cnd t12_22
      (R05_find_J2 x1 x2 x3 x7 H0 H)
      (R05_find_J1 H0 H) := (LPL_eqm (C := cfg) [3, 4, 6] (tame_block 0 (R05_find_K1_tame H0)) _ _).trans (by kernel_rfl)
theorem F_R05_find_eq (p0 p1 p2 : AV) (H : Hp) : C_R05_find [p0, p1, p2] H = F_R05_find p0 p1 p2 H := (callw_cxm (C := cfg) (fn := Tryz.f94) (c := bodyOf Tryz.f94) (n := 35) [3, 4, 6] Tryz.func94 (by kernel_rfl) (by kernel_rfl) [p0, p1, p2] (by kernel_rfl) H).trans (by kernel_rfl)

noncomputable def decimal_fraction_J1 (x3 : AV) (H0 H : Hp) : Res := CXL cfg (callw cfg) (LPL cfg (cfg.keep 99) 23) (cfg.keep 99) 23 seqL blockL (sub (bodyOf Tryz.f99) [1, 1, 1]) (retL cfg 23 99 Tryz.f99 H0) [(3, x3)] H
noncomputable def decimal_fraction_K1 (H0 : Hp) : KL := seqL (fun k al H => CXL cfg (callw cfg) (LPL cfg (cfg.keep 99) 23) (cfg.keep 99) 23 seqL blockL (sub (bodyOf Tryz.f99) [1, 1, 1]) k (trimL (cfg.keep 99) (sub (bodyOf Tryz.f99) [1, 1, 1]) al) H) (retL cfg 23 99 Tryz.f99 H0)
theorem decimal_fraction_K1_tame (H0 : Hp) : Tame 23 (decimal_fraction_K1 H0) := tame_seq (C := cfg) (kp := cfg.keep 99) (sub (bodyOf Tryz.f99) [1, 1, 1]) (tame_ret 99 Tryz.f99 H0)
noncomputable def decimal_fraction_J3 (x0 x3 x5 : AV) (H0 H : Hp) : Res := CXL cfg (callw cfg) (LPL cfg (cfg.keep 99) 23) (cfg.keep 99) 23 seqL blockL (sub (bodyOf Tryz.f99) [1, 1, 0, 1, 0, 0, 1, 1, 1]) (seqL (fun k al H => LPL cfg (cfg.keep 99) 23 (sub (bodyOf Tryz.f99) [1, 1, 0, 1, 0, 0]) k (trimL (cfg.keep 99) (sub (bodyOf Tryz.f99) [1, 1, 0, 1, 0, 0]) al) H) (blockL 0 (decimal_fraction_K1 H0))) [(0, x0), (3, x3), (5, x5)] H
noncomputable def decimal_fraction_J2 (x0 x3 x5 x6 : AV) (H0 H : Hp) : Res := CXL cfg (callw cfg) (LPL cfg (cfg.keep 99) 23) (cfg.keep 99) 23 seqL blockL (sub (bodyOf Tryz.f99) [1, 1, 0, 1, 0, 0, 1, 1]) (seqL (fun k al H => LPL cfg (cfg.keep 99) 23 (sub (bodyOf Tryz.f99) [1, 1, 0, 1, 0, 0]) k (trimL (cfg.keep 99) (sub (bodyOf Tryz.f99) [1, 1, 0, 1, 0, 0]) al) H) (blockL 0 (decimal_fraction_K1 H0))) [(0, x0), (3, x3), (5, x5), (6, x6)] H
noncomputable def decimal_fraction_L1 (x0 x3 x5 : AV) (H0 H : Hp) : Res := LPL cfg (cfg.keep 99) 23 (sub (bodyOf Tryz.f99) [1, 1, 0, 1, 0, 0]) (blockL 0 (decimal_fraction_K1 H0)) [(0, x0), (3, x3), (5, x5)] H
noncomputable def F_decimal_fraction (p0 : AV) (H : Hp) : Res :=
  decimal_fraction_L1 p0 (.int .i64 0) (.int .i64 0) H H
theorem decimal_fraction_J1_eq (x3 : AV) (H0 H : Hp) : decimal_fraction_J1 x3 H0 H =
    some (x3, H) := (CXM_eq [4, 8, 9] _ _ _ _).trans (by kernel_rfl)
theorem decimal_fraction_J3_eq (x0 x3 x5 : AV) (H0 H : Hp) : decimal_fraction_J3 x0 x3 x5 H0 H =
    bnd (ibin .add x5 (.int .i64 1)) fun t21_2 =>
    decimal_fraction_L1 x0 x3 t21_2 H0 H := (CXM_eq [4, 8, 9] _ _ _ _).trans (by kernel_rfl)
theorem decimal_fraction_J2_eq (x0 x3 x5 x6 : AV) (H0 H : Hp) : decimal_fraction_J2 x0 x3 x5 x6 H0 H =
    bnd (ibin .mul x3 (.int .i64 10)) fun t9_3 =>
    bnd (alenD .string x0) fun t12_4 =>
    bnd (ibin .lss x5 t12_4) fun t13_5 =>
    cnd t13_5
      (bnd (aindexStr x0 x5) fun t17_6 =>
      bnd (ibin .sub t17_6 (.int .u8 48)) fun t18_7 =>
      bnd (cvInt .i64 t18_7) fun t19_8 =>
      bnd (ibin .add t9_3 t19_8) fun t20_9 =>
      decimal_fraction_J3 x0 t20_9 x5 H0 H)
      (decimal_fraction_J3 x0 t9_3 x5 H0 H) := (CXM_eq [4, 8, 9] _ _ _ _).trans (by kernel_rfl)
theorem decimal_fraction_L1_eq (x0 x3 x5 : AV) (H0 H : Hp) : decimal_fraction_L1 x0 x3 x5 H0 H =
    bnd (ibin .lss x5 (.int .i64 4)) fun t6_1 =>
    cnd t6_1
      (decimal_fraction_J2 x0 x3 x5 t6_1 H0 H)
      (decimal_fraction_J1 x3 H0 H) := (LPL_eqm (C := cfg) [4, 8, 9] (tame_block 0 (decimal_fraction_K1_tame H0)) _ _).trans (by kernel_rfl)
theorem F_decimal_fraction_eq (p0 : AV) (H : Hp) : C_decimal_fraction [p0] H = F_decimal_fraction p0 H := (callw_cxm (C := cfg) (fn := Tryz.f99) (c := bodyOf Tryz.f99) (n := 23) [4, 8, 9] Tryz.func99 (by kernel_rfl) (by kernel_rfl) [p0] (by kernel_rfl) H).trans (by kernel_rfl)

noncomputable def R02_digits_J1 (x1 : AV) (H0 H : Hp) : Res := CXL cfg (callw cfg) (LPL cfg (cfg.keep 105) 24) (cfg.keep 105) 24 seqL blockL (sub (bodyOf Tryz.f105) [1, 1]) (retL cfg 24 105 Tryz.f105 H0) [(1, x1)] H
noncomputable def R02_digits_K1 (H0 : Hp) : KL := seqL (fun k al H => CXL cfg (callw cfg) (LPL cfg (cfg.keep 105) 24) (cfg.keep 105) 24 seqL blockL (sub (bodyOf Tryz.f105) [1, 1]) k (trimL (cfg.keep 105) (sub (bodyOf Tryz.f105) [1, 1]) al) H) (retL cfg 24 105 Tryz.f105 H0)
theorem R02_digits_K1_tame (H0 : Hp) : Tame 24 (R02_digits_K1 H0) := tame_seq (C := cfg) (kp := cfg.keep 105) (sub (bodyOf Tryz.f105) [1, 1]) (tame_ret 105 Tryz.f105 H0)
noncomputable def R02_digits_J2 (x0 x1 : AV) (H0 H : Hp) : Res := CXL cfg (callw cfg) (LPL cfg (cfg.keep 105) 24) (cfg.keep 105) 24 seqL blockL (sub (bodyOf Tryz.f105) [1, 0, 0, 0, 1]) (seqL (fun k al H => LPL cfg (cfg.keep 105) 24 (sub (bodyOf Tryz.f105) [1, 0, 0, 0]) k (trimL (cfg.keep 105) (sub (bodyOf Tryz.f105) [1, 0, 0, 0]) al) H) (blockL 0 (R02_digits_K1 H0))) [(0, x0), (1, x1)] H
noncomputable def R02_digits_L1 (x0 x1 : AV) (H0 H : Hp) : Res := LPL cfg (cfg.keep 105) 24 (sub (bodyOf Tryz.f105) [1, 0, 0, 0]) (blockL 0 (R02_digits_K1 H0)) [(0, x0), (1, x1)] H
noncomputable def F_R02_digits (p0 p1 : AV) (H : Hp) : Res :=
  R02_digits_L1 p0 p1 H H
theorem R02_digits_J1_eq (x1 : AV) (H0 H : Hp) : R02_digits_J1 x1 H0 H =
    some (x1, H) := (CXM_eq [2, 3] _ _ _ _).trans (by kernel_rfl)
theorem R02_digits_J2_eq (x0 x1 : AV) (H0 H : Hp) : R02_digits_J2 x0 x1 H0 H =
    bnd (ibin .add x1 (.int .i64 1)) fun t22_1 =>
    R02_digits_L1 x0 t22_1 H0 H := (CXM_eq [2, 3] _ _ _ _).trans (by kernel_rfl)
theorem R02_digits_L1_eq (x0 x1 : AV) (H0 H : Hp) : R02_digits_L1 x0 x1 H0 H =
    bnd (alenD .string x0) fun t7_2 =>
    bnd (ibin .lss x1 t7_2) fun t8_3 =>
    bnd (gdv t8_3 true (.tuple []) (some x0)) fun t10_4 =>
    bnd (gdv t8_3 true (.tuple []) (some x1)) fun t11_5 =>
    bnd (gdv t8_3 true (.tuple []) (aindexStr t10_4 t11_5)) fun t12_6 =>
    bnd (gdv t8_3 true (.tuple []) (ibin .geq t12_6 (.int .u8 48))) fun t13_7 =>
    bnd (apick t8_3 t13_7 (.bool false)) fun t14_8 =>
    bnd (gdv t14_8 true (.tuple []) (some x0)) fun t16_9 =>
    bnd (gdv t14_8 true (.tuple []) (some x1)) fun t17_10 =>
    bnd (gdv t14_8 true (.tuple []) (aindexStr t16_9 t17_10)) fun t18_11 =>
    bnd (gdv t14_8 true (.tuple []) (ibin .leq t18_11 (.int .u8 57))) fun t19_12 =>
    bnd (apick t14_8 t19_12 (.bool false)) fun t20_13 =>
    cnd t20_13
      (R02_digits_J2 x0 x1 H0 H)
      (R02_digits_J1 x1 H0 H) := (LPL_eqm (C := cfg) [2, 3] (tame_block 0 (R02_digits_K1_tame H0)) _ _).trans (by kernel_rfl)
theorem F_R02_digits_eq (p0 p1 : AV) (H : Hp) : C_R02_digits [p0, p1] H = F_R02_digits p0 p1 H := (callw_cxm (C := cfg) (fn := Tryz.f105) (c := bodyOf Tryz.f105) (n := 24) [2, 3] Tryz.func105 (by kernel_rfl) (by kernel_rfl) [p0, p1] (by kernel_rfl) H).trans (by kernel_rfl)

noncomputable def R02_number_J2 (x6 : AV) (H0 H : Hp) : Res := CXL cfg (callw cfg) (LPL cfg (cfg.keep 106) 45) (cfg.keep 106) 45 seqL blockL (sub (bodyOf Tryz.f106) [1, 1, 1, 1]) (retL cfg 45 106 Tryz.f106 H0) [(6, x6)] H
noncomputable def R02_number_K1 (H0 : Hp) : KL := seqL (fun k al H => CXL cfg (callw cfg) (LPL cfg (cfg.keep 106) 45) (cfg.keep 106) 45 seqL blockL (sub (bodyOf Tryz.f106) [1, 1, 1, 1]) k (trimL (cfg.keep 106) (sub (bodyOf Tryz.f106) [1, 1, 1, 1]) al) H) (retL cfg 45 106 Tryz.f106 H0)
theorem R02_number_K1_tame (H0 : Hp) : Tame 45 (R02_number_K1 H0) := tame_seq (C := cfg) (kp := cfg.keep 106) (sub (bodyOf Tryz.f106) [1, 1, 1, 1]) (tame_ret 106 Tryz.f106 H0)
noncomputable def R02_number_J4 (x1 x6 x8 : AV) (H0 H : Hp) : Res := CXL cfg (callw cfg) (LPL cfg (cfg.keep 106) 45) (cfg.keep 106) 45 seqL blockL (sub (bodyOf Tryz.f106) [1, 1, 1, 0, 1, 0, 0, 1, 1]) (seqL (fun k al H => LPL cfg (cfg.keep 106) 45 (sub (bodyOf Tryz.f106) [1, 1, 1, 0, 1, 0, 0]) k (trimL (cfg.keep 106) (sub (bodyOf Tryz.f106) [1, 1, 1, 0, 1, 0, 0]) al) H) (blockL 2 (R02_number_K1 H0))) [(1, x1), (6, x6), (8, x8)] H
noncomputable def R02_number_J3 (x1 x6 x8 : AV) (H0 H : Hp) : Res := CXL cfg (callw cfg) (LPL cfg (cfg.keep 106) 45) (cfg.keep 106) 45 seqL blockL (sub (bodyOf Tryz.f106) [1, 1, 1, 0, 1, 0, 0, 1]) (seqL (fun k al H => LPL cfg (cfg.keep 106) 45 (sub (bodyOf Tryz.f106) [1, 1, 1, 0, 1, 0, 0]) k (trimL (cfg.keep 106) (sub (bodyOf Tryz.f106) [1, 1, 1, 0, 1, 0, 0]) al) H) (blockL 2 (R02_number_K1 H0))) [(1, x1), (6, x6), (8, x8)] H
noncomputable def R02_number_L1 (x1 x6 x8 : AV) (H0 H : Hp) : Res := LPL cfg (cfg.keep 106) 45 (sub (bodyOf Tryz.f106) [1, 1, 1, 0, 1, 0, 0]) (blockL 2 (R02_number_K1 H0)) [(1, x1), (6, x6), (8, x8)] H
noncomputable def R02_number_J1 (x1 x6 : AV) (H0 H : Hp) : Res := CXL cfg (callw cfg) (LPL cfg (cfg.keep 106) 45) (cfg.keep 106) 45 seqL blockL (sub (bodyOf Tryz.f106) [1, 1, 1]) (retL cfg 45 106 Tryz.f106 H0) [(1, x1), (6, x6)] H
noncomputable def R02_number_K2 (H0 : Hp) : KL := seqL (fun k al H => CXL cfg (callw cfg) (LPL cfg (cfg.keep 106) 45) (cfg.keep 106) 45 seqL blockL (sub (bodyOf Tryz.f106) [1, 1, 1]) k (trimL (cfg.keep 106) (sub (bodyOf Tryz.f106) [1, 1, 1]) al) H) (retL cfg 45 106 Tryz.f106 H0)
theorem R02_number_K2_tame (H0 : Hp) : Tame 45 (R02_number_K2 H0) := tame_seq (C := cfg) (kp := cfg.keep 106) (sub (bodyOf Tryz.f106) [1, 1, 1]) (tame_ret 106 Tryz.f106 H0)
noncomputable def R02_number_J6 (x0 x1 x6 x7 : AV) (H0 H : Hp) : Res := CXL cfg (callw cfg) (LPL cfg (cfg.keep 106) 45) (cfg.keep 106) 45 seqL blockL (sub (bodyOf Tryz.f106) [1, 1, 0, 1, 0, 0, 1, 1]) (seqL (fun k al H => LPL cfg (cfg.keep 106) 45 (sub (bodyOf Tryz.f106) [1, 1, 0, 1, 0, 0]) k (trimL (cfg.keep 106) (sub (bodyOf Tryz.f106) [1, 1, 0, 1, 0, 0]) al) H) (blockL 0 (R02_number_K2 H0))) [(0, x0), (1, x1), (6, x6), (7, x7)] H
noncomputable def R02_number_J5 (x0 x1 x6 x7 : AV) (H0 H : Hp) : Res := CXL cfg (callw cfg) (LPL cfg (cfg.keep 106) 45) (cfg.keep 106) 45 seqL blockL (sub (bodyOf Tryz.f106) [1, 1, 0, 1, 0, 0, 1]) (seqL (fun k al H => LPL cfg (cfg.keep 106) 45 (sub (bodyOf Tryz.f106) [1, 1, 0, 1, 0, 0]) k (trimL (cfg.keep 106) (sub (bodyOf Tryz.f106) [1, 1, 0, 1, 0, 0]) al) H) (blockL 0 (R02_number_K2 H0))) [(0, x0), (1, x1), (6, x6), (7, x7)] H
noncomputable def R02_number_L2 (x0 x1 x6 x7 : AV) (H0 H : Hp) : Res := LPL cfg (cfg.keep 106) 45 (sub (bodyOf Tryz.f106) [1, 1, 0, 1, 0, 0]) (blockL 0 (R02_number_K2 H0)) [(0, x0), (1, x1), (6, x6), (7, x7)] H
noncomputable def F_R02_number (p0 p1 : AV) (H : Hp) : Res :=
  R02_number_L2 p0 p1 (.int .i64 0) (.int .i64 0) H H
theorem R02_number_J2_eq (x6 : AV) (H0 H : Hp) : R02_number_J2 x6 H0 H =
    bnd (ibin .leq x6 (.int .i64 10000000000000)) fun t44_1 =>
    some ((.tuple [x6, t44_1]), H) := (CXM_eq [4, 5, 8, 10, 11, 14] _ _ _ _).trans (by kernel_rfl)
theorem R02_number_J4_eq (x1 x6 x8 : AV) (H0 H : Hp) : R02_number_J4 x1 x6 x8 H0 H =
    bnd (ibin .add x8 (.int .i64 1)) fun t28_2 =>
    R02_number_L1 x1 x6 t28_2 H0 H := (CXM_eq [4, 5, 8, 10, 11, 14] _ _ _ _).trans (by kernel_rfl)
theorem R02_number_J3_eq (x1 x6 x8 : AV) (H0 H : Hp) : R02_number_J3 x1 x6 x8 H0 H =
    bnd (ibin .mul x6 (.int .i64 10)) fun t30_3 =>
    bnd (alenD .string x1) fun t33_4 =>
    bnd (ibin .lss x8 t33_4) fun t34_5 =>
    cnd t34_5
      (bnd (aindexStr x1 x8) fun t38_6 =>
      bnd (ibin .sub t38_6 (.int .u8 48)) fun t39_7 =>
      bnd (cvInt .i64 t39_7) fun t40_8 =>
      bnd (ibin .add t30_3 t40_8) fun t41_9 =>
      R02_number_J4 x1 t41_9 x8 H0 H)
      (R02_number_J4 x1 t30_3 x8 H0 H) := (CXM_eq [4, 5, 8, 10, 11, 14] _ _ _ _).trans (by kernel_rfl)
theorem R02_number_L1_eq (x1 x6 x8 : AV) (H0 H : Hp) : R02_number_L1 x1 x6 x8 H0 H =
    bnd (ibin .lss x8 (.int .i64 4)) fun t26_10 =>
    cnd t26_10
      (R02_number_J3 x1 x6 x8 H0 H)
      (R02_number_J2 x6 H0 H) := (LPL_eqm (C := cfg) [4, 5, 8, 10, 11, 14] (tame_block 2 (R02_number_K1_tame H0)) _ _).trans (by kernel_rfl)
theorem R02_number_J1_eq (x1 x6 : AV) (H0 H : Hp) : R02_number_J1 x1 x6 H0 H =
    R02_number_L1 x1 x6 (.int .i64 0) H0 H := (CXM_eq [4, 5, 8, 10, 11, 14] _ _ _ _).trans (by kernel_rfl)
theorem R02_number_J6_eq (x0 x1 x6 x7 : AV) (H0 H : Hp) : R02_number_J6 x0 x1 x6 x7 H0 H =
    bnd (ibin .add x7 (.int .i64 1)) fun t14_11 =>
    R02_number_L2 x0 x1 x6 t14_11 H0 H := (CXM_eq [4, 5, 8, 10, 11, 14] _ _ _ _).trans (by kernel_rfl)
theorem R02_number_J5_eq (x0 x1 x6 x7 : AV) (H0 H : Hp) : R02_number_J5 x0 x1 x6 x7 H0 H =
    bnd (ibin .mul x6 (.int .i64 10)) fun t16_12 =>
    bnd (aindexStr x0 x7) fun t19_13 =>
    bnd (ibin .sub t19_13 (.int .u8 48)) fun t20_14 =>
    bnd (cvInt .i64 t20_14) fun t21_15 =>
    bnd (ibin .add t16_12 t21_15) fun t22_16 =>
    bnd (ibin .gtr t22_16 (.int .i64 1000000000)) fun t24_17 =>
    cnd t24_17
      (some ((.tuple [(.int .i64 0), (.bool false)]), H))
      (R02_number_J6 x0 x1 t22_16 x7 H0 H) := (CXM_eq [4, 5, 8, 10, 11, 14] _ _ _ _).trans (by kernel_rfl)
theorem R02_number_L2_eq (x0 x1 x6 x7 : AV) (H0 H : Hp) : R02_number_L2 x0 x1 x6 x7 H0 H =
    bnd (alenD .string x0) fun t11_18 =>
    bnd (ibin .lss x7 t11_18) fun t12_19 =>
    cnd t12_19
      (R02_number_J5 x0 x1 x6 x7 H0 H)
      (R02_number_J1 x1 x6 H0 H) := (LPL_eqm (C := cfg) [4, 5, 8, 10, 11, 14] (tame_block 0 (R02_number_K2_tame H0)) _ _).trans (by kernel_rfl)
theorem F_R02_number_eq (p0 p1 : AV) (H : Hp) : C_R02_number [p0, p1] H = F_R02_number p0 p1 H := (callw_cxm (C := cfg) (fn := Tryz.f106) (c := bodyOf Tryz.f106) (n := 45) [4, 5, 8, 10, 11, 14] Tryz.func106 (by kernel_rfl) (by kernel_rfl) [p0, p1] (by kernel_rfl) H).trans (by kernel_rfl)

noncomputable def R05_mapped_J1 (x5 : AV) (H0 H : Hp) : Res := CXL cfg (callw cfg) (LPL cfg (cfg.keep 107) 23) (cfg.keep 107) 23 seqL blockL (sub (bodyOf Tryz.f107) [1, 1, 1]) (retL cfg 23 107 Tryz.f107 H0) [(5, x5)] H
noncomputable def R05_mapped_K1 (H0 : Hp) : KL := seqL (fun k al H => CXL cfg (callw cfg) (LPL cfg (cfg.keep 107) 23) (cfg.keep 107) 23 seqL blockL (sub (bodyOf Tryz.f107) [1, 1, 1]) k (trimL (cfg.keep 107) (sub (bodyOf Tryz.f107) [1, 1, 1]) al) H) (retL cfg 23 107 Tryz.f107 H0)
theorem R05_mapped_K1_tame (H0 : Hp) : Tame 23 (R05_mapped_K1 H0) := tame_seq (C := cfg) (kp := cfg.keep 107) (sub (bodyOf Tryz.f107) [1, 1, 1]) (tame_ret 107 Tryz.f107 H0)
noncomputable def R05_mapped_J3 (x0 x1 x5 x6 : AV) (H0 H : Hp) : Res := CXL cfg (callw cfg) (LPL cfg (cfg.keep 107) 23) (cfg.keep 107) 23 seqL blockL (sub (bodyOf Tryz.f107) [1, 1, 0, 1, 0, 0, 1, 1]) (seqL (fun k al H => LPL cfg (cfg.keep 107) 23 (sub (bodyOf Tryz.f107) [1, 1, 0, 1, 0, 0]) k (trimL (cfg.keep 107) (sub (bodyOf Tryz.f107) [1, 1, 0, 1, 0, 0]) al) H) (blockL 0 (R05_mapped_K1 H0))) [(0, x0), (1, x1), (5, x5), (6, x6)] H
noncomputable def R05_mapped_J2 (x0 x1 x5 x6 : AV) (H0 H : Hp) : Res := CXL cfg (callw cfg) (LPL cfg (cfg.keep 107) 23) (cfg.keep 107) 23 seqL blockL (sub (bodyOf Tryz.f107) [1, 1, 0, 1, 0, 0, 1]) (seqL (fun k al H => LPL cfg (cfg.keep 107) 23 (sub (bodyOf Tryz.f107) [1, 1, 0, 1, 0, 0]) k (trimL (cfg.keep 107) (sub (bodyOf Tryz.f107) [1, 1, 0, 1, 0, 0]) al) H) (blockL 0 (R05_mapped_K1 H0))) [(0, x0), (1, x1), (5, x5), (6, x6)] H
noncomputable def R05_mapped_L1 (x0 x1 x5 x6 : AV) (H0 H : Hp) : Res := LPL cfg (cfg.keep 107) 23 (sub (bodyOf Tryz.f107) [1, 1, 0, 1, 0, 0]) (blockL 0 (R05_mapped_K1 H0)) [(0, x0), (1, x1), (5, x5), (6, x6)] H
noncomputable def F_R05_mapped (p0 p1 : AV) (H : Hp) : Res :=
  R05_mapped_L1 p0 p1 .nils (.int .i64 0) H H
theorem R05_mapped_J1_eq (x5 : AV) (H0 H : Hp) : R05_mapped_J1 x5 H0 H =
    bnd (cvRd x5 H) fun t22_1 =>
    some (t22_1, H) := (CXM_eq [4, 5, 6] _ _ _ _).trans (by kernel_rfl)
theorem R05_mapped_J3_eq (x0 x1 x5 x6 : AV) (H0 H : Hp) : R05_mapped_J3 x0 x1 x5 x6 H0 H =
    bnd (ibin .add x6 (.int .i64 1)) fun t12_2 =>
    R05_mapped_L1 x0 x1 x5 t12_2 H0 H := (CXM_eq [4, 5, 6] _ _ _ _).trans (by kernel_rfl)
theorem R05_mapped_J2_eq (x0 x1 x5 x6 : AV) (H0 H : Hp) : R05_mapped_J2 x0 x1 x5 x6 H0 H =
    bnd (aindexStr x1 x6) fun t17_3 =>
    bnd (aindexStr x0 t17_3) fun t18_4 =>
    bnd ((setElems 1 [(0, t18_4)] [(.int .u8 0)]).map (.vs 1 .clip)) fun t19_5 =>
    bnd (aappE 1 1 x5 t19_5 H) fun r20_6 =>
    R05_mapped_J3 x0 x1 r20_6.1 x6 H0 r20_6.2 := (CXM_eq [4, 5, 6] _ _ _ _).trans (by kernel_rfl)
theorem R05_mapped_L1_eq (x0 x1 x5 x6 : AV) (H0 H : Hp) : R05_mapped_L1 x0 x1 x5 x6 H0 H =
    bnd (alenD .string x1) fun t9_7 =>
    bnd (ibin .lss x6 t9_7) fun t10_8 =>
    cnd t10_8
      (R05_mapped_J2 x0 x1 x5 x6 H0 H)
      (R05_mapped_J1 x5 H0 H) := (LPL_eqm (C := cfg) [4, 5, 6] (tame_block 0 (R05_mapped_K1_tame H0)) _ _).trans (by kernel_rfl)
theorem F_R05_mapped_eq (p0 p1 : AV) (H : Hp) : C_R05_mapped [p0, p1] H = F_R05_mapped p0 p1 H := (callw_cxm (C := cfg) (fn := Tryz.f107) (c := bodyOf Tryz.f107) (n := 23) [4, 5, 6] Tryz.func107 (by kernel_rfl) (by kernel_rfl) [p0, p1] (by kernel_rfl) H).trans (by kernel_rfl)

noncomputable def locale_name_J1 (x0 : AV) (H0 H : Hp) : Res := CXL cfg (callw cfg) (LPL cfg (cfg.keep 108) 54) (cfg.keep 108) 54 seqL blockL (sub (bodyOf Tryz.f108) [1, 1]) (retL cfg 54 108 Tryz.f108 H0) [(0, x0)] H
noncomputable def locale_name_K1 (H0 : Hp) : KL := seqL (fun k al H => CXL cfg (callw cfg) (LPL cfg (cfg.keep 108) 54) (cfg.keep 108) 54 seqL blockL (sub (bodyOf Tryz.f108) [1, 1]) k (trimL (cfg.keep 108) (sub (bodyOf Tryz.f108) [1, 1]) al) H) (retL cfg 54 108 Tryz.f108 H0)
theorem locale_name_K1_tame (H0 : Hp) : Tame 54 (locale_name_K1 H0) := tame_seq (C := cfg) (kp := cfg.keep 108) (sub (bodyOf Tryz.f108) [1, 1]) (tame_ret 108 Tryz.f108 H0)
noncomputable def locale_name_J3 (x0 x7 x8 : AV) (H0 H : Hp) : Res := CXL cfg (callw cfg) (LPL cfg (cfg.keep 108) 54) (cfg.keep 108) 54 seqL blockL (sub (bodyOf Tryz.f108) [1, 0, 1, 0, 0, 1, 1, 1]) (seqL (fun k al H => LPL cfg (cfg.keep 108) 54 (sub (bodyOf Tryz.f108) [1, 0, 1, 0, 0]) k (trimL (cfg.keep 108) (sub (bodyOf Tryz.f108) [1, 0, 1, 0, 0]) al) H) (blockL 0 (locale_name_K1 H0))) [(0, x0), (7, x7), (8, x8)] H
noncomputable def locale_name_J2 (x0 x7 x8 x9 : AV) (H0 H : Hp) : Res := CXL cfg (callw cfg) (LPL cfg (cfg.keep 108) 54) (cfg.keep 108) 54 seqL blockL (sub (bodyOf Tryz.f108) [1, 0, 1, 0, 0, 1, 1]) (seqL (fun k al H => LPL cfg (cfg.keep 108) 54 (sub (bodyOf Tryz.f108) [1, 0, 1, 0, 0]) k (trimL (cfg.keep 108) (sub (bodyOf Tryz.f108) [1, 0, 1, 0, 0]) al) H) (blockL 0 (locale_name_K1 H0))) [(0, x0), (7, x7), (8, x8), (9, x9)] H
noncomputable def locale_name_L1 (x0 x7 x8 : AV) (H0 H : Hp) : Res := LPL cfg (cfg.keep 108) 54 (sub (bodyOf Tryz.f108) [1, 0, 1, 0, 0]) (blockL 0 (locale_name_K1 H0)) [(0, x0), (7, x7), (8, x8)] H
noncomputable def F_locale_name (p0 : AV) (H : Hp) : Res :=
  bnd (alenD .string p0) fun t7_6 =>
  locale_name_L1 p0 t7_6 (.int .i64 0) H H
theorem locale_name_J1_eq (x0 : AV) (H0 H : Hp) : locale_name_J1 x0 H0 H =
    bnd (sbin .neq x0 (.str [])) fun t48_1 =>
    bnd (gdv t48_1 true (.tuple []) (some x0)) fun t50_2 =>
    bnd (gdv t48_1 true (.tuple []) (alenD .string t50_2)) fun t51_3 =>
    bnd (gdv t48_1 true (.tuple []) (ibin .leq t51_3 (.int .i64 32))) fun t52_4 =>
    bnd (apick t48_1 t52_4 (.bool false)) fun t53_5 =>
    some (t53_5, H) := (CXM_eq [3, 8, 9] _ _ _ _).trans (by kernel_rfl)
theorem locale_name_J3_eq (x0 x7 x8 : AV) (H0 H : Hp) : locale_name_J3 x0 x7 x8 H0 H =
    bnd (ibin .add x8 (.int .i64 1)) fun t46_8 =>
    locale_name_L1 x0 x7 t46_8 H0 H := (CXM_eq [3, 8, 9] _ _ _ _).trans (by kernel_rfl)
theorem locale_name_J2_eq (x0 x7 x8 x9 : AV) (H0 H : Hp) : locale_name_J2 x0 x7 x8 x9 H0 H =
    bnd (aindexStr x0 x8) fun t13_9 =>
    bnd (ibin .eql t13_9 (.int .u8 95)) fun t15_10 =>
    bnd (gdv t15_10 false (.tuple []) (some t13_9)) fun t17_11 =>
    bnd (gdv t15_10 false (.tuple []) (ibin .geq t17_11 (.int .u8 97))) fun t18_12 =>
    bnd (gdv t15_10 false (.tuple []) (some t18_12)) fun t19_13 =>
    bnd (gdv t19_13 true (.tuple []) (some t13_9)) fun t20_14 =>
    bnd (gdv t19_13 true (.tuple []) (ibin .leq t20_14 (.int .u8 122))) fun t21_15 =>
    bnd (gdv t15_10 false (.tuple []) (apick t19_13 t21_15 (.bool false))) fun t22_16 =>
    bnd (apick t15_10 (.bool true) t22_16) fun t23_17 =>
    bnd (gdv t23_17 false (.tuple []) (some t13_9)) fun t25_18 =>
    bnd (gdv t23_17 false (.tuple []) (ibin .geq t25_18 (.int .u8 65))) fun t26_19 =>
    bnd (gdv t23_17 false (.tuple []) (some t26_19)) fun t27_20 =>
    bnd (gdv t27_20 true (.tuple []) (some t13_9)) fun t28_21 =>
    bnd (gdv t27_20 true (.tuple []) (ibin .leq t28_21 (.int .u8 90))) fun t29_22 =>
    bnd (gdv t23_17 false (.tuple []) (apick t27_20 t29_22 (.bool false))) fun t30_23 =>
    bnd (apick t23_17 (.bool true) t30_23) fun t31_24 =>
    bnd (aun .not t31_24) fun t33_25 =>
    bnd (gdv t33_25 true (.tuple []) (some x8)) fun t35_26 =>
    bnd (gdv t33_25 true (.tuple []) (ibin .eql t35_26 (.int .i64 0))) fun t36_27 =>
    bnd (gdv t33_25 true (.tuple []) (some t36_27)) fun t37_28 =>
    bnd (gdv t37_28 false (.tuple []) (some t13_9)) fun t38_29 =>
    bnd (gdv t37_28 false (.tuple []) (ibin .lss t38_29 (.int .u8 48))) fun t39_30 =>
    bnd (gdv t33_25 true (.tuple []) (apick t37_28 (.bool true) t39_30)) fun t40_31 =>
    bnd (gdv t33_25 true (.tuple []) (some t40_31)) fun t41_32 =>
    bnd (gdv t41_32 false (.tuple []) (some t13_9)) fun t42_33 =>
    bnd (gdv t41_32 false (.tuple []) (ibin .gtr t42_33 (.int .u8 57))) fun t43_34 =>
    bnd (gdv t33_25 true (.tuple []) (apick t41_32 (.bool true) t43_34)) fun t44_35 =>
    bnd (apick t33_25 t44_35 (.bool false)) fun t45_36 =>
    cnd t45_36
      (some ((.bool false), H))
      (locale_name_J3 x0 x7 x8 H0 H) := (CXM_eq [3, 8, 9] _ _ _ _).trans (by kernel_rfl)
theorem locale_name_L1_eq (x0 x7 x8 : AV) (H0 H : Hp) : locale_name_L1 x0 x7 x8 H0 H =
    bnd (ibin .lss x8 x7) fun t9_7 =>
    cnd t9_7
      (locale_name_J2 x0 x7 x8 t9_7 H0 H)
      (locale_name_J1 x0 H0 H) := (LPL_eqm (C := cfg) [3, 8, 9] (tame_block 0 (locale_name_K1_tame H0)) _ _).trans (by kernel_rfl)
theorem F_locale_name_eq (p0 : AV) (H : Hp) : C_locale_name [p0] H = F_locale_name p0 H := (callw_cxm (C := cfg) (fn := Tryz.f108) (c := bodyOf Tryz.f108) (n := 54) [3, 8, 9] Tryz.func108 (by kernel_rfl) (by kernel_rfl) [p0] (by kernel_rfl) H).trans (by kernel_rfl)

noncomputable def locale_checkClasses_J2 (H0 H : Hp) : Res := CXL cfg (callw cfg) (LPL cfg (cfg.keep 109) 28) (cfg.keep 109) 28 seqL blockL (sub (bodyOf Tryz.f109) [1, 1, 1, 1]) (retL cfg 28 109 Tryz.f109 H0) [] H
noncomputable def locale_checkClasses_K1 (H0 : Hp) : KL := seqL (fun k al H => CXL cfg (callw cfg) (LPL cfg (cfg.keep 109) 28) (cfg.keep 109) 28 seqL blockL (sub (bodyOf Tryz.f109) [1, 1, 1, 1]) k (trimL (cfg.keep 109) (sub (bodyOf Tryz.f109) [1, 1, 1, 1]) al) H) (retL cfg 28 109 Tryz.f109 H0)
theorem locale_checkClasses_K1_tame (H0 : Hp) : Tame 28 (locale_checkClasses_K1 H0) := tame_seq (C := cfg) (kp := cfg.keep 109) (sub (bodyOf Tryz.f109) [1, 1, 1, 1]) (tame_ret 109 Tryz.f109 H0)
noncomputable def locale_checkClasses_J4 (x3 x10 x11 x12 : AV) (H0 H : Hp) : Res := CXL cfg (callw cfg) (LPL cfg (cfg.keep 109) 28) (cfg.keep 109) 28 seqL blockL (sub (bodyOf Tryz.f109) [1, 1, 1, 0, 1, 0, 0, 1, 1, 1]) (seqL (fun k al H => LPL cfg (cfg.keep 109) 28 (sub (bodyOf Tryz.f109) [1, 1, 1, 0, 1, 0, 0]) k (trimL (cfg.keep 109) (sub (bodyOf Tryz.f109) [1, 1, 1, 0, 1, 0, 0]) al) H) (blockL 0 (locale_checkClasses_K1 H0))) [(3, x3), (10, x10), (11, x11), (12, x12)] H
noncomputable def locale_checkClasses_K2 (H0 : Hp) : KL := seqL (fun k al H => CXL cfg (callw cfg) (LPL cfg (cfg.keep 109) 28) (cfg.keep 109) 28 seqL blockL (sub (bodyOf Tryz.f109) [1, 1, 1, 0, 1, 0, 0, 1, 1, 1]) k (trimL (cfg.keep 109) (sub (bodyOf Tryz.f109) [1, 1, 1, 0, 1, 0, 0, 1, 1, 1]) al) H) (seqL (fun k al H => LPL cfg (cfg.keep 109) 28 (sub (bodyOf Tryz.f109) [1, 1, 1, 0, 1, 0, 0]) k (trimL (cfg.keep 109) (sub (bodyOf Tryz.f109) [1, 1, 1, 0, 1, 0, 0]) al) H) (blockL 0 (locale_checkClasses_K1 H0)))
noncomputable def locale_checkClasses_J6 (x3 x5 x10 x11 x12 : AV) (H0 H : Hp) : Res := CXL cfg (callw cfg) (LPL cfg (cfg.keep 109) 28) (cfg.keep 109) 28 seqL blockL (sub (bodyOf Tryz.f109) [1, 1, 1, 0, 1, 0, 0, 1, 1, 0, 0, 1, 1, 1]) (blockL 1 (locale_checkClasses_K2 H0)) [(3, x3), (5, x5), (10, x10), (11, x11), (12, x12)] H
noncomputable def locale_checkClasses_J5 (x3 x5 x10 x11 x12 : AV) (H0 H : Hp) : Res := CXL cfg (callw cfg) (LPL cfg (cfg.keep 109) 28) (cfg.keep 109) 28 seqL blockL (sub (bodyOf Tryz.f109) [1, 1, 1, 0, 1, 0, 0, 1, 1, 0, 0, 1, 1]) (blockL 1 (locale_checkClasses_K2 H0)) [(3, x3), (5, x5), (10, x10), (11, x11), (12, x12)] H
noncomputable def locale_checkClasses_J3 (x3 x10 x11 x12 x13 : AV) (H0 H : Hp) : Res := CXL cfg (callw cfg) (LPL cfg (cfg.keep 109) 28) (cfg.keep 109) 28 seqL blockL (sub (bodyOf Tryz.f109) [1, 1, 1, 0, 1, 0, 0, 1, 1]) (seqL (fun k al H => LPL cfg (cfg.keep 109) 28 (sub (bodyOf Tryz.f109) [1, 1, 1, 0, 1, 0, 0]) k (trimL (cfg.keep 109) (sub (bodyOf Tryz.f109) [1, 1, 1, 0, 1, 0, 0]) al) H) (blockL 0 (locale_checkClasses_K1 H0))) [(3, x3), (10, x10), (11, x11), (12, x12), (13, x13)] H
noncomputable def locale_checkClasses_L1 (x3 x10 x11 x12 : AV) (H0 H : Hp) : Res := LPL cfg (cfg.keep 109) 28 (sub (bodyOf Tryz.f109) [1, 1, 1, 0, 1, 0, 0]) (blockL 0 (locale_checkClasses_K1 H0)) [(3, x3), (10, x10), (11, x11), (12, x12)] H
noncomputable def locale_checkClasses_J1 (x0 : AV) (H0 H : Hp) : Res := CXL cfg (callw cfg) (LPL cfg (cfg.keep 109) 28) (cfg.keep 109) 28 seqL blockL (sub (bodyOf Tryz.f109) [1, 1]) (retL cfg 28 109 Tryz.f109 H0) [(0, x0)] H
noncomputable def F_locale_checkClasses (p0 : AV) (H : Hp) : Res :=
  bnd (alenD (.slice 146) p0) fun t7_19 =>
  bnd (ibin .gtr t7_19 (.int .i64 24)) fun t8_20 =>
  cnd t8_20
    (some ((.int .i64 3), H))
    (locale_checkClasses_J1 p0 H H)
theorem locale_checkClasses_J2_eq (H0 H : Hp) : locale_checkClasses_J2 H0 H =
    some ((.int .i64 0), H) := (CXM_eq [3, 6, 9, 11, 12, 13] _ _ _ _).trans (by kernel_rfl)
theorem locale_checkClasses_J4_eq (x3 x10 x11 x12 : AV) (H0 H : Hp) : locale_checkClasses_J4 x3 x10 x11 x12 H0 H =
    bnd (ibin .add x12 (.int .i64 1)) fun t27_4 =>
    locale_checkClasses_L1 x3 x10 x11 t27_4 H0 H := (CXM_eq [3, 6, 9, 11, 12, 13] _ _ _ _).trans (by kernel_rfl)
theorem locale_checkClasses_J6_eq (x3 x5 x10 x11 x12 : AV) (H0 H : Hp) : locale_checkClasses_J6 x3 x5 x10 x11 x12 H0 H =
    bnd (afield 0 x5) fun t25_9 =>
    bnd (aload false 1 t25_9 H) fun t26_10 =>
    bnd (amapSet .string x3 t26_10 (.bool true) H) fun r_11 =>
    locale_checkClasses_J4 x3 x10 x11 x12 H0 r_11.2 := (CXM_eq [3, 6, 9, 11, 12, 13] _ _ _ _).trans (by kernel_rfl)
theorem locale_checkClasses_J5_eq (x3 x5 x10 x11 x12 : AV) (H0 H : Hp) : locale_checkClasses_J5 x3 x5 x10 x11 x12 H0 H =
    bnd (afield 0 x5) fun t21_12 =>
    bnd (aload false 1 t21_12 H) fun t22_13 =>
    bnd (alookup .string (.bool false) false x3 t22_13 H) fun t23_14 =>
    cnd t23_14
      (some ((.int .i64 6), H))
      (locale_checkClasses_J6 x3 x5 x10 x11 x12 H0 H) := (CXM_eq [3, 6, 9, 11, 12, 13] _ _ _ _).trans (by kernel_rfl)
theorem locale_checkClasses_J3_eq (x3 x10 x11 x12 x13 : AV) (H0 H : Hp) : locale_checkClasses_J3 x3 x10 x11 x12 x13 H0 H =
    bnd (aindexS 5 x10 x12) fun t14_5 =>
    bnd (aload true 5 t14_5 H) fun t15_6 =>
    bnd (some ((.ptr H.length 0), H ++ [.cells [(.str []), (.int .u64 0), (.int .u64 0), (.int .u64 0), (.int .u64 0)]])) fun r5_7 =>
    bnd (astoreU 5 r5_7.1 t15_6 r5_7.2) fun r_8 =>
    bnd (afield 0 r5_7.1) fun t16_15 =>
    bnd (aload false 1 t16_15 r_8.2) fun t17_16 =>
    bnd (flatC C_locale_name [t17_16] r_8.2) fun r18_17 =>
    bnd (aun .not r18_17.1) fun t19_18 =>
    cnd t19_18
      (some ((.int .i64 4), r18_17.2))
      (locale_checkClasses_J5 x3 r5_7.1 x10 x11 x12 H0 r18_17.2) := (CXM_eq [3, 6, 9, 11, 12, 13] _ _ _ _).trans (by kernel_rfl)
theorem locale_checkClasses_L1_eq (x3 x10 x11 x12 : AV) (H0 H : Hp) : locale_checkClasses_L1 x3 x10 x11 x12 H0 H =
    bnd (ibin .lss x12 x11) fun t13_3 =>
    cnd t13_3
      (locale_checkClasses_J3 x3 x10 x11 x12 t13_3 H0 H)
      (locale_checkClasses_J2 H0 H) := (LPL_eqm (C := cfg) [3, 6, 9, 11, 12, 13] (tame_block 0 (locale_checkClasses_K1_tame H0)) _ _).trans (by kernel_rfl)
theorem locale_checkClasses_J1_eq (x0 : AV) (H0 H : Hp) : locale_checkClasses_J1 x0 H0 H =
    bnd (some ((.map H.length), H ++ [.map [] 0])) fun r9_1 =>
    bnd (alenD (.slice 146) x0) fun t11_2 =>
    locale_checkClasses_L1 r9_1.1 x0 t11_2 (.int .i64 0) H0 r9_1.2 := (CXM_eq [3, 6, 9, 11, 12, 13] _ _ _ _).trans (by kernel_rfl)
theorem F_locale_checkClasses_eq (p0 : AV) (H : Hp) : C_locale_checkClasses [p0] H = F_locale_checkClasses p0 H := (callw_cxm (C := cfg) (fn := Tryz.f109) (c := bodyOf Tryz.f109) (n := 28) [3, 6, 9, 11, 12, 13] Tryz.func109 (by kernel_rfl) (by kernel_rfl) [p0] (by kernel_rfl) H).trans (by kernel_rfl)

noncomputable def locale_checkElements_J2 (H0 H : Hp) : Res := CXL cfg (callw cfg) (LPL cfg (cfg.keep 110) 38) (cfg.keep 110) 38 seqL blockL (sub (bodyOf Tryz.f110) [1, 1, 1, 1]) (retL cfg 38 110 Tryz.f110 H0) [] H
noncomputable def locale_checkElements_K1 (H0 : Hp) : KL := seqL (fun k al H => CXL cfg (callw cfg) (LPL cfg (cfg.keep 110) 38) (cfg.keep 110) 38 seqL blockL (sub (bodyOf Tryz.f110) [1, 1, 1, 1]) k (trimL (cfg.keep 110) (sub (bodyOf Tryz.f110) [1, 1, 1, 1]) al) H) (retL cfg 38 110 Tryz.f110 H0)
theorem locale_checkElements_K1_tame (H0 : Hp) : Tame 38 (locale_checkElements_K1 H0) := tame_seq (C := cfg) (kp := cfg.keep 110) (sub (bodyOf Tryz.f110) [1, 1, 1, 1]) (tame_ret 110 Tryz.f110 H0)
noncomputable def locale_checkElements_J4 (x3 x10 x11 x12 : AV) (H0 H : Hp) : Res := CXL cfg (callw cfg) (LPL cfg (cfg.keep 110) 38) (cfg.keep 110) 38 seqL blockL (sub (bodyOf Tryz.f110) [1, 1, 1, 0, 1, 0, 0, 1, 1, 1]) (seqL (fun k al H => LPL cfg (cfg.keep 110) 38 (sub (bodyOf Tryz.f110) [1, 1, 1, 0, 1, 0, 0]) k (trimL (cfg.keep 110) (sub (bodyOf Tryz.f110) [1, 1, 1, 0, 1, 0, 0]) al) H) (blockL 0 (locale_checkElements_K1 H0))) [(3, x3), (10, x10), (11, x11), (12, x12)] H
noncomputable def locale_checkElements_K2 (H0 : Hp) : KL := seqL (fun k al H => CXL cfg (callw cfg) (LPL cfg (cfg.keep 110) 38) (cfg.keep 110) 38 seqL blockL (sub (bodyOf Tryz.f110) [1, 1, 1, 0, 1, 0, 0, 1, 1, 1]) k (trimL (cfg.keep 110) (sub (bodyOf Tryz.f110) [1, 1, 1, 0, 1, 0, 0, 1, 1, 1]) al) H) (seqL (fun k al H => LPL cfg (cfg.keep 110) 38 (sub (bodyOf Tryz.f110) [1, 1, 1, 0, 1, 0, 0]) k (trimL (cfg.keep 110) (sub (bodyOf Tryz.f110) [1, 1, 1, 0, 1, 0, 0]) al) H) (blockL 0 (locale_checkElements_K1 H0)))
noncomputable def locale_checkElements_J6 (x3 x5 x10 x11 x12 : AV) (H0 H : Hp) : Res := CXL cfg (callw cfg) (LPL cfg (cfg.keep 110) 38) (cfg.keep 110) 38 seqL blockL (sub (bodyOf Tryz.f110) [1, 1, 1, 0, 1, 0, 0, 1, 1, 0, 0, 1, 1, 1]) (blockL 1 (locale_checkElements_K2 H0)) [(3, x3), (5, x5), (10, x10), (11, x11), (12, x12)] H
noncomputable def locale_checkElements_J5 (x3 x5 x10 x11 x12 : AV) (H0 H : Hp) : Res := CXL cfg (callw cfg) (LPL cfg (cfg.keep 110) 38) (cfg.keep 110) 38 seqL blockL (sub (bodyOf Tryz.f110) [1, 1, 1, 0, 1, 0, 0, 1, 1, 0, 0, 1, 1]) (blockL 1 (locale_checkElements_K2 H0)) [(3, x3), (5, x5), (10, x10), (11, x11), (12, x12)] H
noncomputable def locale_checkElements_J3 (x3 x10 x11 x12 x13 : AV) (H0 H : Hp) : Res := CXL cfg (callw cfg) (LPL cfg (cfg.keep 110) 38) (cfg.keep 110) 38 seqL blockL (sub (bodyOf Tryz.f110) [1, 1, 1, 0, 1, 0, 0, 1, 1]) (seqL (fun k al H => LPL cfg (cfg.keep 110) 38 (sub (bodyOf Tryz.f110) [1, 1, 1, 0, 1, 0, 0]) k (trimL (cfg.keep 110) (sub (bodyOf Tryz.f110) [1, 1, 1, 0, 1, 0, 0]) al) H) (blockL 0 (locale_checkElements_K1 H0))) [(3, x3), (10, x10), (11, x11), (12, x12), (13, x13)] H
noncomputable def locale_checkElements_L1 (x3 x10 x11 x12 : AV) (H0 H : Hp) : Res := LPL cfg (cfg.keep 110) 38 (sub (bodyOf Tryz.f110) [1, 1, 1, 0, 1, 0, 0]) (blockL 0 (locale_checkElements_K1 H0)) [(3, x3), (10, x10), (11, x11), (12, x12)] H
noncomputable def locale_checkElements_J1 (x0 : AV) (H0 H : Hp) : Res := CXL cfg (callw cfg) (LPL cfg (cfg.keep 110) 38) (cfg.keep 110) 38 seqL blockL (sub (bodyOf Tryz.f110) [1, 1]) (retL cfg 38 110 Tryz.f110 H0) [(0, x0)] H
noncomputable def F_locale_checkElements (p0 : AV) (H : Hp) : Res :=
  bnd (alenD (.slice 116) p0) fun t7_27 =>
  bnd (ibin .gtr t7_27 (.int .i64 64)) fun t8_28 =>
  cnd t8_28
    (some ((.int .i64 3), H))
    (locale_checkElements_J1 p0 H H)
theorem locale_checkElements_J2_eq (H0 H : Hp) : locale_checkElements_J2 H0 H =
    some ((.int .i64 0), H) := (CXM_eq [3, 6, 9, 11, 12, 13] _ _ _ _).trans (by kernel_rfl)
theorem locale_checkElements_J4_eq (x3 x10 x11 x12 : AV) (H0 H : Hp) : locale_checkElements_J4 x3 x10 x11 x12 H0 H =
    bnd (ibin .add x12 (.int .i64 1)) fun t37_4 =>
    locale_checkElements_L1 x3 x10 x11 t37_4 H0 H := (CXM_eq [3, 6, 9, 11, 12, 13] _ _ _ _).trans (by kernel_rfl)
theorem locale_checkElements_J6_eq (x3 x5 x10 x11 x12 : AV) (H0 H : Hp) : locale_checkElements_J6 x3 x5 x10 x11 x12 H0 H =
    bnd (afield 0 x5) fun t35_9 =>
    bnd (aload false 1 t35_9 H) fun t36_10 =>
    bnd (amapSet .string x3 t36_10 (.bool true) H) fun r_11 =>
    locale_checkElements_J4 x3 x10 x11 x12 H0 r_11.2 := (CXM_eq [3, 6, 9, 11, 12, 13] _ _ _ _).trans (by kernel_rfl)
theorem locale_checkElements_J5_eq (x3 x5 x10 x11 x12 : AV) (H0 H : Hp) : locale_checkElements_J5 x3 x5 x10 x11 x12 H0 H =
    bnd (afield 0 x5) fun t31_12 =>
    bnd (aload false 1 t31_12 H) fun t32_13 =>
    bnd (alookup .string (.bool false) false x3 t32_13 H) fun t33_14 =>
    cnd t33_14
      (some ((.int .i64 6), H))
      (locale_checkElements_J6 x3 x5 x10 x11 x12 H0 H) := (CXM_eq [3, 6, 9, 11, 12, 13] _ _ _ _).trans (by kernel_rfl)
theorem locale_checkElements_J3_eq (x3 x10 x11 x12 x13 : AV) (H0 H : Hp) : locale_checkElements_J3 x3 x10 x11 x12 x13 H0 H =
    bnd (aindexS 2 x10 x12) fun t14_5 =>
    bnd (aload true 2 t14_5 H) fun t15_6 =>
    bnd (some ((.ptr H.length 0), H ++ [.cells [(.str []), (.int .i64 0)]])) fun r5_7 =>
    bnd (astoreU 2 r5_7.1 t15_6 r5_7.2) fun r_8 =>
    bnd (afield 0 r5_7.1) fun t16_15 =>
    bnd (aload false 1 t16_15 r_8.2) fun t17_16 =>
    bnd (alenD .string t17_16) fun t18_17 =>
    bnd (ibin .neq t18_17 (.int .i64 2)) fun t19_18 =>
    bnd (gdv t19_18 false (.tuple []) (afield 1 r5_7.1)) fun t21_19 =>
    bnd (gdv t19_18 false (.tuple []) (aload false 1 t21_19 r_8.2)) fun t22_20 =>
    bnd (gdv t19_18 false (.tuple []) (ibin .lss t22_20 (.int .i64 0))) fun t23_21 =>
    bnd (apick t19_18 (.bool true) t23_21) fun t24_22 =>
    bnd (gdv t24_22 false (.tuple []) (afield 1 r5_7.1)) fun t26_23 =>
    bnd (gdv t24_22 false (.tuple []) (aload false 1 t26_23 r_8.2)) fun t27_24 =>
    bnd (gdv t24_22 false (.tuple []) (ibin .gtr t27_24 (.int .i64 65535))) fun t28_25 =>
    bnd (apick t24_22 (.bool true) t28_25) fun t29_26 =>
    cnd t29_26
      (some ((.int .i64 2), r_8.2))
      (locale_checkElements_J5 x3 r5_7.1 x10 x11 x12 H0 r_8.2) := (CXM_eq [3, 6, 9, 11, 12, 13] _ _ _ _).trans (by kernel_rfl)
theorem locale_checkElements_L1_eq (x3 x10 x11 x12 : AV) (H0 H : Hp) : locale_checkElements_L1 x3 x10 x11 x12 H0 H =
    bnd (ibin .lss x12 x11) fun t13_3 =>
    cnd t13_3
      (locale_checkElements_J3 x3 x10 x11 x12 t13_3 H0 H)
      (locale_checkElements_J2 H0 H) := (LPL_eqm (C := cfg) [3, 6, 9, 11, 12, 13] (tame_block 0 (locale_checkElements_K1_tame H0)) _ _).trans (by kernel_rfl)
theorem locale_checkElements_J1_eq (x0 : AV) (H0 H : Hp) : locale_checkElements_J1 x0 H0 H =
    bnd (some ((.map H.length), H ++ [.map [] 0])) fun r9_1 =>
    bnd (alenD (.slice 116) x0) fun t11_2 =>
    locale_checkElements_L1 r9_1.1 x0 t11_2 (.int .i64 0) H0 r9_1.2 := (CXM_eq [3, 6, 9, 11, 12, 13] _ _ _ _).trans (by kernel_rfl)
theorem F_locale_checkElements_eq (p0 : AV) (H : Hp) : C_locale_checkElements [p0] H = F_locale_checkElements p0 H := (callw_cxm (C := cfg) (fn := Tryz.f110) (c := bodyOf Tryz.f110) (n := 38) [3, 6, 9, 11, 12, 13] Tryz.func110 (by kernel_rfl) (by kernel_rfl) [p0] (by kernel_rfl) H).trans (by kernel_rfl)

noncomputable def R05_IsName_J2 (H0 H : Hp) : Res := CXL cfg (callw cfg) (LPL cfg (cfg.keep 113) 59) (cfg.keep 113) 59 seqL blockL (sub (bodyOf Tryz.f113) [1, 1, 1]) (retL cfg 59 113 Tryz.f113 H0) [] H
noncomputable def R05_IsName_K1 (H0 : Hp) : KL := seqL (fun k al H => CXL cfg (callw cfg) (LPL cfg (cfg.keep 113) 59) (cfg.keep 113) 59 seqL blockL (sub (bodyOf Tryz.f113) [1, 1, 1]) k (trimL (cfg.keep 113) (sub (bodyOf Tryz.f113) [1, 1, 1]) al) H) (retL cfg 59 113 Tryz.f113 H0)
theorem R05_IsName_K1_tame (H0 : Hp) : Tame 59 (R05_IsName_K1 H0) := tame_seq (C := cfg) (kp := cfg.keep 113) (sub (bodyOf Tryz.f113) [1, 1, 1]) (tame_ret 113 Tryz.f113 H0)
noncomputable def R05_IsName_J4 (x0 x3 : AV) (H0 H : Hp) : Res := CXL cfg (callw cfg) (LPL cfg (cfg.keep 113) 59) (cfg.keep 113) 59 seqL blockL (sub (bodyOf Tryz.f113) [1, 1, 0, 1, 0, 0, 1, 1]) (seqL (fun k al H => LPL cfg (cfg.keep 113) 59 (sub (bodyOf Tryz.f113) [1, 1, 0, 1, 0, 0]) k (trimL (cfg.keep 113) (sub (bodyOf Tryz.f113) [1, 1, 0, 1, 0, 0]) al) H) (blockL 0 (R05_IsName_K1 H0))) [(0, x0), (3, x3)] H
noncomputable def R05_IsName_J3 (x0 x3 : AV) (H0 H : Hp) : Res := CXL cfg (callw cfg) (LPL cfg (cfg.keep 113) 59) (cfg.keep 113) 59 seqL blockL (sub (bodyOf Tryz.f113) [1, 1, 0, 1, 0, 0, 1]) (seqL (fun k al H => LPL cfg (cfg.keep 113) 59 (sub (bodyOf Tryz.f113) [1, 1, 0, 1, 0, 0]) k (trimL (cfg.keep 113) (sub (bodyOf Tryz.f113) [1, 1, 0, 1, 0, 0]) al) H) (blockL 0 (R05_IsName_K1 H0))) [(0, x0), (3, x3)] H
noncomputable def R05_IsName_L1 (x0 x3 : AV) (H0 H : Hp) : Res := LPL cfg (cfg.keep 113) 59 (sub (bodyOf Tryz.f113) [1, 1, 0, 1, 0, 0]) (blockL 0 (R05_IsName_K1 H0)) [(0, x0), (3, x3)] H
noncomputable def R05_IsName_J1 (x0 : AV) (H0 H : Hp) : Res := CXL cfg (callw cfg) (LPL cfg (cfg.keep 113) 59) (cfg.keep 113) 59 seqL blockL (sub (bodyOf Tryz.f113) [1, 1]) (retL cfg 59 113 Tryz.f113 H0) [(0, x0)] H
noncomputable def F_R05_IsName (p0 : AV) (H : Hp) : Res :=
  bnd (alenD .string p0) fun t6_27 =>
  bnd (ibin .eql t6_27 (.int .i64 0)) fun t7_28 =>
  bnd (gdv t7_28 false (.tuple []) (some p0)) fun t9_29 =>
  bnd (gdv t7_28 false (.tuple []) (alenD .string t9_29)) fun t10_30 =>
  bnd (gdv t7_28 false (.tuple []) (ibin .gtr t10_30 (.int .i64 32))) fun t11_31 =>
  bnd (apick t7_28 (.bool true) t11_31) fun t12_32 =>
  bnd (gdv t12_32 false (.tuple []) (some p0)) fun t14_33 =>
  bnd (gdv t12_32 false (.tuple []) (aindexStr t14_33 (.int .i64 0))) fun t15_34 =>
  bnd (gdv t12_32 false (.tuple []) (ibin .geq t15_34 (.int .u8 48))) fun t16_35 =>
  bnd (gdv t12_32 false (.tuple []) (some t16_35)) fun t17_36 =>
  bnd (gdv t17_36 true (.tuple []) (some p0)) fun t18_37 =>
  bnd (gdv t17_36 true (.tuple []) (aindexStr t18_37 (.int .i64 0))) fun t19_38 =>
  bnd (gdv t17_36 true (.tuple []) (ibin .leq t19_38 (.int .u8 57))) fun t20_39 =>
  bnd (gdv t12_32 false (.tuple []) (apick t17_36 t20_39 (.bool false))) fun t21_40 =>
  bnd (apick t12_32 (.bool true) t21_40) fun t22_41 =>
  cnd t22_41
    (some ((.bool false), H))
    (R05_IsName_J1 p0 H H)
theorem R05_IsName_J2_eq (H0 H : Hp) : R05_IsName_J2 H0 H =
    some ((.bool true), H) := (CXM_eq [3, 5, 6, 9] _ _ _ _).trans (by kernel_rfl)
theorem R05_IsName_J4_eq (x0 x3 : AV) (H0 H : Hp) : R05_IsName_J4 x0 x3 H0 H =
    bnd (ibin .add x3 (.int .i64 1)) fun t28_1 =>
    R05_IsName_L1 x0 t28_1 H0 H := (CXM_eq [3, 5, 6, 9] _ _ _ _).trans (by kernel_rfl)
theorem R05_IsName_J3_eq (x0 x3 : AV) (H0 H : Hp) : R05_IsName_J3 x0 x3 H0 H =
    bnd (aindexStr x0 x3) fun t31_2 =>
    bnd (ibin .geq t31_2 (.int .u8 97)) fun t33_3 =>
    bnd (gdv t33_3 true (.tuple []) (some t31_2)) fun t35_4 =>
    bnd (gdv t33_3 true (.tuple []) (ibin .leq t35_4 (.int .u8 122))) fun t36_5 =>
    bnd (apick t33_3 t36_5 (.bool false)) fun t37_6 =>
    bnd (gdv t37_6 false (.tuple []) (some t31_2)) fun t39_7 =>
    bnd (gdv t37_6 false (.tuple []) (ibin .geq t39_7 (.int .u8 65))) fun t40_8 =>
    bnd (gdv t37_6 false (.tuple []) (some t40_8)) fun t41_9 =>
    bnd (gdv t41_9 true (.tuple []) (some t31_2)) fun t42_10 =>
    bnd (gdv t41_9 true (.tuple []) (ibin .leq t42_10 (.int .u8 90))) fun t43_11 =>
    bnd (gdv t37_6 false (.tuple []) (apick t41_9 t43_11 (.bool false))) fun t44_12 =>
    bnd (apick t37_6 (.bool true) t44_12) fun t45_13 =>
    bnd (gdv t45_13 false (.tuple []) (some t31_2)) fun t47_14 =>
    bnd (gdv t45_13 false (.tuple []) (ibin .geq t47_14 (.int .u8 48))) fun t48_15 =>
    bnd (gdv t45_13 false (.tuple []) (some t48_15)) fun t49_16 =>
    bnd (gdv t49_16 true (.tuple []) (some t31_2)) fun t50_17 =>
    bnd (gdv t49_16 true (.tuple []) (ibin .leq t50_17 (.int .u8 57))) fun t51_18 =>
    bnd (gdv t45_13 false (.tuple []) (apick t49_16 t51_18 (.bool false))) fun t52_19 =>
    bnd (apick t45_13 (.bool true) t52_19) fun t53_20 =>
    bnd (gdv t53_20 false (.tuple []) (some t31_2)) fun t55_21 =>
    bnd (gdv t53_20 false (.tuple []) (ibin .eql t55_21 (.int .u8 95))) fun t56_22 =>
    bnd (apick t53_20 (.bool true) t56_22) fun t57_23 =>
    bnd (aun .not t57_23) fun t58_24 =>
    cnd t58_24
      (some ((.bool false), H))
      (R05_IsName_J4 x0 x3 H0 H) := (CXM_eq [3, 5, 6, 9] _ _ _ _).trans (by kernel_rfl)
theorem R05_IsName_L1_eq (x0 x3 : AV) (H0 H : Hp) : R05_IsName_L1 x0 x3 H0 H =
    bnd (alenD .string x0) fun t25_25 =>
    bnd (ibin .lss x3 t25_25) fun t26_26 =>
    cnd t26_26
      (R05_IsName_J3 x0 x3 H0 H)
      (R05_IsName_J2 H0 H) := (LPL_eqm (C := cfg) [3, 5, 6, 9] (tame_block 0 (R05_IsName_K1_tame H0)) _ _).trans (by kernel_rfl)
theorem R05_IsName_J1_eq (x0 : AV) (H0 H : Hp) : R05_IsName_J1 x0 H0 H =
    R05_IsName_L1 x0 (.int .i64 0) H0 H := (CXM_eq [3, 5, 6, 9] _ _ _ _).trans (by kernel_rfl)
theorem F_R05_IsName_eq (p0 : AV) (H : Hp) : C_R05_IsName [p0] H = F_R05_IsName p0 H := (callw_cxm (C := cfg) (fn := Tryz.f113) (c := bodyOf Tryz.f113) (n := 59) [3, 5, 6, 9] Tryz.func113 (by kernel_rfl) (by kernel_rfl) [p0] (by kernel_rfl) H).trans (by kernel_rfl)

noncomputable def F_R05_light (p0 : AV) (H : Hp) : Res :=
  bnd (ibin .geq p0 (.int .i64 0)) fun t4_1 =>
  bnd (gdv t4_1 true (.tuple []) (some p0)) fun t6_2 =>
  bnd (gdv t4_1 true (.tuple []) (ibin .leq t6_2 (.int .i64 65535))) fun t7_3 =>
  bnd (apick t4_1 t7_3 (.bool false)) fun t8_4 =>
  some (t8_4, H)
theorem F_R05_light_eq (p0 : AV) (H : Hp) : C_R05_light [p0] H = F_R05_light p0 H := (callw_cxm (C := cfg) (fn := Tryz.f114) (c := bodyOf Tryz.f114) (n := 9) [] Tryz.func114 (by kernel_rfl) (by kernel_rfl) [p0] (by kernel_rfl) H).trans (by kernel_rfl)

noncomputable def R05_checkClasses_J2 (H0 H : Hp) : Res := CXL cfg (callw cfg) (LPL cfg (cfg.keep 115) 37) (cfg.keep 115) 37 seqL blockL (sub (bodyOf Tryz.f115) [1, 1, 1]) (retL cfg 37 115 Tryz.f115 H0) [] H
noncomputable def R05_checkClasses_K1 (H0 : Hp) : KL := seqL (fun k al H => CXL cfg (callw cfg) (LPL cfg (cfg.keep 115) 37) (cfg.keep 115) 37 seqL blockL (sub (bodyOf Tryz.f115) [1, 1, 1]) k (trimL (cfg.keep 115) (sub (bodyOf Tryz.f115) [1, 1, 1]) al) H) (retL cfg 37 115 Tryz.f115 H0)
theorem R05_checkClasses_K1_tame (H0 : Hp) : Tame 37 (R05_checkClasses_K1 H0) := tame_seq (C := cfg) (kp := cfg.keep 115) (sub (bodyOf Tryz.f115) [1, 1, 1]) (tame_ret 115 Tryz.f115 H0)
noncomputable def R05_checkClasses_J4 (x0 x3 : AV) (H0 H : Hp) : Res := CXL cfg (callw cfg) (LPL cfg (cfg.keep 115) 37) (cfg.keep 115) 37 seqL blockL (sub (bodyOf Tryz.f115) [1, 1, 0, 1, 0, 0, 1, 1]) (seqL (fun k al H => LPL cfg (cfg.keep 115) 37 (sub (bodyOf Tryz.f115) [1, 1, 0, 1, 0, 0]) k (trimL (cfg.keep 115) (sub (bodyOf Tryz.f115) [1, 1, 0, 1, 0, 0]) al) H) (blockL 0 (R05_checkClasses_K1 H0))) [(0, x0), (3, x3)] H
noncomputable def R05_checkClasses_K2 (H0 : Hp) : KL := seqL (fun k al H => CXL cfg (callw cfg) (LPL cfg (cfg.keep 115) 37) (cfg.keep 115) 37 seqL blockL (sub (bodyOf Tryz.f115) [1, 1, 0, 1, 0, 0, 1, 1]) k (trimL (cfg.keep 115) (sub (bodyOf Tryz.f115) [1, 1, 0, 1, 0, 0, 1, 1]) al) H) (seqL (fun k al H => LPL cfg (cfg.keep 115) 37 (sub (bodyOf Tryz.f115) [1, 1, 0, 1, 0, 0]) k (trimL (cfg.keep 115) (sub (bodyOf Tryz.f115) [1, 1, 0, 1, 0, 0]) al) H) (blockL 0 (R05_checkClasses_K1 H0)))
theorem R05_checkClasses_K2_tame (H0 : Hp) : Tame 37 (R05_checkClasses_K2 H0) := tame_seq (C := cfg) (kp := cfg.keep 115) (sub (bodyOf Tryz.f115) [1, 1, 0, 1, 0, 0, 1, 1]) (tame_loop (C := cfg) (kp := cfg.keep 115) (sub (bodyOf Tryz.f115) [1, 1, 0, 1, 0, 0]) (tame_block 0 (R05_checkClasses_K1_tame H0)))
noncomputable def R05_checkClasses_J7 (x0 x3 x4 : AV) (H0 H : Hp) : Res := CXL cfg (callw cfg) (LPL cfg (cfg.keep 115) 37) (cfg.keep 115) 37 seqL blockL (sub (bodyOf Tryz.f115) [1, 1, 0, 1, 0, 0, 1, 0, 0, 1, 1, 0, 0, 1, 1]) (seqL (fun k al H => LPL cfg (cfg.keep 115) 37 (sub (bodyOf Tryz.f115) [1, 1, 0, 1, 0, 0, 1, 0, 0, 1, 1, 0, 0]) k (trimL (cfg.keep 115) (sub (bodyOf Tryz.f115) [1, 1, 0, 1, 0, 0, 1, 0, 0, 1, 1, 0, 0]) al) H) (blockL 2 (blockL 1 (R05_checkClasses_K2 H0)))) [(0, x0), (3, x3), (4, x4)] H
noncomputable def R05_checkClasses_J6 (x0 x3 x4 : AV) (H0 H : Hp) : Res := CXL cfg (callw cfg) (LPL cfg (cfg.keep 115) 37) (cfg.keep 115) 37 seqL blockL (sub (bodyOf Tryz.f115) [1, 1, 0, 1, 0, 0, 1, 0, 0, 1, 1, 0, 0, 1]) (seqL (fun k al H => LPL cfg (cfg.keep 115) 37 (sub (bodyOf Tryz.f115) [1, 1, 0, 1, 0, 0, 1, 0, 0, 1, 1, 0, 0]) k (trimL (cfg.keep 115) (sub (bodyOf Tryz.f115) [1, 1, 0, 1, 0, 0, 1, 0, 0, 1, 1, 0, 0]) al) H) (blockL 2 (blockL 1 (R05_checkClasses_K2 H0)))) [(0, x0), (3, x3), (4, x4)] H
noncomputable def R05_checkClasses_L2 (x0 x3 x4 : AV) (H0 H : Hp) : Res := LPL cfg (cfg.keep 115) 37 (sub (bodyOf Tryz.f115) [1, 1, 0, 1, 0, 0, 1, 0, 0, 1, 1, 0, 0]) (blockL 2 (blockL 1 (R05_checkClasses_K2 H0))) [(0, x0), (3, x3), (4, x4)] H
noncomputable def R05_checkClasses_J5 (x0 x3 : AV) (H0 H : Hp) : Res := CXL cfg (callw cfg) (LPL cfg (cfg.keep 115) 37) (cfg.keep 115) 37 seqL blockL (sub (bodyOf Tryz.f115) [1, 1, 0, 1, 0, 0, 1, 0, 0, 1]) (blockL 1 (R05_checkClasses_K2 H0)) [(0, x0), (3, x3)] H
noncomputable def R05_checkClasses_J3 (x0 x3 : AV) (H0 H : Hp) : Res := CXL cfg (callw cfg) (LPL cfg (cfg.keep 115) 37) (cfg.keep 115) 37 seqL blockL (sub (bodyOf Tryz.f115) [1, 1, 0, 1, 0, 0, 1]) (seqL (fun k al H => LPL cfg (cfg.keep 115) 37 (sub (bodyOf Tryz.f115) [1, 1, 0, 1, 0, 0]) k (trimL (cfg.keep 115) (sub (bodyOf Tryz.f115) [1, 1, 0, 1, 0, 0]) al) H) (blockL 0 (R05_checkClasses_K1 H0))) [(0, x0), (3, x3)] H
noncomputable def R05_checkClasses_L1 (x0 x3 : AV) (H0 H : Hp) : Res := LPL cfg (cfg.keep 115) 37 (sub (bodyOf Tryz.f115) [1, 1, 0, 1, 0, 0]) (blockL 0 (R05_checkClasses_K1 H0)) [(0, x0), (3, x3)] H
noncomputable def R05_checkClasses_J1 (x0 : AV) (H0 H : Hp) : Res := CXL cfg (callw cfg) (LPL cfg (cfg.keep 115) 37) (cfg.keep 115) 37 seqL blockL (sub (bodyOf Tryz.f115) [1, 1]) (retL cfg 37 115 Tryz.f115 H0) [(0, x0)] H
noncomputable def F_R05_checkClasses (p0 : AV) (H : Hp) : Res :=
  bnd (alenD (.slice 146) p0) fun t6_18 =>
  bnd (ibin .gtr t6_18 (.int .i64 24)) fun t7_19 =>
  cnd t7_19
    (some ((.int .i64 3), H))
    (R05_checkClasses_J1 p0 H H)
theorem R05_checkClasses_J2_eq (H0 H : Hp) : R05_checkClasses_J2 H0 H =
    some ((.int .i64 0), H) := (CXM_eq [3, 5, 6, 8, 10, 11, 13] _ _ _ _).trans (by kernel_rfl)
theorem R05_checkClasses_J4_eq (x0 x3 : AV) (H0 H : Hp) : R05_checkClasses_J4 x0 x3 H0 H =
    bnd (ibin .add x3 (.int .i64 1)) fun t13_1 =>
    R05_checkClasses_L1 x0 t13_1 H0 H := (CXM_eq [3, 5, 6, 8, 10, 11, 13] _ _ _ _).trans (by kernel_rfl)
theorem R05_checkClasses_J7_eq (x0 x3 x4 : AV) (H0 H : Hp) : R05_checkClasses_J7 x0 x3 x4 H0 H =
    bnd (ibin .add x4 (.int .i64 1)) fun t25_2 =>
    R05_checkClasses_L2 x0 x3 t25_2 H0 H := (CXM_eq [3, 5, 6, 8, 10, 11, 13] _ _ _ _).trans (by kernel_rfl)
theorem R05_checkClasses_J6_eq (x0 x3 x4 : AV) (H0 H : Hp) : R05_checkClasses_J6 x0 x3 x4 H0 H =
    bnd (aindexS 5 x0 x4) fun t28_3 =>
    bnd (afield 0 t28_3) fun t29_4 =>
    bnd (aload false 1 t29_4 H) fun t30_5 =>
    bnd (aindexS 5 x0 x3) fun t33_6 =>
    bnd (afield 0 t33_6) fun t34_7 =>
    bnd (aload false 1 t34_7 H) fun t35_8 =>
    bnd (sbin .eql t30_5 t35_8) fun t36_9 =>
    cnd t36_9
      (some ((.int .i64 6), H))
      (R05_checkClasses_J7 x0 x3 x4 H0 H) := (CXM_eq [3, 5, 6, 8, 10, 11, 13] _ _ _ _).trans (by kernel_rfl)
theorem R05_checkClasses_L2_eq (x0 x3 x4 : AV) (H0 H : Hp) : R05_checkClasses_L2 x0 x3 x4 H0 H =
    bnd (ibin .lss x4 x3) fun t23_10 =>
    cnd t23_10
      (R05_checkClasses_J6 x0 x3 x4 H0 H)
      (R05_checkClasses_J4 x0 x3 H0 H) := (LPL_eqm (C := cfg) [3, 5, 6, 8, 10, 11, 13] (tame_block 2 (tame_block 1 (R05_checkClasses_K2_tame H0))) _ _).trans (by kernel_rfl)
theorem R05_checkClasses_J5_eq (x0 x3 : AV) (H0 H : Hp) : R05_checkClasses_J5 x0 x3 H0 H =
    R05_checkClasses_L2 x0 x3 (.int .i64 0) H0 H := (CXM_eq [3, 5, 6, 8, 10, 11, 13] _ _ _ _).trans (by kernel_rfl)
theorem R05_checkClasses_J3_eq (x0 x3 : AV) (H0 H : Hp) : R05_checkClasses_J3 x0 x3 H0 H =
    bnd (aindexS 5 x0 x3) fun t16_11 =>
    bnd (afield 0 t16_11) fun t17_12 =>
    bnd (aload false 1 t17_12 H) fun t18_13 =>
    bnd (flatC C_R05_IsName [t18_13] H) fun r19_14 =>
    bnd (aun .not r19_14.1) fun t20_15 =>
    cnd t20_15
      (some ((.int .i64 4), r19_14.2))
      (R05_checkClasses_J5 x0 x3 H0 r19_14.2) := (CXM_eq [3, 5, 6, 8, 10, 11, 13] _ _ _ _).trans (by kernel_rfl)
theorem R05_checkClasses_L1_eq (x0 x3 : AV) (H0 H : Hp) : R05_checkClasses_L1 x0 x3 H0 H =
    bnd (alenD (.slice 146) x0) fun t10_16 =>
    bnd (ibin .lss x3 t10_16) fun t11_17 =>
    cnd t11_17
      (R05_checkClasses_J3 x0 x3 H0 H)
      (R05_checkClasses_J2 H0 H) := (LPL_eqm (C := cfg) [3, 5, 6, 8, 10, 11, 13] (tame_block 0 (R05_checkClasses_K1_tame H0)) _ _).trans (by kernel_rfl)
theorem R05_checkClasses_J1_eq (x0 : AV) (H0 H : Hp) : R05_checkClasses_J1 x0 H0 H =
    R05_checkClasses_L1 x0 (.int .i64 0) H0 H := (CXM_eq [3, 5, 6, 8, 10, 11, 13] _ _ _ _).trans (by kernel_rfl)
theorem F_R05_checkClasses_eq (p0 : AV) (H : Hp) : C_R05_checkClasses [p0] H = F_R05_checkClasses p0 H := (callw_cxm (C := cfg) (fn := Tryz.f115) (c := bodyOf Tryz.f115) (n := 37) [3, 5, 6, 8, 10, 11, 13] Tryz.func115 (by kernel_rfl) (by kernel_rfl) [p0] (by kernel_rfl) H).trans (by kernel_rfl)

noncomputable def R05_checkElements_J2 (H0 H : Hp) : Res := CXL cfg (callw cfg) (LPL cfg (cfg.keep 116) 46) (cfg.keep 116) 46 seqL blockL (sub (bodyOf Tryz.f116) [1, 1, 1]) (retL cfg 46 116 Tryz.f116 H0) [] H
noncomputable def R05_checkElements_K1 (H0 : Hp) : KL := seqL (fun k al H => CXL cfg (callw cfg) (LPL cfg (cfg.keep 116) 46) (cfg.keep 116) 46 seqL blockL (sub (bodyOf Tryz.f116) [1, 1, 1]) k (trimL (cfg.keep 116) (sub (bodyOf Tryz.f116) [1, 1, 1]) al) H) (retL cfg 46 116 Tryz.f116 H0)
theorem R05_checkElements_K1_tame (H0 : Hp) : Tame 46 (R05_checkElements_K1 H0) := tame_seq (C := cfg) (kp := cfg.keep 116) (sub (bodyOf Tryz.f116) [1, 1, 1]) (tame_ret 116 Tryz.f116 H0)
noncomputable def R05_checkElements_J4 (x0 x3 : AV) (H0 H : Hp) : Res := CXL cfg (callw cfg) (LPL cfg (cfg.keep 116) 46) (cfg.keep 116) 46 seqL blockL (sub (bodyOf Tryz.f116) [1, 1, 0, 1, 0, 0, 1, 1]) (seqL (fun k al H => LPL cfg (cfg.keep 116) 46 (sub (bodyOf Tryz.f116) [1, 1, 0, 1, 0, 0]) k (trimL (cfg.keep 116) (sub (bodyOf Tryz.f116) [1, 1, 0, 1, 0, 0]) al) H) (blockL 0 (R05_checkElements_K1 H0))) [(0, x0), (3, x3)] H
noncomputable def R05_checkElements_K2 (H0 : Hp) : KL := seqL (fun k al H => CXL cfg (callw cfg) (LPL cfg (cfg.keep 116) 46) (cfg.keep 116) 46 seqL blockL (sub (bodyOf Tryz.f116) [1, 1, 0, 1, 0, 0, 1, 1]) k (trimL (cfg.keep 116) (sub (bodyOf Tryz.f116) [1, 1, 0, 1, 0, 0, 1, 1]) al) H) (seqL (fun k al H => LPL cfg (cfg.keep 116) 46 (sub (bodyOf Tryz.f116) [1, 1, 0, 1, 0, 0]) k (trimL (cfg.keep 116) (sub (bodyOf Tryz.f116) [1, 1, 0, 1, 0, 0]) al) H) (blockL 0 (R05_checkElements_K1 H0)))
theorem R05_checkElements_K2_tame (H0 : Hp) : Tame 46 (R05_checkElements_K2 H0) := tame_seq (C := cfg) (kp := cfg.keep 116) (sub (bodyOf Tryz.f116) [1, 1, 0, 1, 0, 0, 1, 1]) (tame_loop (C := cfg) (kp := cfg.keep 116) (sub (bodyOf Tryz.f116) [1, 1, 0, 1, 0, 0]) (tame_block 0 (R05_checkElements_K1_tame H0)))
noncomputable def R05_checkElements_J7 (x0 x3 x4 : AV) (H0 H : Hp) : Res := CXL cfg (callw cfg) (LPL cfg (cfg.keep 116) 46) (cfg.keep 116) 46 seqL blockL (sub (bodyOf Tryz.f116) [1, 1, 0, 1, 0, 0, 1, 0, 0, 1, 1, 0, 0, 1, 1]) (seqL (fun k al H => LPL cfg (cfg.keep 116) 46 (sub (bodyOf Tryz.f116) [1, 1, 0, 1, 0, 0, 1, 0, 0, 1, 1, 0, 0]) k (trimL (cfg.keep 116) (sub (bodyOf Tryz.f116) [1, 1, 0, 1, 0, 0, 1, 0, 0, 1, 1, 0, 0]) al) H) (blockL 2 (blockL 1 (R05_checkElements_K2 H0)))) [(0, x0), (3, x3), (4, x4)] H
noncomputable def R05_checkElements_J6 (x0 x3 x4 : AV) (H0 H : Hp) : Res := CXL cfg (callw cfg) (LPL cfg (cfg.keep 116) 46) (cfg.keep 116) 46 seqL blockL (sub (bodyOf Tryz.f116) [1, 1, 0, 1, 0, 0, 1, 0, 0, 1, 1, 0, 0, 1]) (seqL (fun k al H => LPL cfg (cfg.keep 116) 46 (sub (bodyOf Tryz.f116) [1, 1, 0, 1, 0, 0, 1, 0, 0, 1, 1, 0, 0]) k (trimL (cfg.keep 116) (sub (bodyOf Tryz.f116) [1, 1, 0, 1, 0, 0, 1, 0, 0, 1, 1, 0, 0]) al) H) (blockL 2 (blockL 1 (R05_checkElements_K2 H0)))) [(0, x0), (3, x3), (4, x4)] H
noncomputable def R05_checkElements_L2 (x0 x3 x4 : AV) (H0 H : Hp) : Res := LPL cfg (cfg.keep 116) 46 (sub (bodyOf Tryz.f116) [1, 1, 0, 1, 0, 0, 1, 0, 0, 1, 1, 0, 0]) (blockL 2 (blockL 1 (R05_checkElements_K2 H0))) [(0, x0), (3, x3), (4, x4)] H
noncomputable def R05_checkElements_J5 (x0 x3 : AV) (H0 H : Hp) : Res := CXL cfg (callw cfg) (LPL cfg (cfg.keep 116) 46) (cfg.keep 116) 46 seqL blockL (sub (bodyOf Tryz.f116) [1, 1, 0, 1, 0, 0, 1, 0, 0, 1]) (blockL 1 (R05_checkElements_K2 H0)) [(0, x0), (3, x3)] H
noncomputable def R05_checkElements_J3 (x0 x3 : AV) (H0 H : Hp) : Res := CXL cfg (callw cfg) (LPL cfg (cfg.keep 116) 46) (cfg.keep 116) 46 seqL blockL (sub (bodyOf Tryz.f116) [1, 1, 0, 1, 0, 0, 1]) (seqL (fun k al H => LPL cfg (cfg.keep 116) 46 (sub (bodyOf Tryz.f116) [1, 1, 0, 1, 0, 0]) k (trimL (cfg.keep 116) (sub (bodyOf Tryz.f116) [1, 1, 0, 1, 0, 0]) al) H) (blockL 0 (R05_checkElements_K1 H0))) [(0, x0), (3, x3)] H
noncomputable def R05_checkElements_L1 (x0 x3 : AV) (H0 H : Hp) : Res := LPL cfg (cfg.keep 116) 46 (sub (bodyOf Tryz.f116) [1, 1, 0, 1, 0, 0]) (blockL 0 (R05_checkElements_K1 H0)) [(0, x0), (3, x3)] H
noncomputable def R05_checkElements_J1 (x0 : AV) (H0 H : Hp) : Res := CXL cfg (callw cfg) (LPL cfg (cfg.keep 116) 46) (cfg.keep 116) 46 seqL blockL (sub (bodyOf Tryz.f116) [1, 1]) (retL cfg 46 116 Tryz.f116 H0) [(0, x0)] H
noncomputable def F_R05_checkElements (p0 : AV) (H : Hp) : Res :=
  bnd (alenD (.slice 116) p0) fun t6_26 =>
  bnd (ibin .gtr t6_26 (.int .i64 64)) fun t7_27 =>
  cnd t7_27
    (some ((.int .i64 3), H))
    (R05_checkElements_J1 p0 H H)
theorem R05_checkElements_J2_eq (H0 H : Hp) : R05_checkElements_J2 H0 H =
    some ((.int .i64 0), H) := (CXM_eq [3, 5, 6, 8, 10, 11, 13] _ _ _ _).trans (by kernel_rfl)
theorem R05_checkElements_J4_eq (x0 x3 : AV) (H0 H : Hp) : R05_checkElements_J4 x0 x3 H0 H =
    bnd (ibin .add x3 (.int .i64 1)) fun t13_1 =>
    R05_checkElements_L1 x0 t13_1 H0 H := (CXM_eq [3, 5, 6, 8, 10, 11, 13] _ _ _ _).trans (by kernel_rfl)
theorem R05_checkElements_J7_eq (x0 x3 x4 : AV) (H0 H : Hp) : R05_checkElements_J7 x0 x3 x4 H0 H =
    bnd (ibin .add x4 (.int .i64 1)) fun t34_2 =>
    R05_checkElements_L2 x0 x3 t34_2 H0 H := (CXM_eq [3, 5, 6, 8, 10, 11, 13] _ _ _ _).trans (by kernel_rfl)
theorem R05_checkElements_J6_eq (x0 x3 x4 : AV) (H0 H : Hp) : R05_checkElements_J6 x0 x3 x4 H0 H =
    bnd (aindexS 2 x0 x4) fun t37_3 =>
    bnd (afield 0 t37_3) fun t38_4 =>
    bnd (aload false 1 t38_4 H) fun t39_5 =>
    bnd (aindexS 2 x0 x3) fun t42_6 =>
    bnd (afield 0 t42_6) fun t43_7 =>
    bnd (aload false 1 t43_7 H) fun t44_8 =>
    bnd (sbin .eql t39_5 t44_8) fun t45_9 =>
    cnd t45_9
      (some ((.int .i64 6), H))
      (R05_checkElements_J7 x0 x3 x4 H0 H) := (CXM_eq [3, 5, 6, 8, 10, 11, 13] _ _ _ _).trans (by kernel_rfl)
theorem R05_checkElements_L2_eq (x0 x3 x4 : AV) (H0 H : Hp) : R05_checkElements_L2 x0 x3 x4 H0 H =
    bnd (ibin .lss x4 x3) fun t32_10 =>
    cnd t32_10
      (R05_checkElements_J6 x0 x3 x4 H0 H)
      (R05_checkElements_J4 x0 x3 H0 H) := (LPL_eqm (C := cfg) [3, 5, 6, 8, 10, 11, 13] (tame_block 2 (tame_block 1 (R05_checkElements_K2_tame H0))) _ _).trans (by kernel_rfl)
theorem R05_checkElements_J5_eq (x0 x3 : AV) (H0 H : Hp) : R05_checkElements_J5 x0 x3 H0 H =
    R05_checkElements_L2 x0 x3 (.int .i64 0) H0 H := (CXM_eq [3, 5, 6, 8, 10, 11, 13] _ _ _ _).trans (by kernel_rfl)
theorem R05_checkElements_J3_eq (x0 x3 : AV) (H0 H : Hp) : R05_checkElements_J3 x0 x3 H0 H =
    bnd (aindexS 2 x0 x3) fun t16_11 =>
    bnd (afield 0 t16_11) fun t17_12 =>
    bnd (aload false 1 t17_12 H) fun t18_13 =>
    bnd (alenD .string t18_13) fun t19_14 =>
    bnd (ibin .neq t19_14 (.int .i64 2)) fun t20_15 =>
    bnd (gdv t20_15 false (.tuple []) (some x0)) fun t22_16 =>
    bnd (gdv t20_15 false (.tuple []) (some x3)) fun t23_17 =>
    bnd (gdv t20_15 false (.tuple []) (aindexS 2 t22_16 t23_17)) fun t24_18 =>
    bnd (gdv t20_15 false (.tuple []) (afield 1 t24_18)) fun t25_19 =>
    bnd (gdv t20_15 false (.tuple []) (aload false 1 t25_19 H)) fun t26_20 =>
    bnd (gdv t20_15 false ((.tuple []), H) (flatC C_R05_light [t26_20] H)) fun r27_21 =>
    bnd (gdv t20_15 false (.tuple []) (aun .not r27_21.1)) fun t28_22 =>
    bnd (apick t20_15 (.bool true) t28_22) fun t29_23 =>
    cnd t29_23
      (some ((.int .i64 2), r27_21.2))
      (R05_checkElements_J5 x0 x3 H0 r27_21.2) := (CXM_eq [3, 5, 6, 8, 10, 11, 13] _ _ _ _).trans (by kernel_rfl)
theorem R05_checkElements_L1_eq (x0 x3 : AV) (H0 H : Hp) : R05_checkElements_L1 x0 x3 H0 H =
    bnd (alenD (.slice 116) x0) fun t10_24 =>
    bnd (ibin .lss x3 t10_24) fun t11_25 =>
    cnd t11_25
      (R05_checkElements_J3 x0 x3 H0 H)
      (R05_checkElements_J2 H0 H) := (LPL_eqm (C := cfg) [3, 5, 6, 8, 10, 11, 13] (tame_block 0 (R05_checkElements_K1_tame H0)) _ _).trans (by kernel_rfl)
theorem R05_checkElements_J1_eq (x0 : AV) (H0 H : Hp) : R05_checkElements_J1 x0 H0 H =
    R05_checkElements_L1 x0 (.int .i64 0) H0 H := (CXM_eq [3, 5, 6, 8, 10, 11, 13] _ _ _ _).trans (by kernel_rfl)
theorem F_R05_checkElements_eq (p0 : AV) (H : Hp) : C_R05_checkElements [p0] H = F_R05_checkElements p0 H := (callw_cxm (C := cfg) (fn := Tryz.f116) (c := bodyOf Tryz.f116) (n := 46) [3, 5, 6, 8, 10, 11, 13] Tryz.func116 (by kernel_rfl) (by kernel_rfl) [p0] (by kernel_rfl) H).trans (by kernel_rfl)

end Go.Am
