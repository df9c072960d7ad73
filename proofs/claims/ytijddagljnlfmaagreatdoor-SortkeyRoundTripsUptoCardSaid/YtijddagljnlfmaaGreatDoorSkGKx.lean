/-
  The functions of the translation over the abstract machine, a further part: written by program (wip/gen.py).
-/
import Derived.Test.YtijddagljnlfmaaGreatDoorSkGx
namespace Go.Am
open Go.Proofs
set_option maxRecDepth 100000
set_option linter.unusedVariables false
set_option linter.unusedSimpArgs false

/-! ### texttoolslaw20_SortkeyChecks -/
noncomputable def F_texttoolslaw20_SortkeyChecks (p0 : AV) (H : Hp) : Res :=
  bnd (abox p0 H) fun r1_1 =>
  frzK r1_1.1 r1_1.2 fun z1_2 z1_2H =>
  bnd (aload true 5 z1_2 z1_2H) fun t3_3 =>
  bnd (flatC C_sortkey_Check [t3_3] z1_2H) fun r4_4 =>
  bnd (aload true 5 z1_2 r4_4.2) fun t5_5 =>
  bnd (flatC C_texttoolsref20_Check [t5_5] r4_4.2) fun r6_6 =>
  bnd (ibin .eql r4_4.1 r6_6.1) fun t7_7 =>
  bnd (gdv t7_7 true (.tuple []) (aload true 5 z1_2 r6_6.2)) fun t9_8 =>
  bnd (gdv t7_7 true ((.tuple []), r6_6.2) (C_sortkey_Print [t9_8] r6_6.2)) fun r10_9 =>
  bnd (gdv t7_7 true (.tuple []) (aloadv true 5 z1_2)) fun t11_10 =>
  bnd (gdv t7_7 true ((.tuple []), r10_9.2) (C_texttoolsref20_Print [t11_10] r10_9.2)) fun r12_11 =>
  bnd (gdv t7_7 true ((.tuple []), r12_11.2) (flatC C_texttoolsref03_SameTexts [r10_9.1, r12_11.1] r12_11.2)) fun r13_12 =>
  bnd (apick t7_7 r13_12.1 (.bool false)) fun t14_13 =>
  bnd (gdv t14_13 true ((.tuple []), r13_12.2) (flatC C_texttoolslaw20_awake [] r13_12.2)) fun r16_14 =>
  bnd (apick t14_13 r16_14.1 (.bool false)) fun t17_15 =>
  some (t17_15, r16_14.2)
theorem F_texttoolslaw20_SortkeyChecks_eq (p0 : AV) (H : Hp) : C_texttoolslaw20_SortkeyChecks [p0] H = F_texttoolslaw20_SortkeyChecks p0 H := (callw_cxm (C := cfg) (fn := Tryz.f9) (c := bodyOf Tryz.f9) (n := 18) [] Tryz.func9 (by kernel_rfl) (by kernel_rfl) [p0] (by kernel_rfl) H).trans (by kernel_rfl)

/-! ### texttoolsref03_SameTexts -/
noncomputable def texttoolsref03_SameTexts_J2 (H0 H : Hp) : Res := CXL cfg (callw cfg) (LPL cfg (cfg.keep 14) 26) (cfg.keep 14) 26 seqL blockL (sub (bodyOf Tryz.f14) [1, 1, 1]) (retL cfg 26 14 Tryz.f14 H0) [] H
noncomputable def texttoolsref03_SameTexts_K1 (H0 : Hp) : KL := seqL (fun k al H => CXL cfg (callw cfg) (LPL cfg (cfg.keep 14) 26) (cfg.keep 14) 26 seqL blockL (sub (bodyOf Tryz.f14) [1, 1, 1]) k (trimL (cfg.keep 14) (sub (bodyOf Tryz.f14) [1, 1, 1]) al) H) (retL cfg 26 14 Tryz.f14 H0)
theorem texttoolsref03_SameTexts_K1_tame (H0 : Hp) : Tame 26 (texttoolsref03_SameTexts_K1 H0) := tame_seq (C := cfg) (kp := cfg.keep 14) (sub (bodyOf Tryz.f14) [1, 1, 1]) (tame_ret 14 Tryz.f14 H0)
noncomputable def texttoolsref03_SameTexts_J4 (x0 x1 x5 : AV) (H0 H : Hp) : Res := CXL cfg (callw cfg) (LPL cfg (cfg.keep 14) 26) (cfg.keep 14) 26 seqL blockL (sub (bodyOf Tryz.f14) [1, 1, 0, 1, 0, 0, 1, 1]) (seqL (fun k al H => LPL cfg (cfg.keep 14) 26 (sub (bodyOf Tryz.f14) [1, 1, 0, 1, 0, 0]) k (trimL (cfg.keep 14) (sub (bodyOf Tryz.f14) [1, 1, 0, 1, 0, 0]) al) H) (blockL 0 (texttoolsref03_SameTexts_K1 H0))) [(0, x0), (1, x1), (5, x5)] H
noncomputable def texttoolsref03_SameTexts_J3 (x0 x1 x5 : AV) (H0 H : Hp) : Res := CXL cfg (callw cfg) (LPL cfg (cfg.keep 14) 26) (cfg.keep 14) 26 seqL blockL (sub (bodyOf Tryz.f14) [1, 1, 0, 1, 0, 0, 1]) (seqL (fun k al H => LPL cfg (cfg.keep 14) 26 (sub (bodyOf Tryz.f14) [1, 1, 0, 1, 0, 0]) k (trimL (cfg.keep 14) (sub (bodyOf Tryz.f14) [1, 1, 0, 1, 0, 0]) al) H) (blockL 0 (texttoolsref03_SameTexts_K1 H0))) [(0, x0), (1, x1), (5, x5)] H
noncomputable def texttoolsref03_SameTexts_L1 (x0 x1 x5 : AV) (H0 H : Hp) : Res := LPL cfg (cfg.keep 14) 26 (sub (bodyOf Tryz.f14) [1, 1, 0, 1, 0, 0]) (blockL 0 (texttoolsref03_SameTexts_K1 H0)) [(0, x0), (1, x1), (5, x5)] H
noncomputable def texttoolsref03_SameTexts_J1 (x0 x1 : AV) (H0 H : Hp) : Res := CXL cfg (callw cfg) (LPL cfg (cfg.keep 14) 26) (cfg.keep 14) 26 seqL blockL (sub (bodyOf Tryz.f14) [1, 1]) (retL cfg 26 14 Tryz.f14 H0) [(0, x0), (1, x1)] H
noncomputable def F_texttoolsref03_SameTexts (p0 p1 : AV) (H : Hp) : Res :=
  bnd (alenD (.slice 9) p0) fun t7_9 =>
  bnd (alenD (.slice 9) p1) fun t9_10 =>
  bnd (ibin .neq t7_9 t9_10) fun t10_11 =>
  cnd t10_11
    (some ((.bool false), H))
    (texttoolsref03_SameTexts_J1 p0 p1 H H)
theorem texttoolsref03_SameTexts_J2_eq (H0 H : Hp) : texttoolsref03_SameTexts_J2 H0 H =
    some ((.bool true), H) := (CXM_eq [3, 5, 6, 8] _ _ _ _).trans (by kernel_rfl)
theorem texttoolsref03_SameTexts_J4_eq (x0 x1 x5 : AV) (H0 H : Hp) : texttoolsref03_SameTexts_J4 x0 x1 x5 H0 H =
    bnd (ibin .add x5 (.int .i64 1)) fun t16_1 =>
    texttoolsref03_SameTexts_L1 x0 x1 t16_1 H0 H := (CXM_eq [3, 5, 6, 8] _ _ _ _).trans (by kernel_rfl)
theorem texttoolsref03_SameTexts_J3_eq (x0 x1 x5 : AV) (H0 H : Hp) : texttoolsref03_SameTexts_J3 x0 x1 x5 H0 H =
    bnd (aindexS 1 x0 x5) fun t19_2 =>
    bnd (aload false 1 t19_2 H) fun t20_3 =>
    bnd (aindexS 1 x1 x5) fun t23_4 =>
    bnd (aload false 1 t23_4 H) fun t24_5 =>
    bnd (sbin .neq t20_3 t24_5) fun t25_6 =>
    cnd t25_6
      (some ((.bool false), H))
      (texttoolsref03_SameTexts_J4 x0 x1 x5 H0 H) := (CXM_eq [3, 5, 6, 8] _ _ _ _).trans (by kernel_rfl)
theorem texttoolsref03_SameTexts_L1_eq (x0 x1 x5 : AV) (H0 H : Hp) : texttoolsref03_SameTexts_L1 x0 x1 x5 H0 H =
    bnd (alenD (.slice 9) x0) fun t13_7 =>
    bnd (ibin .lss x5 t13_7) fun t14_8 =>
    cnd t14_8
      (texttoolsref03_SameTexts_J3 x0 x1 x5 H0 H)
      (texttoolsref03_SameTexts_J2 H0 H) := (LPL_eqm (C := cfg) [3, 5, 6, 8] (tame_block 0 (texttoolsref03_SameTexts_K1_tame H0)) _ _).trans (by kernel_rfl)
theorem texttoolsref03_SameTexts_J1_eq (x0 x1 : AV) (H0 H : Hp) : texttoolsref03_SameTexts_J1 x0 x1 H0 H =
    texttoolsref03_SameTexts_L1 x0 x1 (.int .i64 0) H0 H := (CXM_eq [3, 5, 6, 8] _ _ _ _).trans (by kernel_rfl)
theorem F_texttoolsref03_SameTexts_eq (p0 p1 : AV) (H : Hp) : C_texttoolsref03_SameTexts [p0, p1] H = F_texttoolsref03_SameTexts p0 p1 H := (callw_cxm (C := cfg) (fn := Tryz.f14) (c := bodyOf Tryz.f14) (n := 26) [3, 5, 6, 8] Tryz.func14 (by kernel_rfl) (by kernel_rfl) [p0, p1] (by kernel_rfl) H).trans (by kernel_rfl)

/-! ### sortkey_Check -/
noncomputable def sortkey_Check_J3 (H0 H : Hp) : Res := CXL cfg (callw cfg) (LPL cfg (cfg.keep 23) 78) (cfg.keep 23) 78 seqL blockL (sub (bodyOf Tryz.f23) [1, 1, 1, 1]) (retL cfg 78 23 Tryz.f23 H0) [] H
noncomputable def sortkey_Check_K1 (H0 : Hp) : KL := seqL (fun k al H => CXL cfg (callw cfg) (LPL cfg (cfg.keep 23) 78) (cfg.keep 23) 78 seqL blockL (sub (bodyOf Tryz.f23) [1, 1, 1, 1]) k (trimL (cfg.keep 23) (sub (bodyOf Tryz.f23) [1, 1, 1, 1]) al) H) (retL cfg 78 23 Tryz.f23 H0)
theorem sortkey_Check_K1_tame (H0 : Hp) : Tame 78 (sortkey_Check_K1 H0) := tame_seq (C := cfg) (kp := cfg.keep 23) (sub (bodyOf Tryz.f23) [1, 1, 1, 1]) (tame_ret 23 Tryz.f23 H0)
noncomputable def sortkey_Check_J5 (x33 x34 x35 : AV) (H0 H : Hp) : Res := CXL cfg (callw cfg) (LPL cfg (cfg.keep 23) 78) (cfg.keep 23) 78 seqL blockL (sub (bodyOf Tryz.f23) [1, 1, 1, 0, 1, 0, 0, 1, 1, 1]) (seqL (fun k al H => LPL cfg (cfg.keep 23) 78 (sub (bodyOf Tryz.f23) [1, 1, 1, 0, 1, 0, 0]) k (trimL (cfg.keep 23) (sub (bodyOf Tryz.f23) [1, 1, 1, 0, 1, 0, 0]) al) H) (blockL 0 (sortkey_Check_K1 H0))) [(33, x33), (34, x34), (35, x35)] H
noncomputable def sortkey_Check_J4 (x33 x34 x35 x36 : AV) (H0 H : Hp) : Res := CXL cfg (callw cfg) (LPL cfg (cfg.keep 23) 78) (cfg.keep 23) 78 seqL blockL (sub (bodyOf Tryz.f23) [1, 1, 1, 0, 1, 0, 0, 1, 1]) (seqL (fun k al H => LPL cfg (cfg.keep 23) 78 (sub (bodyOf Tryz.f23) [1, 1, 1, 0, 1, 0, 0]) k (trimL (cfg.keep 23) (sub (bodyOf Tryz.f23) [1, 1, 1, 0, 1, 0, 0]) al) H) (blockL 0 (sortkey_Check_K1 H0))) [(33, x33), (34, x34), (35, x35), (36, x36)] H
noncomputable def sortkey_Check_L1 (x33 x34 x35 : AV) (H0 H : Hp) : Res := LPL cfg (cfg.keep 23) 78 (sub (bodyOf Tryz.f23) [1, 1, 1, 0, 1, 0, 0]) (blockL 0 (sortkey_Check_K1 H0)) [(33, x33), (34, x34), (35, x35)] H
noncomputable def sortkey_Check_J2 (x1 : AV) (H0 H : Hp) : Res := CXL cfg (callw cfg) (LPL cfg (cfg.keep 23) 78) (cfg.keep 23) 78 seqL blockL (sub (bodyOf Tryz.f23) [1, 1, 1]) (retL cfg 78 23 Tryz.f23 H0) [(1, x1)] H
noncomputable def sortkey_Check_J1 (x1 : AV) (H0 H : Hp) : Res := CXL cfg (callw cfg) (LPL cfg (cfg.keep 23) 78) (cfg.keep 23) 78 seqL blockL (sub (bodyOf Tryz.f23) [1, 1]) (retL cfg 78 23 Tryz.f23 H0) [(1, x1)] H
noncomputable def F_sortkey_Check (p0 : AV) (H : Hp) : Res :=
  bnd (abox p0 H) fun r1_1 =>
  bnd (afield 0 r1_1.1) fun t5_62 =>
  bnd (aload false 1 t5_62 r1_1.2) fun t6_63 =>
  bnd (alenD (.slice 34) t6_63) fun t7_64 =>
  bnd (ibin .gtr t7_64 (.int .i64 8)) fun t8_65 =>
  cnd t8_65
    (some ((.int .i64 3), r1_1.2))
    (sortkey_Check_J1 r1_1.1 H r1_1.2)
theorem sortkey_Check_J3_eq (H0 H : Hp) : sortkey_Check_J3 H0 H =
    some ((.int .i64 0), H) := (CXM_eq [3, 5, 7, 10, 11] _ _ _ _).trans (by kernel_rfl)
theorem sortkey_Check_J5_eq (x33 x34 x35 : AV) (H0 H : Hp) : sortkey_Check_J5 x33 x34 x35 H0 H =
    bnd (ibin .add x35 (.int .i64 1)) fun t77_6 =>
    sortkey_Check_L1 x33 x34 t77_6 H0 H := (CXM_eq [3, 5, 7, 10, 11] _ _ _ _).trans (by kernel_rfl)
theorem sortkey_Check_J4_eq (x33 x34 x35 x36 : AV) (H0 H : Hp) : sortkey_Check_J4 x33 x34 x35 x36 H0 H =
    bnd (aindexS 5 x33 x35) fun t37_7 =>
    bnd (aload true 5 t37_7 H) fun t38_8 =>
    bnd (some ((.ptr H.length 0), H ++ [.cells [(.int .i64 0), (.int .i64 0), (.int .i64 0), (.int .i64 0), (.int .i64 0)]])) fun r4_9 =>
    bnd (astoreU 5 r4_9.1 t38_8 r4_9.2) fun r_10 =>
    bnd (afield 0 r4_9.1) fun t39_11 =>
    bnd (aload false 1 t39_11 r_10.2) fun t40_12 =>
    bnd (ibin .lss t40_12 (.int .i64 1)) fun t41_13 =>
    bnd (gdv t41_13 false (.tuple []) (afield 1 r4_9.1)) fun t43_14 =>
    bnd (gdv t41_13 false (.tuple []) (aload false 1 t43_14 r_10.2)) fun t44_15 =>
    bnd (gdv t41_13 false (.tuple []) (ibin .lss t44_15 (.int .i64 1))) fun t45_16 =>
    bnd (apick t41_13 (.bool true) t45_16) fun t46_17 =>
    bnd (gdv t46_17 false (.tuple []) (afield 2 r4_9.1)) fun t48_18 =>
    bnd (gdv t46_17 false (.tuple []) (aload false 1 t48_18 r_10.2)) fun t49_19 =>
    bnd (gdv t46_17 false (.tuple []) (ibin .lss t49_19 (.int .i64 0))) fun t50_20 =>
    bnd (apick t46_17 (.bool true) t50_20) fun t51_21 =>
    bnd (gdv t51_21 false (.tuple []) (afield 3 r4_9.1)) fun t53_22 =>
    bnd (gdv t51_21 false (.tuple []) (aload false 1 t53_22 r_10.2)) fun t54_23 =>
    bnd (gdv t51_21 false (.tuple []) (ibin .lss t54_23 (.int .i64 0))) fun t55_24 =>
    bnd (apick t51_21 (.bool true) t55_24) fun t56_25 =>
    bnd (gdv t56_25 false (.tuple []) (afield 2 r4_9.1)) fun t58_26 =>
    bnd (gdv t56_25 false (.tuple []) (aload false 1 t58_26 r_10.2)) fun t59_27 =>
    bnd (gdv t56_25 false (.tuple []) (ibin .eql t59_27 (.int .i64 0))) fun t60_28 =>
    bnd (gdv t56_25 false (.tuple []) (some t60_28)) fun t61_29 =>
    bnd (gdv t61_29 true (.tuple []) (afield 3 r4_9.1)) fun t62_30 =>
    bnd (gdv t61_29 true (.tuple []) (aload false 1 t62_30 r_10.2)) fun t63_31 =>
    bnd (gdv t61_29 true (.tuple []) (ibin .neq t63_31 (.int .i64 0))) fun t64_32 =>
    bnd (gdv t56_25 false (.tuple []) (apick t61_29 t64_32 (.bool false))) fun t65_33 =>
    bnd (apick t56_25 (.bool true) t65_33) fun t66_34 =>
    bnd (gdv t66_34 false (.tuple []) (afield 4 r4_9.1)) fun t68_35 =>
    bnd (gdv t66_34 false (.tuple []) (aload false 1 t68_35 r_10.2)) fun t69_36 =>
    bnd (gdv t66_34 false (.tuple []) (ibin .lss t69_36 (.int .i64 0))) fun t70_37 =>
    bnd (apick t66_34 (.bool true) t70_37) fun t71_38 =>
    bnd (gdv t71_38 false (.tuple []) (afield 4 r4_9.1)) fun t73_39 =>
    bnd (gdv t71_38 false (.tuple []) (aload false 1 t73_39 r_10.2)) fun t74_40 =>
    bnd (gdv t71_38 false (.tuple []) (ibin .gtr t74_40 (.int .i64 31))) fun t75_41 =>
    bnd (apick t71_38 (.bool true) t75_41) fun t76_42 =>
    cnd t76_42
      (some ((.int .i64 2), r_10.2))
      (sortkey_Check_J5 x33 x34 x35 H0 r_10.2) := (CXM_eq [3, 5, 7, 10, 11] _ _ _ _).trans (by kernel_rfl)
theorem sortkey_Check_L1_eq (x33 x34 x35 : AV) (H0 H : Hp) : sortkey_Check_L1 x33 x34 x35 H0 H =
    bnd (ibin .lss x35 x34) fun t36_5 =>
    cnd t36_5
      (sortkey_Check_J4 x33 x34 x35 t36_5 H0 H)
      (sortkey_Check_J3 H0 H) := (LPL_eqm (C := cfg) [3, 5, 7, 10, 11] (tame_block 0 (sortkey_Check_K1_tame H0)) _ _).trans (by kernel_rfl)
theorem sortkey_Check_J2_eq (x1 : AV) (H0 H : Hp) : sortkey_Check_J2 x1 H0 H =
    bnd (afield 0 x1) fun t32_2 =>
    bnd (aload false 1 t32_2 H) fun t33_3 =>
    bnd (alenD (.slice 34) t33_3) fun t34_4 =>
    sortkey_Check_L1 t33_3 t34_4 (.int .i64 0) H0 H := (CXM_eq [3, 5, 7, 10, 11] _ _ _ _).trans (by kernel_rfl)
theorem sortkey_Check_J1_eq (x1 : AV) (H0 H : Hp) : sortkey_Check_J1 x1 H0 H =
    bnd (afield 1 x1) fun t9_43 =>
    bnd (aload false 1 t9_43 H) fun t10_44 =>
    bnd (ibin .lss t10_44 (.int .i64 (-1))) fun t11_45 =>
    bnd (gdv t11_45 false (.tuple []) (afield 1 x1)) fun t13_46 =>
    bnd (gdv t11_45 false (.tuple []) (aload false 1 t13_46 H)) fun t14_47 =>
    bnd (gdv t11_45 false (.tuple []) (ibin .gtr t14_47 (.int .i64 255))) fun t15_48 =>
    bnd (apick t11_45 (.bool true) t15_48) fun t16_49 =>
    bnd (gdv t16_49 false (.tuple []) (afield 1 x1)) fun t18_50 =>
    bnd (gdv t16_49 false (.tuple []) (aload false 1 t18_50 H)) fun t19_51 =>
    bnd (gdv t16_49 false (.tuple []) (ibin .eql t19_51 (.int .i64 10))) fun t20_52 =>
    bnd (apick t16_49 (.bool true) t20_52) fun t21_53 =>
    bnd (gdv t21_53 false (.tuple []) (afield 2 x1)) fun t23_54 =>
    bnd (gdv t21_53 false (.tuple []) (aload false 1 t23_54 H)) fun t24_55 =>
    bnd (gdv t21_53 false (.tuple []) (ibin .lss t24_55 (.int .i64 0))) fun t25_56 =>
    bnd (apick t21_53 (.bool true) t25_56) fun t26_57 =>
    bnd (gdv t26_57 false (.tuple []) (afield 2 x1)) fun t28_58 =>
    bnd (gdv t26_57 false (.tuple []) (aload false 1 t28_58 H)) fun t29_59 =>
    bnd (gdv t26_57 false (.tuple []) (ibin .gtr t29_59 (.int .i64 31))) fun t30_60 =>
    bnd (apick t26_57 (.bool true) t30_60) fun t31_61 =>
    cnd t31_61
      (some ((.int .i64 2), H))
      (sortkey_Check_J2 x1 H0 H) := (CXM_eq [3, 5, 7, 10, 11] _ _ _ _).trans (by kernel_rfl)
theorem F_sortkey_Check_eq (p0 : AV) (H : Hp) : C_sortkey_Check [p0] H = F_sortkey_Check p0 H := (callw_cxm (C := cfg) (fn := Tryz.f23) (c := bodyOf Tryz.f23) (n := 78) [3, 5, 7, 10, 11] Tryz.func23 (by kernel_rfl) (by kernel_rfl) [p0] (by kernel_rfl) H).trans (by kernel_rfl)

/-! ### texttoolsref20_Check -/
noncomputable def texttoolsref20_Check_J3 (H0 H : Hp) : Res := CXL cfg (callw cfg) (LPL cfg (cfg.keep 24) 45) (cfg.keep 24) 45 seqL blockL (sub (bodyOf Tryz.f24) [1, 1, 1, 1]) (retL cfg 45 24 Tryz.f24 H0) [] H
noncomputable def texttoolsref20_Check_K1 (H0 : Hp) : KL := seqL (fun k al H => CXL cfg (callw cfg) (LPL cfg (cfg.keep 24) 45) (cfg.keep 24) 45 seqL blockL (sub (bodyOf Tryz.f24) [1, 1, 1, 1]) k (trimL (cfg.keep 24) (sub (bodyOf Tryz.f24) [1, 1, 1, 1]) al) H) (retL cfg 45 24 Tryz.f24 H0)
theorem texttoolsref20_Check_K1_tame (H0 : Hp) : Tame 45 (texttoolsref20_Check_K1 H0) := tame_seq (C := cfg) (kp := cfg.keep 24) (sub (bodyOf Tryz.f24) [1, 1, 1, 1]) (tame_ret 24 Tryz.f24 H0)
noncomputable def texttoolsref20_Check_J5 (x1 x3 : AV) (H0 H : Hp) : Res := CXL cfg (callw cfg) (LPL cfg (cfg.keep 24) 45) (cfg.keep 24) 45 seqL blockL (sub (bodyOf Tryz.f24) [1, 1, 1, 0, 1, 0, 0, 1, 1]) (seqL (fun k al H => LPL cfg (cfg.keep 24) 45 (sub (bodyOf Tryz.f24) [1, 1, 1, 0, 1, 0, 0]) k (trimL (cfg.keep 24) (sub (bodyOf Tryz.f24) [1, 1, 1, 0, 1, 0, 0]) al) H) (blockL 0 (texttoolsref20_Check_K1 H0))) [(1, x1), (3, x3)] H
noncomputable def texttoolsref20_Check_J4 (x1 x3 : AV) (H0 H : Hp) : Res := CXL cfg (callw cfg) (LPL cfg (cfg.keep 24) 45) (cfg.keep 24) 45 seqL blockL (sub (bodyOf Tryz.f24) [1, 1, 1, 0, 1, 0, 0, 1]) (seqL (fun k al H => LPL cfg (cfg.keep 24) 45 (sub (bodyOf Tryz.f24) [1, 1, 1, 0, 1, 0, 0]) k (trimL (cfg.keep 24) (sub (bodyOf Tryz.f24) [1, 1, 1, 0, 1, 0, 0]) al) H) (blockL 0 (texttoolsref20_Check_K1 H0))) [(1, x1), (3, x3)] H
noncomputable def texttoolsref20_Check_L1 (x1 x3 : AV) (H0 H : Hp) : Res := LPL cfg (cfg.keep 24) 45 (sub (bodyOf Tryz.f24) [1, 1, 1, 0, 1, 0, 0]) (blockL 0 (texttoolsref20_Check_K1 H0)) [(1, x1), (3, x3)] H
noncomputable def texttoolsref20_Check_J2 (x1 : AV) (H0 H : Hp) : Res := CXL cfg (callw cfg) (LPL cfg (cfg.keep 24) 45) (cfg.keep 24) 45 seqL blockL (sub (bodyOf Tryz.f24) [1, 1, 1]) (retL cfg 45 24 Tryz.f24 H0) [(1, x1)] H
noncomputable def texttoolsref20_Check_J1 (x1 : AV) (H0 H : Hp) : Res := CXL cfg (callw cfg) (LPL cfg (cfg.keep 24) 45) (cfg.keep 24) 45 seqL blockL (sub (bodyOf Tryz.f24) [1, 1]) (retL cfg 45 24 Tryz.f24 H0) [(1, x1)] H
noncomputable def F_texttoolsref20_Check (p0 : AV) (H : Hp) : Res :=
  bnd (abox p0 H) fun r1_1 =>
  bnd (afield 0 r1_1.1) fun t4_32 =>
  bnd (aload false 1 t4_32 r1_1.2) fun t5_33 =>
  bnd (alenD (.slice 34) t5_33) fun t6_34 =>
  bnd (ibin .gtr t6_34 (.int .i64 8)) fun t7_35 =>
  cnd t7_35
    (some ((.int .i64 3), r1_1.2))
    (texttoolsref20_Check_J1 r1_1.1 H r1_1.2)
theorem texttoolsref20_Check_J3_eq (H0 H : Hp) : texttoolsref20_Check_J3 H0 H =
    some ((.int .i64 0), H) := (CXM_eq [3, 5, 7, 8, 10] _ _ _ _).trans (by kernel_rfl)
theorem texttoolsref20_Check_J5_eq (x1 x3 : AV) (H0 H : Hp) : texttoolsref20_Check_J5 x1 x3 H0 H =
    bnd (ibin .add x3 (.int .i64 1)) fun t37_2 =>
    texttoolsref20_Check_L1 x1 t37_2 H0 H := (CXM_eq [3, 5, 7, 8, 10] _ _ _ _).trans (by kernel_rfl)
theorem texttoolsref20_Check_J4_eq (x1 x3 : AV) (H0 H : Hp) : texttoolsref20_Check_J4 x1 x3 H0 H =
    bnd (afield 0 x1) fun t38_3 =>
    bnd (aload false 1 t38_3 H) fun t39_4 =>
    bnd (aindexS 5 t39_4 x3) fun t41_5 =>
    bnd (aload true 5 t41_5 H) fun t42_6 =>
    bnd (flatC C_texttoolsref20_right [t42_6] H) fun r43_7 =>
    bnd (aun .not r43_7.1) fun t44_8 =>
    cnd t44_8
      (some ((.int .i64 2), r43_7.2))
      (texttoolsref20_Check_J5 x1 x3 H0 r43_7.2) := (CXM_eq [3, 5, 7, 8, 10] _ _ _ _).trans (by kernel_rfl)
theorem texttoolsref20_Check_L1_eq (x1 x3 : AV) (H0 H : Hp) : texttoolsref20_Check_L1 x1 x3 H0 H =
    bnd (afield 0 x1) fun t32_9 =>
    bnd (aload false 1 t32_9 H) fun t33_10 =>
    bnd (alenD (.slice 34) t33_10) fun t34_11 =>
    bnd (ibin .lss x3 t34_11) fun t35_12 =>
    cnd t35_12
      (texttoolsref20_Check_J4 x1 x3 H0 H)
      (texttoolsref20_Check_J3 H0 H) := (LPL_eqm (C := cfg) [3, 5, 7, 8, 10] (tame_block 0 (texttoolsref20_Check_K1_tame H0)) _ _).trans (by kernel_rfl)
theorem texttoolsref20_Check_J2_eq (x1 : AV) (H0 H : Hp) : texttoolsref20_Check_J2 x1 H0 H =
    texttoolsref20_Check_L1 x1 (.int .i64 0) H0 H := (CXM_eq [3, 5, 7, 8, 10] _ _ _ _).trans (by kernel_rfl)
theorem texttoolsref20_Check_J1_eq (x1 : AV) (H0 H : Hp) : texttoolsref20_Check_J1 x1 H0 H =
    bnd (afield 1 x1) fun t8_13 =>
    bnd (aload false 1 t8_13 H) fun t9_14 =>
    bnd (ibin .lss t9_14 (.int .i64 (-1))) fun t10_15 =>
    bnd (gdv t10_15 false (.tuple []) (afield 1 x1)) fun t12_16 =>
    bnd (gdv t10_15 false (.tuple []) (aload false 1 t12_16 H)) fun t13_17 =>
    bnd (gdv t10_15 false (.tuple []) (ibin .gtr t13_17 (.int .i64 255))) fun t14_18 =>
    bnd (apick t10_15 (.bool true) t14_18) fun t15_19 =>
    bnd (gdv t15_19 false (.tuple []) (afield 1 x1)) fun t17_20 =>
    bnd (gdv t15_19 false (.tuple []) (aload false 1 t17_20 H)) fun t18_21 =>
    bnd (gdv t15_19 false (.tuple []) (ibin .eql t18_21 (.int .i64 10))) fun t19_22 =>
    bnd (apick t15_19 (.bool true) t19_22) fun t20_23 =>
    bnd (gdv t20_23 false (.tuple []) (afield 2 x1)) fun t22_24 =>
    bnd (gdv t20_23 false (.tuple []) (aload false 1 t22_24 H)) fun t23_25 =>
    bnd (gdv t20_23 false (.tuple []) (ibin .lss t23_25 (.int .i64 0))) fun t24_26 =>
    bnd (apick t20_23 (.bool true) t24_26) fun t25_27 =>
    bnd (gdv t25_27 false (.tuple []) (afield 2 x1)) fun t27_28 =>
    bnd (gdv t25_27 false (.tuple []) (aload false 1 t27_28 H)) fun t28_29 =>
    bnd (gdv t25_27 false (.tuple []) (ibin .gtr t28_29 (.int .i64 31))) fun t29_30 =>
    bnd (apick t25_27 (.bool true) t29_30) fun t30_31 =>
    cnd t30_31
      (some ((.int .i64 2), H))
      (texttoolsref20_Check_J2 x1 H0 H) := (CXM_eq [3, 5, 7, 8, 10] _ _ _ _).trans (by kernel_rfl)
theorem F_texttoolsref20_Check_eq (p0 : AV) (H : Hp) : C_texttoolsref20_Check [p0] H = F_texttoolsref20_Check p0 H := (callw_cxm (C := cfg) (fn := Tryz.f24) (c := bodyOf Tryz.f24) (n := 45) [3, 5, 7, 8, 10] Tryz.func24 (by kernel_rfl) (by kernel_rfl) [p0] (by kernel_rfl) H).trans (by kernel_rfl)

/-! ### sortkey_Print -/
noncomputable def sortkey_Print_J6 (x3 : AV) (H0 H : Hp) : Res := CXL cfg (callw cfg) (LPL cfg (cfg.keep 25) 54) (cfg.keep 25) 54 seqL blockL (sub (bodyOf Tryz.f25) [1, 1, 1, 1, 1, 1, 1, 1]) (retL cfg 54 25 Tryz.f25 H0) [(3, x3)] H
noncomputable def sortkey_Print_K1 (H0 : Hp) : KL := seqL (fun k al H => CXL cfg (callw cfg) (LPL cfg (cfg.keep 25) 54) (cfg.keep 25) 54 seqL blockL (sub (bodyOf Tryz.f25) [1, 1, 1, 1, 1, 1, 1, 1]) k (trimL (cfg.keep 25) (sub (bodyOf Tryz.f25) [1, 1, 1, 1, 1, 1, 1, 1]) al) H) (retL cfg 54 25 Tryz.f25 H0)
theorem sortkey_Print_K1_tame (H0 : Hp) : Tame 54 (sortkey_Print_K1 H0) := tame_seq (C := cfg) (kp := cfg.keep 25) (sub (bodyOf Tryz.f25) [1, 1, 1, 1, 1, 1, 1, 1]) (tame_ret 25 Tryz.f25 H0)
noncomputable def sortkey_Print_J8 (x3 x41 x42 x43 : AV) (H0 H : Hp) : Res := CXL cfg (callw cfg) (LPL cfg (cfg.keep 25) 54) (cfg.keep 25) 54 seqL blockL (sub (bodyOf Tryz.f25) [1, 1, 1, 1, 1, 1, 1, 0, 1, 0, 0, 1, 1, 1]) (seqL (fun k al H => LPL cfg (cfg.keep 25) 54 (sub (bodyOf Tryz.f25) [1, 1, 1, 1, 1, 1, 1, 0, 1, 0, 0]) k (trimL (cfg.keep 25) (sub (bodyOf Tryz.f25) [1, 1, 1, 1, 1, 1, 1, 0, 1, 0, 0]) al) H) (blockL 0 (sortkey_Print_K1 H0))) [(3, x3), (41, x41), (42, x42), (43, x43)] H
noncomputable def sortkey_Print_J7 (x3 x41 x42 x43 x44 : AV) (H0 H : Hp) : Res := CXL cfg (callw cfg) (LPL cfg (cfg.keep 25) 54) (cfg.keep 25) 54 seqL blockL (sub (bodyOf Tryz.f25) [1, 1, 1, 1, 1, 1, 1, 0, 1, 0, 0, 1, 1]) (seqL (fun k al H => LPL cfg (cfg.keep 25) 54 (sub (bodyOf Tryz.f25) [1, 1, 1, 1, 1, 1, 1, 0, 1, 0, 0]) k (trimL (cfg.keep 25) (sub (bodyOf Tryz.f25) [1, 1, 1, 1, 1, 1, 1, 0, 1, 0, 0]) al) H) (blockL 0 (sortkey_Print_K1 H0))) [(3, x3), (41, x41), (42, x42), (43, x43), (44, x44)] H
noncomputable def sortkey_Print_L1 (x3 x41 x42 x43 : AV) (H0 H : Hp) : Res := LPL cfg (cfg.keep 25) 54 (sub (bodyOf Tryz.f25) [1, 1, 1, 1, 1, 1, 1, 0, 1, 0, 0]) (blockL 0 (sortkey_Print_K1 H0)) [(3, x3), (41, x41), (42, x42), (43, x43)] H
noncomputable def sortkey_Print_J5 (x1 x3 : AV) (H0 H : Hp) : Res := CXL cfg (callw cfg) (LPL cfg (cfg.keep 25) 54) (cfg.keep 25) 54 seqL blockL (sub (bodyOf Tryz.f25) [1, 1, 1, 1, 1, 1, 1]) (retL cfg 54 25 Tryz.f25 H0) [(1, x1), (3, x3)] H
noncomputable def sortkey_Print_J4 (x1 x3 : AV) (H0 H : Hp) : Res := CXL cfg (callw cfg) (LPL cfg (cfg.keep 25) 54) (cfg.keep 25) 54 seqL blockL (sub (bodyOf Tryz.f25) [1, 1, 1, 1, 1, 1]) (retL cfg 54 25 Tryz.f25 H0) [(1, x1), (3, x3)] H
noncomputable def sortkey_Print_J3 (x1 x3 : AV) (H0 H : Hp) : Res := CXL cfg (callw cfg) (LPL cfg (cfg.keep 25) 54) (cfg.keep 25) 54 seqL blockL (sub (bodyOf Tryz.f25) [1, 1, 1, 1, 1]) (retL cfg 54 25 Tryz.f25 H0) [(1, x1), (3, x3)] H
noncomputable def sortkey_Print_J2 (x1 x3 : AV) (H0 H : Hp) : Res := CXL cfg (callw cfg) (LPL cfg (cfg.keep 25) 54) (cfg.keep 25) 54 seqL blockL (sub (bodyOf Tryz.f25) [1, 1, 1, 1]) (retL cfg 54 25 Tryz.f25 H0) [(1, x1), (3, x3)] H
noncomputable def sortkey_Print_J1 (x1 : AV) (H0 H : Hp) : Res := CXL cfg (callw cfg) (LPL cfg (cfg.keep 25) 54) (cfg.keep 25) 54 seqL blockL (sub (bodyOf Tryz.f25) [1, 1]) (retL cfg 54 25 Tryz.f25 H0) [(1, x1)] H
noncomputable def F_sortkey_Print (p0 : AV) (H : Hp) : Res :=
  bnd (abox p0 H) fun r1_1 =>
  bnd (aload true 5 r1_1.1 r1_1.2) fun t6_42 =>
  bnd (flatC C_sortkey_Check [t6_42] r1_1.2) fun r7_43 =>
  bnd (ibin .neq r7_43.1 (.int .i64 0)) fun t8_44 =>
  cnd t8_44
    (leaveP H .nils r7_43.2)
    (sortkey_Print_J1 r1_1.1 H r7_43.2)
theorem sortkey_Print_J6_eq (x3 : AV) (H0 H : Hp) : sortkey_Print_J6 x3 H0 H =
    leaveP H0 x3 H := (CXM_eq [3, 6, 8, 10, 12, 14, 16, 17] _ _ _ _).trans (by kernel_rfl)
theorem sortkey_Print_J8_eq (x3 x41 x42 x43 : AV) (H0 H : Hp) : sortkey_Print_J8 x3 x41 x42 x43 H0 H =
    bnd (ibin .add x43 (.int .i64 1)) fun t52_6 =>
    sortkey_Print_L1 x3 x41 x42 t52_6 H0 H := (CXM_eq [3, 6, 8, 10, 12, 14, 16, 17] _ _ _ _).trans (by kernel_rfl)
theorem sortkey_Print_J7_eq (x3 x41 x42 x43 x44 : AV) (H0 H : Hp) : sortkey_Print_J7 x3 x41 x42 x43 x44 H0 H =
    bnd (aindexS 5 x41 x43) fun t45_7 =>
    bnd (aload true 5 t45_7 H) fun t46_8 =>
    bnd (some ((.ptr H.length 0), H ++ [.cells [(.int .i64 0), (.int .i64 0), (.int .i64 0), (.int .i64 0), (.int .i64 0)]])) fun r5_9 =>
    bnd (astoreU 5 r5_9.1 t46_8 r5_9.2) fun r_10 =>
    bnd (aload true 5 r5_9.1 r_10.2) fun t48_11 =>
    bnd (flatC C_sortkey_keyText [t48_11] r_10.2) fun r49_12 =>
    bnd ((setElems 1 [(0, (.str [45, 107])), (1, r49_12.1)] [(.str []), (.str [])]).map (.vs 1 .clip)) fun t50_13 =>
    bnd (aappE 1 16 x3 t50_13 r49_12.2) fun r51_14 =>
    sortkey_Print_J8 r51_14.1 x41 x42 x43 H0 r51_14.2 := (CXM_eq [3, 6, 8, 10, 12, 14, 16, 17] _ _ _ _).trans (by kernel_rfl)
theorem sortkey_Print_L1_eq (x3 x41 x42 x43 : AV) (H0 H : Hp) : sortkey_Print_L1 x3 x41 x42 x43 H0 H =
    bnd (ibin .lss x43 x42) fun t44_5 =>
    cnd t44_5
      (sortkey_Print_J7 x3 x41 x42 x43 t44_5 H0 H)
      (sortkey_Print_J6 x3 H0 H) := (LPL_eqm (C := cfg) [3, 6, 8, 10, 12, 14, 16, 17] (tame_block 0 (sortkey_Print_K1_tame H0)) _ _).trans (by kernel_rfl)
theorem sortkey_Print_J5_eq (x1 x3 : AV) (H0 H : Hp) : sortkey_Print_J5 x1 x3 H0 H =
    bnd (afield 0 x1) fun t40_2 =>
    bnd (aload false 1 t40_2 H) fun t41_3 =>
    bnd (alenD (.slice 34) t41_3) fun t42_4 =>
    sortkey_Print_L1 x3 t41_3 t42_4 (.int .i64 0) H0 H := (CXM_eq [3, 6, 8, 10, 12, 14, 16, 17] _ _ _ _).trans (by kernel_rfl)
theorem sortkey_Print_J4_eq (x1 x3 : AV) (H0 H : Hp) : sortkey_Print_J4 x1 x3 H0 H =
    bnd (afield 1 x1) fun t29_15 =>
    bnd (aload false 1 t29_15 H) fun t30_16 =>
    bnd (ibin .geq t30_16 (.int .i64 0)) fun t31_17 =>
    cnd t31_17
      (bnd (afield 1 x1) fun t33_18 =>
      bnd (aload false 1 t33_18 H) fun t34_19 =>
      bnd (cvInt .u8 t34_19) fun t35_20 =>
      bnd ((setElems 1 [(0, t35_20)] [(.int .u8 0)]).map (.vs 1 .clip)) fun t36_21 =>
      bnd (cvOfBytes t36_21) fun t37_22 =>
      bnd ((setElems 1 [(0, (.str [45, 116])), (1, t37_22)] [(.str []), (.str [])]).map (.vs 1 .clip)) fun t38_23 =>
      bnd (aappE 1 16 x3 t38_23 H) fun r39_24 =>
      sortkey_Print_J5 x1 r39_24.1 H0 r39_24.2)
      (sortkey_Print_J5 x1 x3 H0 H) := (CXM_eq [3, 6, 8, 10, 12, 14, 16, 17] _ _ _ _).trans (by kernel_rfl)
theorem sortkey_Print_J3_eq (x1 x3 : AV) (H0 H : Hp) : sortkey_Print_J3 x1 x3 H0 H =
    bnd (afield 3 x1) fun t24_25 =>
    bnd (aload false 1 t24_25 H) fun t25_26 =>
    cnd t25_26
      (bnd ((setElems 1 [(0, (.str [45, 117]))] [(.str [])]).map (.vs 1 .clip)) fun t27_27 =>
      bnd (aappE 1 16 x3 t27_27 H) fun r28_28 =>
      sortkey_Print_J4 x1 r28_28.1 H0 r28_28.2)
      (sortkey_Print_J4 x1 x3 H0 H) := (CXM_eq [3, 6, 8, 10, 12, 14, 16, 17] _ _ _ _).trans (by kernel_rfl)
theorem sortkey_Print_J2_eq (x1 x3 : AV) (H0 H : Hp) : sortkey_Print_J2 x1 x3 H0 H =
    bnd (afield 4 x1) fun t19_29 =>
    bnd (aload false 1 t19_29 H) fun t20_30 =>
    cnd t20_30
      (bnd ((setElems 1 [(0, (.str [45, 115]))] [(.str [])]).map (.vs 1 .clip)) fun t22_31 =>
      bnd (aappE 1 16 x3 t22_31 H) fun r23_32 =>
      sortkey_Print_J3 x1 r23_32.1 H0 r23_32.2)
      (sortkey_Print_J3 x1 x3 H0 H) := (CXM_eq [3, 6, 8, 10, 12, 14, 16, 17] _ _ _ _).trans (by kernel_rfl)
theorem sortkey_Print_J1_eq (x1 : AV) (H0 H : Hp) : sortkey_Print_J1 x1 H0 H =
    bnd (afield 2 x1) fun t9_33 =>
    bnd (aload false 1 t9_33 H) fun t10_34 =>
    bnd (ibin .neq t10_34 (.int .i64 0)) fun t11_35 =>
    cnd t11_35
      (bnd (afield 2 x1) fun t13_36 =>
      bnd (aload false 1 t13_36 H) fun t14_37 =>
      bnd (flatC C_sortkey_text [t14_37] H) fun r15_38 =>
      bnd (sbin .add (.str [45]) r15_38.1) fun t16_39 =>
      bnd ((setElems 1 [(0, t16_39)] [(.str [])]).map (.vs 1 .clip)) fun t17_40 =>
      bnd (aappE 1 16 .nils t17_40 r15_38.2) fun r18_41 =>
      sortkey_Print_J2 x1 r18_41.1 H0 r18_41.2)
      (sortkey_Print_J2 x1 .nils H0 H) := (CXM_eq [3, 6, 8, 10, 12, 14, 16, 17] _ _ _ _).trans (by kernel_rfl)
theorem F_sortkey_Print_eq (p0 : AV) (H : Hp) : C_sortkey_Print [p0] H = F_sortkey_Print p0 H := (callw_cxm (C := cfg) (fn := Tryz.f25) (c := bodyOf Tryz.f25) (n := 54) [3, 6, 8, 10, 12, 14, 16, 17] Tryz.func25 (by kernel_rfl) (by kernel_rfl) [p0] (by kernel_rfl) H).trans (by kernel_rfl)

/-! ### texttoolsref20_Print -/
noncomputable def texttoolsref20_Print_J6 (x3 : AV) (H0 H : Hp) : Res := CXL cfg (callw cfg) (LPL cfg (cfg.keep 26) 57) (cfg.keep 26) 57 seqL blockL (sub (bodyOf Tryz.f26) [1, 1, 1, 1, 1, 1, 1, 1]) (retL cfg 57 26 Tryz.f26 H0) [(3, x3)] H
noncomputable def texttoolsref20_Print_K1 (H0 : Hp) : KL := seqL (fun k al H => CXL cfg (callw cfg) (LPL cfg (cfg.keep 26) 57) (cfg.keep 26) 57 seqL blockL (sub (bodyOf Tryz.f26) [1, 1, 1, 1, 1, 1, 1, 1]) k (trimL (cfg.keep 26) (sub (bodyOf Tryz.f26) [1, 1, 1, 1, 1, 1, 1, 1]) al) H) (retL cfg 57 26 Tryz.f26 H0)
theorem texttoolsref20_Print_K1_tame (H0 : Hp) : Tame 57 (texttoolsref20_Print_K1 H0) := tame_seq (C := cfg) (kp := cfg.keep 26) (sub (bodyOf Tryz.f26) [1, 1, 1, 1, 1, 1, 1, 1]) (tame_ret 26 Tryz.f26 H0)
noncomputable def texttoolsref20_Print_J8 (x1 x3 x4 : AV) (H0 H : Hp) : Res := CXL cfg (callw cfg) (LPL cfg (cfg.keep 26) 57) (cfg.keep 26) 57 seqL blockL (sub (bodyOf Tryz.f26) [1, 1, 1, 1, 1, 1, 1, 0, 1, 0, 0, 1, 1]) (seqL (fun k al H => LPL cfg (cfg.keep 26) 57 (sub (bodyOf Tryz.f26) [1, 1, 1, 1, 1, 1, 1, 0, 1, 0, 0]) k (trimL (cfg.keep 26) (sub (bodyOf Tryz.f26) [1, 1, 1, 1, 1, 1, 1, 0, 1, 0, 0]) al) H) (blockL 0 (texttoolsref20_Print_K1 H0))) [(1, x1), (3, x3), (4, x4)] H
noncomputable def texttoolsref20_Print_J7 (x1 x3 x4 : AV) (H0 H : Hp) : Res := CXL cfg (callw cfg) (LPL cfg (cfg.keep 26) 57) (cfg.keep 26) 57 seqL blockL (sub (bodyOf Tryz.f26) [1, 1, 1, 1, 1, 1, 1, 0, 1, 0, 0, 1]) (seqL (fun k al H => LPL cfg (cfg.keep 26) 57 (sub (bodyOf Tryz.f26) [1, 1, 1, 1, 1, 1, 1, 0, 1, 0, 0]) k (trimL (cfg.keep 26) (sub (bodyOf Tryz.f26) [1, 1, 1, 1, 1, 1, 1, 0, 1, 0, 0]) al) H) (blockL 0 (texttoolsref20_Print_K1 H0))) [(1, x1), (3, x3), (4, x4)] H
noncomputable def texttoolsref20_Print_L1 (x1 x3 x4 : AV) (H0 H : Hp) : Res := LPL cfg (cfg.keep 26) 57 (sub (bodyOf Tryz.f26) [1, 1, 1, 1, 1, 1, 1, 0, 1, 0, 0]) (blockL 0 (texttoolsref20_Print_K1 H0)) [(1, x1), (3, x3), (4, x4)] H
noncomputable def texttoolsref20_Print_J5 (x1 x3 : AV) (H0 H : Hp) : Res := CXL cfg (callw cfg) (LPL cfg (cfg.keep 26) 57) (cfg.keep 26) 57 seqL blockL (sub (bodyOf Tryz.f26) [1, 1, 1, 1, 1, 1, 1]) (retL cfg 57 26 Tryz.f26 H0) [(1, x1), (3, x3)] H
noncomputable def texttoolsref20_Print_J4 (x1 x3 : AV) (H0 H : Hp) : Res := CXL cfg (callw cfg) (LPL cfg (cfg.keep 26) 57) (cfg.keep 26) 57 seqL blockL (sub (bodyOf Tryz.f26) [1, 1, 1, 1, 1, 1]) (retL cfg 57 26 Tryz.f26 H0) [(1, x1), (3, x3)] H
noncomputable def texttoolsref20_Print_J3 (x1 x3 : AV) (H0 H : Hp) : Res := CXL cfg (callw cfg) (LPL cfg (cfg.keep 26) 57) (cfg.keep 26) 57 seqL blockL (sub (bodyOf Tryz.f26) [1, 1, 1, 1, 1]) (retL cfg 57 26 Tryz.f26 H0) [(1, x1), (3, x3)] H
noncomputable def texttoolsref20_Print_J2 (x1 x3 : AV) (H0 H : Hp) : Res := CXL cfg (callw cfg) (LPL cfg (cfg.keep 26) 57) (cfg.keep 26) 57 seqL blockL (sub (bodyOf Tryz.f26) [1, 1, 1, 1]) (retL cfg 57 26 Tryz.f26 H0) [(1, x1), (3, x3)] H
noncomputable def texttoolsref20_Print_J1 (x1 x3 : AV) (H0 H : Hp) : Res := CXL cfg (callw cfg) (LPL cfg (cfg.keep 26) 57) (cfg.keep 26) 57 seqL blockL (sub (bodyOf Tryz.f26) [1, 1, 1]) (retL cfg 57 26 Tryz.f26 H0) [(1, x1), (3, x3)] H
noncomputable def F_texttoolsref20_Print (p0 : AV) (H : Hp) : Res :=
  bnd (abox p0 H) fun r1_1 =>
  bnd (aload true 5 r1_1.1 r1_1.2) fun t5_41 =>
  bnd (flatC C_texttoolsref20_Check [t5_41] r1_1.2) fun r6_42 =>
  bnd (ibin .neq r6_42.1 (.int .i64 0)) fun t7_43 =>
  cnd t7_43
    (leaveP H .nils r6_42.2)
    (texttoolsref20_Print_J1 r1_1.1 .nils H r6_42.2)
theorem texttoolsref20_Print_J6_eq (x3 : AV) (H0 H : Hp) : texttoolsref20_Print_J6 x3 H0 H =
    leaveP H0 x3 H := (CXM_eq [4, 6, 8, 10, 12, 14, 15, 16] _ _ _ _).trans (by kernel_rfl)
theorem texttoolsref20_Print_J8_eq (x1 x3 x4 : AV) (H0 H : Hp) : texttoolsref20_Print_J8 x1 x3 x4 H0 H =
    bnd (ibin .add x4 (.int .i64 1)) fun t46_2 =>
    texttoolsref20_Print_L1 x1 x3 t46_2 H0 H := (CXM_eq [4, 6, 8, 10, 12, 14, 15, 16] _ _ _ _).trans (by kernel_rfl)
theorem texttoolsref20_Print_J7_eq (x1 x3 x4 : AV) (H0 H : Hp) : texttoolsref20_Print_J7 x1 x3 x4 H0 H =
    bnd (afield 0 x1) fun t48_3 =>
    bnd (aload false 1 t48_3 H) fun t49_4 =>
    bnd (aindexS 5 t49_4 x4) fun t51_5 =>
    bnd (aload true 5 t51_5 H) fun t52_6 =>
    bnd (flatC C_texttoolsref20_text [t52_6] H) fun r53_7 =>
    bnd ((setElems 1 [(0, (.str [45, 107])), (1, r53_7.1)] [(.str []), (.str [])]).map (.vs 1 .clip)) fun t54_8 =>
    bnd (aappE 1 16 x3 t54_8 r53_7.2) fun r55_9 =>
    texttoolsref20_Print_J8 x1 r55_9.1 x4 H0 r55_9.2 := (CXM_eq [4, 6, 8, 10, 12, 14, 15, 16] _ _ _ _).trans (by kernel_rfl)
theorem texttoolsref20_Print_L1_eq (x1 x3 x4 : AV) (H0 H : Hp) : texttoolsref20_Print_L1 x1 x3 x4 H0 H =
    bnd (afield 0 x1) fun t41_10 =>
    bnd (aload false 1 t41_10 H) fun t42_11 =>
    bnd (alenD (.slice 34) t42_11) fun t43_12 =>
    bnd (ibin .lss x4 t43_12) fun t44_13 =>
    cnd t44_13
      (texttoolsref20_Print_J7 x1 x3 x4 H0 H)
      (texttoolsref20_Print_J6 x3 H0 H) := (LPL_eqm (C := cfg) [4, 6, 8, 10, 12, 14, 15, 16] (tame_block 0 (texttoolsref20_Print_K1_tame H0)) _ _).trans (by kernel_rfl)
theorem texttoolsref20_Print_J5_eq (x1 x3 : AV) (H0 H : Hp) : texttoolsref20_Print_J5 x1 x3 H0 H =
    texttoolsref20_Print_L1 x1 x3 (.int .i64 0) H0 H := (CXM_eq [4, 6, 8, 10, 12, 14, 15, 16] _ _ _ _).trans (by kernel_rfl)
theorem texttoolsref20_Print_J4_eq (x1 x3 : AV) (H0 H : Hp) : texttoolsref20_Print_J4 x1 x3 H0 H =
    bnd (afield 1 x1) fun t29_14 =>
    bnd (aload false 1 t29_14 H) fun t30_15 =>
    bnd (ibin .geq t30_15 (.int .i64 0)) fun t31_16 =>
    cnd t31_16
      (bnd (afield 1 x1) fun t33_17 =>
      bnd (aload false 1 t33_17 H) fun t34_18 =>
      bnd (cvInt .u8 t34_18) fun t35_19 =>
      bnd ((setElems 1 [(0, t35_19)] [(.int .u8 0)]).map (.vs 1 .clip)) fun t36_20 =>
      bnd (cvOfBytes t36_20) fun t37_21 =>
      bnd ((setElems 1 [(0, (.str [45, 116])), (1, t37_21)] [(.str []), (.str [])]).map (.vs 1 .clip)) fun t38_22 =>
      bnd (aappE 1 16 x3 t38_22 H) fun r39_23 =>
      texttoolsref20_Print_J5 x1 r39_23.1 H0 r39_23.2)
      (texttoolsref20_Print_J5 x1 x3 H0 H) := (CXM_eq [4, 6, 8, 10, 12, 14, 15, 16] _ _ _ _).trans (by kernel_rfl)
theorem texttoolsref20_Print_J3_eq (x1 x3 : AV) (H0 H : Hp) : texttoolsref20_Print_J3 x1 x3 H0 H =
    bnd (afield 3 x1) fun t24_24 =>
    bnd (aload false 1 t24_24 H) fun t25_25 =>
    cnd t25_25
      (bnd ((setElems 1 [(0, (.str [45, 117]))] [(.str [])]).map (.vs 1 .clip)) fun t27_26 =>
      bnd (aappE 1 16 x3 t27_26 H) fun r28_27 =>
      texttoolsref20_Print_J4 x1 r28_27.1 H0 r28_27.2)
      (texttoolsref20_Print_J4 x1 x3 H0 H) := (CXM_eq [4, 6, 8, 10, 12, 14, 15, 16] _ _ _ _).trans (by kernel_rfl)
theorem texttoolsref20_Print_J2_eq (x1 x3 : AV) (H0 H : Hp) : texttoolsref20_Print_J2 x1 x3 H0 H =
    bnd (afield 4 x1) fun t19_28 =>
    bnd (aload false 1 t19_28 H) fun t20_29 =>
    cnd t20_29
      (bnd ((setElems 1 [(0, (.str [45, 115]))] [(.str [])]).map (.vs 1 .clip)) fun t22_30 =>
      bnd (aappE 1 16 x3 t22_30 H) fun r23_31 =>
      texttoolsref20_Print_J3 x1 r23_31.1 H0 r23_31.2)
      (texttoolsref20_Print_J3 x1 x3 H0 H) := (CXM_eq [4, 6, 8, 10, 12, 14, 15, 16] _ _ _ _).trans (by kernel_rfl)
theorem texttoolsref20_Print_J1_eq (x1 x3 : AV) (H0 H : Hp) : texttoolsref20_Print_J1 x1 x3 H0 H =
    bnd (afield 2 x1) fun t9_32 =>
    bnd (aload false 1 t9_32 H) fun t10_33 =>
    bnd (ibin .neq t10_33 (.int .i64 0)) fun t11_34 =>
    cnd t11_34
      (bnd (afield 2 x1) fun t13_35 =>
      bnd (aload false 1 t13_35 H) fun t14_36 =>
      bnd (flatC C_texttoolsref20_letters [t14_36] H) fun r15_37 =>
      bnd (sbin .add (.str [45]) r15_37.1) fun t16_38 =>
      bnd ((setElems 1 [(0, t16_38)] [(.str [])]).map (.vs 1 .clip)) fun t17_39 =>
      bnd (aappE 1 16 x3 t17_39 r15_37.2) fun r18_40 =>
      texttoolsref20_Print_J2 x1 r18_40.1 H0 r18_40.2)
      (texttoolsref20_Print_J2 x1 x3 H0 H) := (CXM_eq [4, 6, 8, 10, 12, 14, 15, 16] _ _ _ _).trans (by kernel_rfl)
theorem F_texttoolsref20_Print_eq (p0 : AV) (H : Hp) : C_texttoolsref20_Print [p0] H = F_texttoolsref20_Print p0 H := (callw_cxm (C := cfg) (fn := Tryz.f26) (c := bodyOf Tryz.f26) (n := 57) [4, 6, 8, 10, 12, 14, 15, 16] Tryz.func26 (by kernel_rfl) (by kernel_rfl) [p0] (by kernel_rfl) H).trans (by kernel_rfl)

/-! ### texttoolsref20_Has -/
noncomputable def F_texttoolsref20_Has (p0 p1 : AV) (H : Hp) : Res :=
  bnd (ibin .quo p0 p1) fun t7_1 =>
  bnd (ibin .rem t7_1 (.int .i64 2)) fun t8_2 =>
  bnd (ibin .eql t8_2 (.int .i64 1)) fun t9_3 =>
  some (t9_3, H)
theorem F_texttoolsref20_Has_eq (p0 p1 : AV) (H : Hp) : C_texttoolsref20_Has [p0, p1] H = F_texttoolsref20_Has p0 p1 H := (callw_cxm (C := cfg) (fn := Tryz.f40) (c := bodyOf Tryz.f40) (n := 10) [] Tryz.func40 (by kernel_rfl) (by kernel_rfl) [p0, p1] (by kernel_rfl) H).trans (by kernel_rfl)

/-! ### texttoolsref20_right -/
noncomputable def texttoolsref20_right_J1 (x1 : AV) (H0 H : Hp) : Res := CXL cfg (callw cfg) (LPL cfg (cfg.keep 41) 39) (cfg.keep 41) 39 seqL blockL (sub (bodyOf Tryz.f41) [1, 1]) (retL cfg 39 41 Tryz.f41 H0) [(1, x1)] H
noncomputable def F_texttoolsref20_right (p0 : AV) (H : Hp) : Res :=
  bnd (abox p0 H) fun r1_1 =>
  bnd (afield 0 r1_1.1) fun t3_9 =>
  bnd (aload false 1 t3_9 r1_1.2) fun t4_10 =>
  bnd (ibin .lss t4_10 (.int .i64 1)) fun t5_11 =>
  bnd (gdv t5_11 false (.tuple []) (afield 1 r1_1.1)) fun t7_12 =>
  bnd (gdv t5_11 false (.tuple []) (aload false 1 t7_12 r1_1.2)) fun t8_13 =>
  bnd (gdv t5_11 false (.tuple []) (ibin .lss t8_13 (.int .i64 1))) fun t9_14 =>
  bnd (apick t5_11 (.bool true) t9_14) fun t10_15 =>
  bnd (gdv t10_15 false (.tuple []) (afield 2 r1_1.1)) fun t12_16 =>
  bnd (gdv t10_15 false (.tuple []) (aload false 1 t12_16 r1_1.2)) fun t13_17 =>
  bnd (gdv t10_15 false (.tuple []) (ibin .lss t13_17 (.int .i64 0))) fun t14_18 =>
  bnd (apick t10_15 (.bool true) t14_18) fun t15_19 =>
  bnd (gdv t15_19 false (.tuple []) (afield 3 r1_1.1)) fun t17_20 =>
  bnd (gdv t15_19 false (.tuple []) (aload false 1 t17_20 r1_1.2)) fun t18_21 =>
  bnd (gdv t15_19 false (.tuple []) (ibin .lss t18_21 (.int .i64 0))) fun t19_22 =>
  bnd (apick t15_19 (.bool true) t19_22) fun t20_23 =>
  bnd (gdv t20_23 false (.tuple []) (afield 2 r1_1.1)) fun t22_24 =>
  bnd (gdv t20_23 false (.tuple []) (aload false 1 t22_24 r1_1.2)) fun t23_25 =>
  bnd (gdv t20_23 false (.tuple []) (ibin .eql t23_25 (.int .i64 0))) fun t24_26 =>
  bnd (gdv t20_23 false (.tuple []) (some t24_26)) fun t25_27 =>
  bnd (gdv t25_27 true (.tuple []) (afield 3 r1_1.1)) fun t26_28 =>
  bnd (gdv t25_27 true (.tuple []) (aload false 1 t26_28 r1_1.2)) fun t27_29 =>
  bnd (gdv t25_27 true (.tuple []) (ibin .neq t27_29 (.int .i64 0))) fun t28_30 =>
  bnd (gdv t20_23 false (.tuple []) (apick t25_27 t28_30 (.bool false))) fun t29_31 =>
  bnd (apick t20_23 (.bool true) t29_31) fun t30_32 =>
  cnd t30_32
    (some ((.bool false), r1_1.2))
    (texttoolsref20_right_J1 r1_1.1 H r1_1.2)
theorem texttoolsref20_right_J1_eq (x1 : AV) (H0 H : Hp) : texttoolsref20_right_J1 x1 H0 H =
    bnd (afield 4 x1) fun t31_2 =>
    bnd (aload false 1 t31_2 H) fun t32_3 =>
    bnd (ibin .geq t32_3 (.int .i64 0)) fun t33_4 =>
    bnd (gdv t33_4 true (.tuple []) (afield 4 x1)) fun t35_5 =>
    bnd (gdv t33_4 true (.tuple []) (aload false 1 t35_5 H)) fun t36_6 =>
    bnd (gdv t33_4 true (.tuple []) (ibin .leq t36_6 (.int .i64 31))) fun t37_7 =>
    bnd (apick t33_4 t37_7 (.bool false)) fun t38_8 =>
    some (t38_8, H) := (CXM_eq [3] _ _ _ _).trans (by kernel_rfl)
theorem F_texttoolsref20_right_eq (p0 : AV) (H : Hp) : C_texttoolsref20_right [p0] H = F_texttoolsref20_right p0 H := (callw_cxm (C := cfg) (fn := Tryz.f41) (c := bodyOf Tryz.f41) (n := 39) [3] Tryz.func41 (by kernel_rfl) (by kernel_rfl) [p0] (by kernel_rfl) H).trans (by kernel_rfl)

/-! ### sortkey_text -/
noncomputable def sortkey_text_J1 (x3 : AV) (H0 H : Hp) : Res := CXL cfg (callw cfg) (LPL cfg (cfg.keep 42) 22) (cfg.keep 42) 22 seqL blockL (sub (bodyOf Tryz.f42) [1, 1, 1]) (retL cfg 22 42 Tryz.f42 H0) [(3, x3)] H
noncomputable def sortkey_text_K1 (H0 : Hp) : KL := seqL (fun k al H => CXL cfg (callw cfg) (LPL cfg (cfg.keep 42) 22) (cfg.keep 42) 22 seqL blockL (sub (bodyOf Tryz.f42) [1, 1, 1]) k (trimL (cfg.keep 42) (sub (bodyOf Tryz.f42) [1, 1, 1]) al) H) (retL cfg 22 42 Tryz.f42 H0)
theorem sortkey_text_K1_tame (H0 : Hp) : Tame 22 (sortkey_text_K1 H0) := tame_seq (C := cfg) (kp := cfg.keep 42) (sub (bodyOf Tryz.f42) [1, 1, 1]) (tame_ret 42 Tryz.f42 H0)
noncomputable def sortkey_text_J3 (x0 x3 x5 : AV) (H0 H : Hp) : Res := CXL cfg (callw cfg) (LPL cfg (cfg.keep 42) 22) (cfg.keep 42) 22 seqL blockL (sub (bodyOf Tryz.f42) [1, 1, 0, 1, 0, 0, 1, 1, 1]) (seqL (fun k al H => LPL cfg (cfg.keep 42) 22 (sub (bodyOf Tryz.f42) [1, 1, 0, 1, 0, 0]) k (trimL (cfg.keep 42) (sub (bodyOf Tryz.f42) [1, 1, 0, 1, 0, 0]) al) H) (blockL 0 (sortkey_text_K1 H0))) [(0, x0), (3, x3), (5, x5)] H
noncomputable def sortkey_text_J2 (x0 x3 x5 x6 : AV) (H0 H : Hp) : Res := CXL cfg (callw cfg) (LPL cfg (cfg.keep 42) 22) (cfg.keep 42) 22 seqL blockL (sub (bodyOf Tryz.f42) [1, 1, 0, 1, 0, 0, 1, 1]) (seqL (fun k al H => LPL cfg (cfg.keep 42) 22 (sub (bodyOf Tryz.f42) [1, 1, 0, 1, 0, 0]) k (trimL (cfg.keep 42) (sub (bodyOf Tryz.f42) [1, 1, 0, 1, 0, 0]) al) H) (blockL 0 (sortkey_text_K1 H0))) [(0, x0), (3, x3), (5, x5), (6, x6)] H
noncomputable def sortkey_text_L1 (x0 x3 x5 : AV) (H0 H : Hp) : Res := LPL cfg (cfg.keep 42) 22 (sub (bodyOf Tryz.f42) [1, 1, 0, 1, 0, 0]) (blockL 0 (sortkey_text_K1 H0)) [(0, x0), (3, x3), (5, x5)] H
noncomputable def F_sortkey_text (p0 : AV) (H : Hp) : Res :=
  sortkey_text_L1 p0 (.str []) (.int .i64 0) H H
theorem sortkey_text_J1_eq (x3 : AV) (H0 H : Hp) : sortkey_text_J1 x3 H0 H =
    some (x3, H) := (CXM_eq [4, 7, 8] _ _ _ _).trans (by kernel_rfl)
theorem sortkey_text_J3_eq (x0 x3 x5 : AV) (H0 H : Hp) : sortkey_text_J3 x0 x3 x5 H0 H =
    bnd (ibin .add x5 (.int .i64 1)) fun t20_2 =>
    sortkey_text_L1 x0 x3 t20_2 H0 H := (CXM_eq [4, 7, 8] _ _ _ _).trans (by kernel_rfl)
theorem sortkey_text_J2_eq (x0 x3 x5 x6 : AV) (H0 H : Hp) : sortkey_text_J2 x0 x3 x5 x6 H0 H =
    bnd (aindexStr (.str [98, 100, 102, 110, 114]) x5) fun t10_3 =>
    bnd (flatC C_sortkey_flag [t10_3] H) fun r11_4 =>
    bnd (ibin .and x0 r11_4.1) fun t12_5 =>
    bnd (ibin .neq t12_5 (.int .i64 0)) fun t13_6 =>
    cnd t13_6
      (bnd (ibin .add x5 (.int .i64 1)) fun t17_7 =>
      bnd (asliceS (.str [98, 100, 102, 110, 114]) (some x5) (some t17_7) none) fun t18_8 =>
      bnd (sbin .add x3 t18_8) fun t19_9 =>
      sortkey_text_J3 x0 t19_9 x5 H0 r11_4.2)
      (sortkey_text_J3 x0 x3 x5 H0 r11_4.2) := (CXM_eq [4, 7, 8] _ _ _ _).trans (by kernel_rfl)
theorem sortkey_text_L1_eq (x0 x3 x5 : AV) (H0 H : Hp) : sortkey_text_L1 x0 x3 x5 H0 H =
    bnd (ibin .lss x5 (.int .i64 5)) fun t6_1 =>
    cnd t6_1
      (sortkey_text_J2 x0 x3 x5 t6_1 H0 H)
      (sortkey_text_J1 x3 H0 H) := (LPL_eqm (C := cfg) [4, 7, 8] (tame_block 0 (sortkey_text_K1_tame H0)) _ _).trans (by kernel_rfl)
theorem F_sortkey_text_eq (p0 : AV) (H : Hp) : C_sortkey_text [p0] H = F_sortkey_text p0 H := (callw_cxm (C := cfg) (fn := Tryz.f42) (c := bodyOf Tryz.f42) (n := 22) [4, 7, 8] Tryz.func42 (by kernel_rfl) (by kernel_rfl) [p0] (by kernel_rfl) H).trans (by kernel_rfl)

/-! ### sortkey_keyText -/
noncomputable def sortkey_keyText_J2 (x1 x3 : AV) (H0 H : Hp) : Res := CXL cfg (callw cfg) (LPL cfg (cfg.keep 43) 39) (cfg.keep 43) 39 seqL blockL (sub (bodyOf Tryz.f43) [1, 1, 1, 1]) (retL cfg 39 43 Tryz.f43 H0) [(1, x1), (3, x3)] H
noncomputable def sortkey_keyText_J1 (x1 x3 : AV) (H0 H : Hp) : Res := CXL cfg (callw cfg) (LPL cfg (cfg.keep 43) 39) (cfg.keep 43) 39 seqL blockL (sub (bodyOf Tryz.f43) [1, 1, 1]) (retL cfg 39 43 Tryz.f43 H0) [(1, x1), (3, x3)] H
noncomputable def F_sortkey_keyText (p0 : AV) (H : Hp) : Res :=
  bnd (abox p0 H) fun r1_1 =>
  bnd (afield 0 r1_1.1) fun t4_2 =>
  bnd (aload false 1 t4_2 r1_1.2) fun t5_3 =>
  bnd (flatC C_num_Format [t5_3] r1_1.2) fun r6_4 =>
  bnd (afield 1 r1_1.1) fun t7_25 =>
  bnd (aload false 1 t7_25 r6_4.2) fun t8_26 =>
  bnd (ibin .neq t8_26 (.int .i64 1)) fun t9_27 =>
  cnd t9_27
    (bnd (afield 1 r1_1.1) fun t11_28 =>
    bnd (aload false 1 t11_28 r6_4.2) fun t12_29 =>
    bnd (flatC C_num_Format [t12_29] r6_4.2) fun r13_30 =>
    bnd (sbin .add (.str [46]) r13_30.1) fun t14_31 =>
    bnd (sbin .add r6_4.1 t14_31) fun t15_32 =>
    sortkey_keyText_J1 r1_1.1 t15_32 H r13_30.2)
    (sortkey_keyText_J1 r1_1.1 r6_4.1 H r6_4.2)
theorem sortkey_keyText_J2_eq (x1 x3 : AV) (H0 H : Hp) : sortkey_keyText_J2 x1 x3 H0 H =
    bnd (afield 4 x1) fun t35_5 =>
    bnd (aload false 1 t35_5 H) fun t36_6 =>
    bnd (flatC C_sortkey_text [t36_6] H) fun r37_7 =>
    bnd (sbin .add x3 r37_7.1) fun t38_8 =>
    some (t38_8, r37_7.2) := (CXM_eq [4, 8] _ _ _ _).trans (by kernel_rfl)
theorem sortkey_keyText_J1_eq (x1 x3 : AV) (H0 H : Hp) : sortkey_keyText_J1 x1 x3 H0 H =
    bnd (afield 2 x1) fun t16_9 =>
    bnd (aload false 1 t16_9 H) fun t17_10 =>
    bnd (ibin .neq t17_10 (.int .i64 0)) fun t18_11 =>
    cnd t18_11
      (bnd (afield 2 x1) fun t20_12 =>
      bnd (aload false 1 t20_12 H) fun t21_13 =>
      bnd (flatC C_num_Format [t21_13] H) fun r22_14 =>
      bnd (sbin .add (.str [44]) r22_14.1) fun t23_15 =>
      bnd (sbin .add x3 t23_15) fun t24_16 =>
      bnd (afield 3 x1) fun t25_17 =>
      bnd (aload false 1 t25_17 r22_14.2) fun t26_18 =>
      bnd (ibin .neq t26_18 (.int .i64 0)) fun t27_19 =>
      cnd t27_19
        (bnd (afield 3 x1) fun t29_20 =>
        bnd (aload false 1 t29_20 r22_14.2) fun t30_21 =>
        bnd (flatC C_num_Format [t30_21] r22_14.2) fun r31_22 =>
        bnd (sbin .add (.str [46]) r31_22.1) fun t32_23 =>
        bnd (sbin .add t24_16 t32_23) fun t33_24 =>
        sortkey_keyText_J2 x1 t33_24 H0 r31_22.2)
        (sortkey_keyText_J2 x1 t24_16 H0 r22_14.2))
      (sortkey_keyText_J2 x1 x3 H0 H) := (CXM_eq [4, 8] _ _ _ _).trans (by kernel_rfl)
theorem F_sortkey_keyText_eq (p0 : AV) (H : Hp) : C_sortkey_keyText [p0] H = F_sortkey_keyText p0 H := (callw_cxm (C := cfg) (fn := Tryz.f43) (c := bodyOf Tryz.f43) (n := 39) [4, 8] Tryz.func43 (by kernel_rfl) (by kernel_rfl) [p0] (by kernel_rfl) H).trans (by kernel_rfl)

/-! ### texttoolsref20_letters -/
noncomputable def texttoolsref20_letters_J1 (x3 : AV) (H0 H : Hp) : Res := CXL cfg (callw cfg) (LPL cfg (cfg.keep 44) 26) (cfg.keep 44) 26 seqL blockL (sub (bodyOf Tryz.f44) [1, 1, 1, 1]) (retL cfg 26 44 Tryz.f44 H0) [(3, x3)] H
noncomputable def texttoolsref20_letters_K1 (H0 : Hp) : KL := seqL (fun k al H => CXL cfg (callw cfg) (LPL cfg (cfg.keep 44) 26) (cfg.keep 44) 26 seqL blockL (sub (bodyOf Tryz.f44) [1, 1, 1, 1]) k (trimL (cfg.keep 44) (sub (bodyOf Tryz.f44) [1, 1, 1, 1]) al) H) (retL cfg 26 44 Tryz.f44 H0)
theorem texttoolsref20_letters_K1_tame (H0 : Hp) : Tame 26 (texttoolsref20_letters_K1 H0) := tame_seq (C := cfg) (kp := cfg.keep 44) (sub (bodyOf Tryz.f44) [1, 1, 1, 1]) (tame_ret 44 Tryz.f44 H0)
noncomputable def texttoolsref20_letters_J3 (x0 x3 x4 x5 : AV) (H0 H : Hp) : Res := CXL cfg (callw cfg) (LPL cfg (cfg.keep 44) 26) (cfg.keep 44) 26 seqL blockL (sub (bodyOf Tryz.f44) [1, 1, 1, 0, 1, 0, 0, 1, 1]) (seqL (fun k al H => LPL cfg (cfg.keep 44) 26 (sub (bodyOf Tryz.f44) [1, 1, 1, 0, 1, 0, 0]) k (trimL (cfg.keep 44) (sub (bodyOf Tryz.f44) [1, 1, 1, 0, 1, 0, 0]) al) H) (blockL 0 (texttoolsref20_letters_K1 H0))) [(0, x0), (3, x3), (4, x4), (5, x5)] H
noncomputable def texttoolsref20_letters_J2 (x0 x3 x4 x5 : AV) (H0 H : Hp) : Res := CXL cfg (callw cfg) (LPL cfg (cfg.keep 44) 26) (cfg.keep 44) 26 seqL blockL (sub (bodyOf Tryz.f44) [1, 1, 1, 0, 1, 0, 0, 1]) (seqL (fun k al H => LPL cfg (cfg.keep 44) 26 (sub (bodyOf Tryz.f44) [1, 1, 1, 0, 1, 0, 0]) k (trimL (cfg.keep 44) (sub (bodyOf Tryz.f44) [1, 1, 1, 0, 1, 0, 0]) al) H) (blockL 0 (texttoolsref20_letters_K1 H0))) [(0, x0), (3, x3), (4, x4), (5, x5)] H
noncomputable def texttoolsref20_letters_L1 (x0 x3 x4 x5 : AV) (H0 H : Hp) : Res := LPL cfg (cfg.keep 44) 26 (sub (bodyOf Tryz.f44) [1, 1, 1, 0, 1, 0, 0]) (blockL 0 (texttoolsref20_letters_K1 H0)) [(0, x0), (3, x3), (4, x4), (5, x5)] H
noncomputable def F_texttoolsref20_letters (p0 : AV) (H : Hp) : Res :=
  texttoolsref20_letters_L1 p0 (.str []) (.str [98, 100, 102, 110, 114]) (.int .i64 0) H H
theorem texttoolsref20_letters_J1_eq (x3 : AV) (H0 H : Hp) : texttoolsref20_letters_J1 x3 H0 H =
    some (x3, H) := (CXM_eq [5, 6, 8] _ _ _ _).trans (by kernel_rfl)
theorem texttoolsref20_letters_J3_eq (x0 x3 x4 x5 : AV) (H0 H : Hp) : texttoolsref20_letters_J3 x0 x3 x4 x5 H0 H =
    bnd (ibin .add x5 (.int .i64 1)) fun t11_1 =>
    texttoolsref20_letters_L1 x0 x3 x4 t11_1 H0 H := (CXM_eq [5, 6, 8] _ _ _ _).trans (by kernel_rfl)
theorem texttoolsref20_letters_J2_eq (x0 x3 x4 x5 : AV) (H0 H : Hp) : texttoolsref20_letters_J2 x0 x3 x4 x5 H0 H =
    bnd (aindexStr x4 x5) fun t15_2 =>
    bnd (flatC C_texttoolsref20_flag [t15_2] H) fun r16_3 =>
    bnd (flatC C_texttoolsref20_Has [x0, r16_3.1] r16_3.2) fun r17_4 =>
    cnd r17_4.1
      (bnd (ibin .add x5 (.int .i64 1)) fun t22_5 =>
      bnd (asliceS x4 (some x5) (some t22_5) none) fun t23_6 =>
      bnd (sbin .add x3 t23_6) fun t24_7 =>
      texttoolsref20_letters_J3 x0 t24_7 x4 x5 H0 r17_4.2)
      (texttoolsref20_letters_J3 x0 x3 x4 x5 H0 r17_4.2) := (CXM_eq [5, 6, 8] _ _ _ _).trans (by kernel_rfl)
theorem texttoolsref20_letters_L1_eq (x0 x3 x4 x5 : AV) (H0 H : Hp) : texttoolsref20_letters_L1 x0 x3 x4 x5 H0 H =
    bnd (alenD .string x4) fun t8_8 =>
    bnd (ibin .lss x5 t8_8) fun t9_9 =>
    cnd t9_9
      (texttoolsref20_letters_J2 x0 x3 x4 x5 H0 H)
      (texttoolsref20_letters_J1 x3 H0 H) := (LPL_eqm (C := cfg) [5, 6, 8] (tame_block 0 (texttoolsref20_letters_K1_tame H0)) _ _).trans (by kernel_rfl)
theorem F_texttoolsref20_letters_eq (p0 : AV) (H : Hp) : C_texttoolsref20_letters [p0] H = F_texttoolsref20_letters p0 H := (callw_cxm (C := cfg) (fn := Tryz.f44) (c := bodyOf Tryz.f44) (n := 26) [5, 6, 8] Tryz.func44 (by kernel_rfl) (by kernel_rfl) [p0] (by kernel_rfl) H).trans (by kernel_rfl)

/-! ### texttoolsref20_text -/
noncomputable def texttoolsref20_text_J2 (x1 x3 : AV) (H0 H : Hp) : Res := CXL cfg (callw cfg) (LPL cfg (cfg.keep 45) 39) (cfg.keep 45) 39 seqL blockL (sub (bodyOf Tryz.f45) [1, 1, 1, 1]) (retL cfg 39 45 Tryz.f45 H0) [(1, x1), (3, x3)] H
noncomputable def texttoolsref20_text_J1 (x1 x3 : AV) (H0 H : Hp) : Res := CXL cfg (callw cfg) (LPL cfg (cfg.keep 45) 39) (cfg.keep 45) 39 seqL blockL (sub (bodyOf Tryz.f45) [1, 1, 1]) (retL cfg 39 45 Tryz.f45 H0) [(1, x1), (3, x3)] H
noncomputable def F_texttoolsref20_text (p0 : AV) (H : Hp) : Res :=
  bnd (abox p0 H) fun r1_1 =>
  bnd (afield 0 r1_1.1) fun t4_2 =>
  bnd (aload false 1 t4_2 r1_1.2) fun t5_3 =>
  bnd (flatC C_texttoolsref01_Format [t5_3] r1_1.2) fun r6_4 =>
  bnd (afield 1 r1_1.1) fun t7_25 =>
  bnd (aload false 1 t7_25 r6_4.2) fun t8_26 =>
  bnd (ibin .neq t8_26 (.int .i64 1)) fun t9_27 =>
  cnd t9_27
    (bnd (sbin .add r6_4.1 (.str [46])) fun t11_28 =>
    bnd (afield 1 r1_1.1) fun t12_29 =>
    bnd (aload false 1 t12_29 r6_4.2) fun t13_30 =>
    bnd (flatC C_texttoolsref01_Format [t13_30] r6_4.2) fun r14_31 =>
    bnd (sbin .add t11_28 r14_31.1) fun t15_32 =>
    texttoolsref20_text_J1 r1_1.1 t15_32 H r14_31.2)
    (texttoolsref20_text_J1 r1_1.1 r6_4.1 H r6_4.2)
theorem texttoolsref20_text_J2_eq (x1 x3 : AV) (H0 H : Hp) : texttoolsref20_text_J2 x1 x3 H0 H =
    bnd (afield 4 x1) fun t35_5 =>
    bnd (aload false 1 t35_5 H) fun t36_6 =>
    bnd (flatC C_texttoolsref20_letters [t36_6] H) fun r37_7 =>
    bnd (sbin .add x3 r37_7.1) fun t38_8 =>
    some (t38_8, r37_7.2) := (CXM_eq [4, 8] _ _ _ _).trans (by kernel_rfl)
theorem texttoolsref20_text_J1_eq (x1 x3 : AV) (H0 H : Hp) : texttoolsref20_text_J1 x1 x3 H0 H =
    bnd (afield 2 x1) fun t16_9 =>
    bnd (aload false 1 t16_9 H) fun t17_10 =>
    bnd (ibin .neq t17_10 (.int .i64 0)) fun t18_11 =>
    cnd t18_11
      (bnd (sbin .add x3 (.str [44])) fun t20_12 =>
      bnd (afield 2 x1) fun t21_13 =>
      bnd (aload false 1 t21_13 H) fun t22_14 =>
      bnd (flatC C_texttoolsref01_Format [t22_14] H) fun r23_15 =>
      bnd (sbin .add t20_12 r23_15.1) fun t24_16 =>
      bnd (afield 3 x1) fun t25_17 =>
      bnd (aload false 1 t25_17 r23_15.2) fun t26_18 =>
      bnd (ibin .neq t26_18 (.int .i64 0)) fun t27_19 =>
      cnd t27_19
        (bnd (sbin .add t24_16 (.str [46])) fun t29_20 =>
        bnd (afield 3 x1) fun t30_21 =>
        bnd (aload false 1 t30_21 r23_15.2) fun t31_22 =>
        bnd (flatC C_texttoolsref01_Format [t31_22] r23_15.2) fun r32_23 =>
        bnd (sbin .add t29_20 r32_23.1) fun t33_24 =>
        texttoolsref20_text_J2 x1 t33_24 H0 r32_23.2)
        (texttoolsref20_text_J2 x1 t24_16 H0 r23_15.2))
      (texttoolsref20_text_J2 x1 x3 H0 H) := (CXM_eq [4, 8] _ _ _ _).trans (by kernel_rfl)
theorem F_texttoolsref20_text_eq (p0 : AV) (H : Hp) : C_texttoolsref20_text [p0] H = F_texttoolsref20_text p0 H := (callw_cxm (C := cfg) (fn := Tryz.f45) (c := bodyOf Tryz.f45) (n := 39) [4, 8] Tryz.func45 (by kernel_rfl) (by kernel_rfl) [p0] (by kernel_rfl) H).trans (by kernel_rfl)

/-! ### sortkey_flag -/
noncomputable def sortkey_flag_J1 (H0 H : Hp) : Res := CXL cfg (callw cfg) (LPL cfg (cfg.keep 46) 14) (cfg.keep 46) 14 seqL blockL (sub (bodyOf Tryz.f46) [1, 1]) (retL cfg 14 46 Tryz.f46 H0) [] H
noncomputable def F_sortkey_flag (p0 : AV) (H : Hp) : Res :=
  bnd (ibin .eql p0 (.int .u8 98)) fun t5_1 =>
  cnd t5_1
    (some ((.int .i64 8), H))
    (bnd (ibin .eql p0 (.int .u8 100)) fun t7_2 =>
    cnd t7_2
      (some ((.int .i64 16), H))
      (bnd (ibin .eql p0 (.int .u8 102)) fun t9_3 =>
      cnd t9_3
        (some ((.int .i64 4), H))
        (bnd (ibin .eql p0 (.int .u8 110)) fun t11_4 =>
        cnd t11_4
          (some ((.int .i64 1), H))
          (bnd (ibin .eql p0 (.int .u8 114)) fun t13_5 =>
          cnd t13_5
            (some ((.int .i64 2), H))
            (sortkey_flag_J1 H H)))))
theorem sortkey_flag_J1_eq (H0 H : Hp) : sortkey_flag_J1 H0 H =
    some ((.int .i64 0), H) := (CXM_eq [12] _ _ _ _).trans (by kernel_rfl)
theorem F_sortkey_flag_eq (p0 : AV) (H : Hp) : C_sortkey_flag [p0] H = F_sortkey_flag p0 H := (callw_cxm (C := cfg) (fn := Tryz.f46) (c := bodyOf Tryz.f46) (n := 14) [12] Tryz.func46 (by kernel_rfl) (by kernel_rfl) [p0] (by kernel_rfl) H).trans (by kernel_rfl)

/-! ### num_Format -/
noncomputable def F_num_Format (p0 : AV) (H : Hp) : Res :=
  bnd (sumC itoaA [p0] H) fun r4_1 =>
  some (r4_1.1, r4_1.2)
theorem F_num_Format_eq (p0 : AV) (H : Hp) : C_num_Format [p0] H = F_num_Format p0 H := (callw_cxm (C := cfg) (fn := Tryz.f74) (c := bodyOf Tryz.f74) (n := 5) [] Tryz.func74 (by kernel_rfl) (by kernel_rfl) [p0] (by kernel_rfl) H).trans (by kernel_rfl)

/-! ### texttoolsref20_flag -/
noncomputable def texttoolsref20_flag_J1 (H0 H : Hp) : Res := CXL cfg (callw cfg) (LPL cfg (cfg.keep 75) 14) (cfg.keep 75) 14 seqL blockL (sub (bodyOf Tryz.f75) [1, 1]) (retL cfg 14 75 Tryz.f75 H0) [] H
noncomputable def F_texttoolsref20_flag (p0 : AV) (H : Hp) : Res :=
  bnd (ibin .eql p0 (.int .u8 110)) fun t5_1 =>
  cnd t5_1
    (some ((.int .i64 1), H))
    (bnd (ibin .eql p0 (.int .u8 114)) fun t7_2 =>
    cnd t7_2
      (some ((.int .i64 2), H))
      (bnd (ibin .eql p0 (.int .u8 102)) fun t9_3 =>
      cnd t9_3
        (some ((.int .i64 4), H))
        (bnd (ibin .eql p0 (.int .u8 98)) fun t11_4 =>
        cnd t11_4
          (some ((.int .i64 8), H))
          (bnd (ibin .eql p0 (.int .u8 100)) fun t13_5 =>
          cnd t13_5
            (some ((.int .i64 16), H))
            (texttoolsref20_flag_J1 H H)))))
theorem texttoolsref20_flag_J1_eq (H0 H : Hp) : texttoolsref20_flag_J1 H0 H =
    some ((.int .i64 0), H) := (CXM_eq [12] _ _ _ _).trans (by kernel_rfl)
theorem F_texttoolsref20_flag_eq (p0 : AV) (H : Hp) : C_texttoolsref20_flag [p0] H = F_texttoolsref20_flag p0 H := (callw_cxm (C := cfg) (fn := Tryz.f75) (c := bodyOf Tryz.f75) (n := 14) [12] Tryz.func75 (by kernel_rfl) (by kernel_rfl) [p0] (by kernel_rfl) H).trans (by kernel_rfl)

/-! ### texttoolsref01_Format -/
noncomputable def texttoolsref01_Format_J3 (x3 : AV) (H0 H : Hp) : Res := CXL cfg (callw cfg) (LPL cfg (cfg.keep 76) 31) (cfg.keep 76) 31 seqL blockL (sub (bodyOf Tryz.f76) [1, 1, 1, 1, 1]) (retL cfg 31 76 Tryz.f76 H0) [(3, x3)] H
noncomputable def texttoolsref01_Format_J2 (x0 x3 : AV) (H0 H : Hp) : Res := CXL cfg (callw cfg) (LPL cfg (cfg.keep 76) 31) (cfg.keep 76) 31 seqL blockL (sub (bodyOf Tryz.f76) [1, 1, 1, 1]) (retL cfg 31 76 Tryz.f76 H0) [(0, x0), (3, x3)] H
noncomputable def texttoolsref01_Format_K1 (H0 : Hp) : KL := seqL (fun k al H => CXL cfg (callw cfg) (LPL cfg (cfg.keep 76) 31) (cfg.keep 76) 31 seqL blockL (sub (bodyOf Tryz.f76) [1, 1, 1, 1]) k (trimL (cfg.keep 76) (sub (bodyOf Tryz.f76) [1, 1, 1, 1]) al) H) (retL cfg 31 76 Tryz.f76 H0)
theorem texttoolsref01_Format_K1_tame (H0 : Hp) : Tame 31 (texttoolsref01_Format_K1 H0) := tame_seq (C := cfg) (kp := cfg.keep 76) (sub (bodyOf Tryz.f76) [1, 1, 1, 1]) (tame_ret 76 Tryz.f76 H0)
noncomputable def texttoolsref01_Format_J5 (x0 x3 x4 : AV) (H0 H : Hp) : Res := CXL cfg (callw cfg) (LPL cfg (cfg.keep 76) 31) (cfg.keep 76) 31 seqL blockL (sub (bodyOf Tryz.f76) [1, 1, 1, 0, 1, 0, 0, 1, 1]) (seqL (fun k al H => LPL cfg (cfg.keep 76) 31 (sub (bodyOf Tryz.f76) [1, 1, 1, 0, 1, 0, 0]) k (trimL (cfg.keep 76) (sub (bodyOf Tryz.f76) [1, 1, 1, 0, 1, 0, 0]) al) H) (blockL 0 (texttoolsref01_Format_K1 H0))) [(0, x0), (3, x3), (4, x4)] H
noncomputable def texttoolsref01_Format_K2 (H0 : Hp) : KL := seqL (fun k al H => CXL cfg (callw cfg) (LPL cfg (cfg.keep 76) 31) (cfg.keep 76) 31 seqL blockL (sub (bodyOf Tryz.f76) [1, 1, 1, 0, 1, 0, 0, 1, 1]) k (trimL (cfg.keep 76) (sub (bodyOf Tryz.f76) [1, 1, 1, 0, 1, 0, 0, 1, 1]) al) H) (seqL (fun k al H => LPL cfg (cfg.keep 76) 31 (sub (bodyOf Tryz.f76) [1, 1, 1, 0, 1, 0, 0]) k (trimL (cfg.keep 76) (sub (bodyOf Tryz.f76) [1, 1, 1, 0, 1, 0, 0]) al) H) (blockL 0 (texttoolsref01_Format_K1 H0)))
theorem texttoolsref01_Format_K2_tame (H0 : Hp) : Tame 31 (texttoolsref01_Format_K2 H0) := tame_seq (C := cfg) (kp := cfg.keep 76) (sub (bodyOf Tryz.f76) [1, 1, 1, 0, 1, 0, 0, 1, 1]) (tame_loop (C := cfg) (kp := cfg.keep 76) (sub (bodyOf Tryz.f76) [1, 1, 1, 0, 1, 0, 0]) (tame_block 0 (texttoolsref01_Format_K1_tame H0)))
noncomputable def texttoolsref01_Format_J6 (x0 x3 x4 x5 : AV) (H0 H : Hp) : Res := CXL cfg (callw cfg) (LPL cfg (cfg.keep 76) 31) (cfg.keep 76) 31 seqL blockL (sub (bodyOf Tryz.f76) [1, 1, 1, 0, 1, 0, 0, 1, 0, 0, 1, 1]) (blockL 1 (texttoolsref01_Format_K2 H0)) [(0, x0), (3, x3), (4, x4), (5, x5)] H
noncomputable def texttoolsref01_Format_J4 (x0 x3 x4 : AV) (H0 H : Hp) : Res := CXL cfg (callw cfg) (LPL cfg (cfg.keep 76) 31) (cfg.keep 76) 31 seqL blockL (sub (bodyOf Tryz.f76) [1, 1, 1, 0, 1, 0, 0, 1]) (seqL (fun k al H => LPL cfg (cfg.keep 76) 31 (sub (bodyOf Tryz.f76) [1, 1, 1, 0, 1, 0, 0]) k (trimL (cfg.keep 76) (sub (bodyOf Tryz.f76) [1, 1, 1, 0, 1, 0, 0]) al) H) (blockL 0 (texttoolsref01_Format_K1 H0))) [(0, x0), (3, x3), (4, x4)] H
noncomputable def texttoolsref01_Format_L1 (x0 x3 x4 : AV) (H0 H : Hp) : Res := LPL cfg (cfg.keep 76) 31 (sub (bodyOf Tryz.f76) [1, 1, 1, 0, 1, 0, 0]) (blockL 0 (texttoolsref01_Format_K1 H0)) [(0, x0), (3, x3), (4, x4)] H
noncomputable def texttoolsref01_Format_J1 (x0 : AV) (H0 H : Hp) : Res := CXL cfg (callw cfg) (LPL cfg (cfg.keep 76) 31) (cfg.keep 76) 31 seqL blockL (sub (bodyOf Tryz.f76) [1, 1]) (retL cfg 31 76 Tryz.f76 H0) [(0, x0)] H
noncomputable def F_texttoolsref01_Format (p0 : AV) (H : Hp) : Res :=
  bnd (ibin .eql p0 (.int .i64 0)) fun t7_13 =>
  cnd t7_13
    (some ((.str [48]), H))
    (texttoolsref01_Format_J1 p0 H H)
theorem texttoolsref01_Format_J3_eq (x3 : AV) (H0 H : Hp) : texttoolsref01_Format_J3 x3 H0 H =
    some (x3, H) := (CXM_eq [3, 6, 7, 10, 11, 13] _ _ _ _).trans (by kernel_rfl)
theorem texttoolsref01_Format_J2_eq (x0 x3 : AV) (H0 H : Hp) : texttoolsref01_Format_J2 x0 x3 H0 H =
    bnd (ibin .lss x0 (.int .i64 0)) fun t27_1 =>
    cnd t27_1
      (bnd (sbin .add (.str [45]) x3) fun t29_2 =>
      texttoolsref01_Format_J3 t29_2 H0 H)
      (texttoolsref01_Format_J3 x3 H0 H) := (CXM_eq [3, 6, 7, 10, 11, 13] _ _ _ _).trans (by kernel_rfl)
theorem texttoolsref01_Format_J5_eq (x0 x3 x4 : AV) (H0 H : Hp) : texttoolsref01_Format_J5 x0 x3 x4 H0 H =
    bnd (ibin .quo x4 (.int .i64 10)) fun t12_3 =>
    texttoolsref01_Format_L1 x0 x3 t12_3 H0 H := (CXM_eq [3, 6, 7, 10, 11, 13] _ _ _ _).trans (by kernel_rfl)
theorem texttoolsref01_Format_J6_eq (x0 x3 x4 x5 : AV) (H0 H : Hp) : texttoolsref01_Format_J6 x0 x3 x4 x5 H0 H =
    bnd (ibin .add (.int .i64 48) x5) fun t20_5 =>
    bnd (cvInt .u8 t20_5) fun t21_6 =>
    bnd ((setElems 1 [(0, t21_6)] [(.int .u8 0)]).map (.vs 1 .clip)) fun t22_7 =>
    bnd (cvOfBytes t22_7) fun t23_8 =>
    bnd (sbin .add t23_8 x3) fun t25_9 =>
    texttoolsref01_Format_J5 x0 t25_9 x4 H0 H := (CXM_eq [3, 6, 7, 10, 11, 13] _ _ _ _).trans (by kernel_rfl)
theorem texttoolsref01_Format_J4_eq (x0 x3 x4 : AV) (H0 H : Hp) : texttoolsref01_Format_J4 x0 x3 x4 H0 H =
    bnd (ibin .rem x4 (.int .i64 10)) fun t14_4 =>
    bnd (ibin .lss t14_4 (.int .i64 0)) fun t16_10 =>
    cnd t16_10
      (bnd (aun .neg t14_4) fun t18_11 =>
      texttoolsref01_Format_J6 x0 x3 x4 t18_11 H0 H)
      (texttoolsref01_Format_J6 x0 x3 x4 t14_4 H0 H) := (CXM_eq [3, 6, 7, 10, 11, 13] _ _ _ _).trans (by kernel_rfl)
theorem texttoolsref01_Format_L1_eq (x0 x3 x4 : AV) (H0 H : Hp) : texttoolsref01_Format_L1 x0 x3 x4 H0 H =
    bnd (ibin .neq x4 (.int .i64 0)) fun t10_12 =>
    cnd t10_12
      (texttoolsref01_Format_J4 x0 x3 x4 H0 H)
      (texttoolsref01_Format_J2 x0 x3 H0 H) := (LPL_eqm (C := cfg) [3, 6, 7, 10, 11, 13] (tame_block 0 (texttoolsref01_Format_K1_tame H0)) _ _).trans (by kernel_rfl)
theorem texttoolsref01_Format_J1_eq (x0 : AV) (H0 H : Hp) : texttoolsref01_Format_J1 x0 H0 H =
    texttoolsref01_Format_L1 x0 (.str []) x0 H0 H := (CXM_eq [3, 6, 7, 10, 11, 13] _ _ _ _).trans (by kernel_rfl)
theorem F_texttoolsref01_Format_eq (p0 : AV) (H : Hp) : C_texttoolsref01_Format [p0] H = F_texttoolsref01_Format p0 H := (callw_cxm (C := cfg) (fn := Tryz.f76) (c := bodyOf Tryz.f76) (n := 31) [3, 6, 7, 10, 11, 13] Tryz.func76 (by kernel_rfl) (by kernel_rfl) [p0] (by kernel_rfl) H).trans (by kernel_rfl)

end Go.Am
