/-
  The functions of the translation over the abstract machine, a further part: written by program (wip/gen.py).
-/
import Derived.Test.YtijddagljnlfmaaGreatDoorTkGRx
namespace Go.Am
open Go.Proofs
set_option maxRecDepth 100000
set_option linter.unusedVariables false
set_option linter.unusedSimpArgs false

/-! ### texttoolslaw20_SortkeyParses -/
noncomputable def F_texttoolslaw20_SortkeyParses (p0 : AV) (H : Hp) : Res :=
  bnd (C_sortkey_Parse [p0] H) fun r13_1 =>
  bnd (aext r13_1.1 0) fun t14_2 =>
  bnd (aext r13_1.1 1) fun t15_3 =>
  bnd (aext r13_1.1 2) fun t16_4 =>
  bnd (aext r13_1.1 3) fun t17_5 =>
  bnd (some ((.ptr r13_1.2.length 0), r13_1.2 ++ [.cells [.nils, (.int .i64 0), (.int .i64 0), (.bool false), (.bool false)]])) fun r3_6 =>
  bnd (astoreU 5 r3_6.1 t14_2 r3_6.2) fun r_7 =>
  bnd (flatC C_texttoolsref20_Parse [p0] r_7.2) fun r20_8 =>
  bnd (aext r20_8.1 0) fun t21_9 =>
  bnd (aext r20_8.1 1) fun t22_10 =>
  bnd (aext r20_8.1 2) fun t23_11 =>
  bnd (aext r20_8.1 3) fun t24_12 =>
  bnd (some ((.ptr r20_8.2.length 0), r20_8.2 ++ [.cells [.nils, (.int .i64 0), (.int .i64 0), (.bool false), (.bool false)]])) fun r7_13 =>
  bnd (astoreU 5 r7_13.1 t21_9 r7_13.2) fun r_14 =>
  bnd (aload true 5 r3_6.1 r_14.2) fun t25_15 =>
  bnd (aload true 5 r7_13.1 r_14.2) fun t26_16 =>
  bnd (flatC C_texttoolsref20_SameSpec [t25_15, t26_16] r_14.2) fun r27_17 =>
  bnd (gdv r27_17.1 true (.tuple []) (some t15_3)) fun t29_18 =>
  bnd (gdv r27_17.1 true (.tuple []) (some t22_10)) fun t30_19 =>
  bnd (gdv r27_17.1 true ((.tuple []), r27_17.2) (flatC C_texttoolsref03_SameTexts [t29_18, t30_19] r27_17.2)) fun r31_20 =>
  bnd (apick r27_17.1 r31_20.1 (.bool false)) fun t32_21 =>
  bnd (gdv t32_21 true (.tuple []) (some t16_4)) fun t34_22 =>
  bnd (gdv t32_21 true (.tuple []) (some t23_11)) fun t35_23 =>
  bnd (gdv t32_21 true (.tuple []) (ibin .eql t34_22 t35_23)) fun t36_24 =>
  bnd (apick t32_21 t36_24 (.bool false)) fun t37_25 =>
  bnd (gdv t37_25 true (.tuple []) (some t17_5)) fun t39_26 =>
  bnd (gdv t37_25 true (.tuple []) (some t24_12)) fun t40_27 =>
  bnd (gdv t37_25 true (.tuple []) (ibin .eql t39_26 t40_27)) fun t41_28 =>
  bnd (apick t37_25 t41_28 (.bool false)) fun t42_29 =>
  bnd (gdv t42_29 true ((.tuple []), r31_20.2) (flatC C_texttoolslaw20_awake [] r31_20.2)) fun r44_30 =>
  bnd (apick t42_29 r44_30.1 (.bool false)) fun t45_31 =>
  some (t45_31, r44_30.2)
theorem F_texttoolslaw20_SortkeyParses_eq (p0 : AV) (H : Hp) : C_texttoolslaw20_SortkeyParses [p0] H = F_texttoolslaw20_SortkeyParses p0 H := (callw_cxm (C := cfg) (fn := Tryz.f3) (c := bodyOf Tryz.f3) (n := 46) [] Tryz.func3 (by kernel_rfl) (by kernel_rfl) [p0] (by kernel_rfl) H).trans (by kernel_rfl)

/-! ### texttoolsref20_Parse -/
noncomputable def texttoolsref20_Parse_J1 (x0 x2 x6 x7 : AV) (H0 H : Hp) : Res := CXL cfg (callw cfg) (LPL cfg (cfg.keep 12) 62) (cfg.keep 12) 62 seqL blockL (sub (bodyOf Tryz.f12) [1, 1, 1, 1]) (retL cfg 62 12 Tryz.f12 H0) [(0, x0), (2, x2), (6, x6), (7, x7)] H
noncomputable def texttoolsref20_Parse_K1 (H0 : Hp) : KL := seqL (fun k al H => CXL cfg (callw cfg) (LPL cfg (cfg.keep 12) 62) (cfg.keep 12) 62 seqL blockL (sub (bodyOf Tryz.f12) [1, 1, 1, 1]) k (trimL (cfg.keep 12) (sub (bodyOf Tryz.f12) [1, 1, 1, 1]) al) H) (retL cfg 62 12 Tryz.f12 H0)
theorem texttoolsref20_Parse_K1_tame (H0 : Hp) : Tame 62 (texttoolsref20_Parse_K1 H0) := tame_seq (C := cfg) (kp := cfg.keep 12) (sub (bodyOf Tryz.f12) [1, 1, 1, 1]) (tame_ret 12 Tryz.f12 H0)
noncomputable def texttoolsref20_Parse_J4 (x0 x2 x6 x8 x9 : AV) (H0 H : Hp) : Res := CXL cfg (callw cfg) (LPL cfg (cfg.keep 12) 62) (cfg.keep 12) 62 seqL blockL (sub (bodyOf Tryz.f12) [1, 1, 1, 0, 0, 0, 1, 0, 1, 1, 1]) (blockL 1 (seqL (fun k al H => LPL cfg (cfg.keep 12) 62 (sub (bodyOf Tryz.f12) [1, 1, 1, 0, 0, 0]) k (trimL (cfg.keep 12) (sub (bodyOf Tryz.f12) [1, 1, 1, 0, 0, 0]) al) H) (blockL 0 (texttoolsref20_Parse_K1 H0)))) [(0, x0), (2, x2), (6, x6), (8, x8), (9, x9)] H
noncomputable def texttoolsref20_Parse_J3 (x0 x2 x6 x7 : AV) (H0 H : Hp) : Res := CXL cfg (callw cfg) (LPL cfg (cfg.keep 12) 62) (cfg.keep 12) 62 seqL blockL (sub (bodyOf Tryz.f12) [1, 1, 1, 0, 0, 0, 1, 0, 1]) (blockL 1 (seqL (fun k al H => LPL cfg (cfg.keep 12) 62 (sub (bodyOf Tryz.f12) [1, 1, 1, 0, 0, 0]) k (trimL (cfg.keep 12) (sub (bodyOf Tryz.f12) [1, 1, 1, 0, 0, 0]) al) H) (blockL 0 (texttoolsref20_Parse_K1 H0)))) [(0, x0), (2, x2), (6, x6), (7, x7)] H
noncomputable def texttoolsref20_Parse_J2 (x0 x2 x6 x7 : AV) (H0 H : Hp) : Res := CXL cfg (callw cfg) (LPL cfg (cfg.keep 12) 62) (cfg.keep 12) 62 seqL blockL (sub (bodyOf Tryz.f12) [1, 1, 1, 0, 0, 0, 1]) (seqL (fun k al H => LPL cfg (cfg.keep 12) 62 (sub (bodyOf Tryz.f12) [1, 1, 1, 0, 0, 0]) k (trimL (cfg.keep 12) (sub (bodyOf Tryz.f12) [1, 1, 1, 0, 0, 0]) al) H) (blockL 0 (texttoolsref20_Parse_K1 H0))) [(0, x0), (2, x2), (6, x6), (7, x7)] H
noncomputable def texttoolsref20_Parse_L1 (x0 x2 x6 x7 : AV) (H0 H : Hp) : Res := LPL cfg (cfg.keep 12) 62 (sub (bodyOf Tryz.f12) [1, 1, 1, 0, 0, 0]) (blockL 0 (texttoolsref20_Parse_K1 H0)) [(0, x0), (2, x2), (6, x6), (7, x7)] H
noncomputable def F_texttoolsref20_Parse (p0 : AV) (H : Hp) : Res :=
  bnd (some ((.ptr H.length 0), H ++ [.cells [.nils, (.int .i64 0), (.int .i64 0), (.bool false), (.bool false)]])) fun r2_1 =>
  bnd ((afill [(1, 1, (.int .i64 (-1)))] [.nils, (.int .i64 0), (.int .i64 0), (.bool false), (.bool false)]).map .agg) fun t12_2 =>
  bnd (some ((.ptr r2_1.2.length 0), r2_1.2 ++ [.cells [.nils, (.int .i64 0), (.int .i64 0), (.bool false), (.bool false)]])) fun r6_3 =>
  bnd (astoreU 5 r6_3.1 t12_2 r6_3.2) fun r_4 =>
  texttoolsref20_Parse_L1 p0 r2_1.1 r6_3.1 (.int .i64 0) H r_4.2
theorem texttoolsref20_Parse_J1_eq (x0 x2 x6 x7 : AV) (H0 H : Hp) : texttoolsref20_Parse_J1 x0 x2 x6 x7 H0 H =
    frzK x6 H fun z6_5 z6_5H =>
    bnd (aloadv true 5 z6_5) fun t56_6 =>
    bnd (asliceV 1 x0 (some x7) none none) fun t60_7 =>
    bnd (aappE 1 16 .nils t60_7 z6_5H) fun r61_8 =>
    bnd (astoreU 5 x2 t56_6 r61_8.2) fun r_9 =>
    bnd (aload true 5 x2 r_9.2) fun v2_10 =>
    some ((.tuple [v2_10, r61_8.1, (.int .i64 0), (.int .i64 0)]), r_9.2) := (CXM_eq [4, 6, 9, 10] _ _ _ _).trans (by kernel_rfl)
theorem texttoolsref20_Parse_J4_eq (x0 x2 x6 x8 x9 : AV) (H0 H : Hp) : texttoolsref20_Parse_J4 x0 x2 x6 x8 x9 H0 H =
    bnd (aload true 5 x8 H) fun t53_18 =>
    bnd (ibin .add x9 (.int .i64 1)) fun t55_19 =>
    bnd (astoreU 5 x6 t53_18 H) fun r_20 =>
    texttoolsref20_Parse_L1 x0 x2 x6 t55_19 H0 r_20.2 := (CXM_eq [4, 6, 9, 10] _ _ _ _).trans (by kernel_rfl)
theorem texttoolsref20_Parse_J3_eq (x0 x2 x6 x7 : AV) (H0 H : Hp) : texttoolsref20_Parse_J3 x0 x2 x6 x7 H0 H =
    bnd (aload true 5 x6 H) fun t41_11 =>
    bnd (C_texttoolsref20_options [t41_11, x0, x7] H) fun r44_12 =>
    bnd (aext r44_12.1 0) fun t45_13 =>
    bnd (aext r44_12.1 1) fun t46_14 =>
    bnd (aext r44_12.1 2) fun t47_15 =>
    bnd (some ((.ptr r44_12.2.length 0), r44_12.2 ++ [.cells [.nils, (.int .i64 0), (.int .i64 0), (.bool false), (.bool false)]])) fun r8_16 =>
    bnd (astoreU 5 r8_16.1 t45_13 r8_16.2) fun r_17 =>
    bnd (ibin .neq t47_15 (.int .i64 0)) fun t49_21 =>
    cnd t49_21
      (bnd (some (.agg [.nils, (.int .i64 0), (.int .i64 0), (.bool false), (.bool false)])) fun t50_22 =>
      bnd (astoreU 5 x2 t50_22 r_17.2) fun r_23 =>
      bnd (aload true 5 x2 r_23.2) fun v2_24 =>
      some ((.tuple [v2_24, .nils, t47_15, t46_14]), r_23.2))
      (texttoolsref20_Parse_J4 x0 x2 x6 r8_16.1 t46_14 H0 r_17.2) := (CXM_eq [4, 6, 9, 10] _ _ _ _).trans (by kernel_rfl)
theorem texttoolsref20_Parse_J2_eq (x0 x2 x6 x7 : AV) (H0 H : Hp) : texttoolsref20_Parse_J2 x0 x2 x6 x7 H0 H =
    bnd (aindexS 1 x0 x7) fun t35_25 =>
    bnd (aload false 1 t35_25 H) fun t36_26 =>
    bnd (sbin .eql t36_26 (.str [45, 45])) fun t37_27 =>
    cnd t37_27
      (bnd (ibin .add x7 (.int .i64 1)) fun t39_28 =>
      texttoolsref20_Parse_J1 x0 x2 x6 t39_28 H0 H)
      (texttoolsref20_Parse_J3 x0 x2 x6 x7 H0 H) := (CXM_eq [4, 6, 9, 10] _ _ _ _).trans (by kernel_rfl)
theorem texttoolsref20_Parse_L1_eq (x0 x2 x6 x7 : AV) (H0 H : Hp) : texttoolsref20_Parse_L1 x0 x2 x6 x7 H0 H =
    bnd (alenD (.slice 9) x0) fun t15_29 =>
    bnd (ibin .lss x7 t15_29) fun t16_30 =>
    bnd (gdv t16_30 true (.tuple []) (some x0)) fun t18_31 =>
    bnd (gdv t16_30 true (.tuple []) (some x7)) fun t19_32 =>
    bnd (gdv t16_30 true (.tuple []) (aindexS 1 t18_31 t19_32)) fun t20_33 =>
    bnd (gdv t16_30 true (.tuple []) (aload false 1 t20_33 H)) fun t21_34 =>
    bnd (gdv t16_30 true (.tuple []) (alenD .string t21_34)) fun t22_35 =>
    bnd (gdv t16_30 true (.tuple []) (ibin .gtr t22_35 (.int .i64 1))) fun t23_36 =>
    bnd (apick t16_30 t23_36 (.bool false)) fun t24_37 =>
    bnd (gdv t24_37 true (.tuple []) (some x0)) fun t26_38 =>
    bnd (gdv t24_37 true (.tuple []) (some x7)) fun t27_39 =>
    bnd (gdv t24_37 true (.tuple []) (aindexS 1 t26_38 t27_39)) fun t28_40 =>
    bnd (gdv t24_37 true (.tuple []) (aload false 1 t28_40 H)) fun t29_41 =>
    bnd (gdv t24_37 true (.tuple []) (aindexStr t29_41 (.int .i64 0))) fun t30_42 =>
    bnd (gdv t24_37 true (.tuple []) (ibin .eql t30_42 (.int .u8 45))) fun t31_43 =>
    bnd (apick t24_37 t31_43 (.bool false)) fun t32_44 =>
    cnd t32_44
      (texttoolsref20_Parse_J2 x0 x2 x6 x7 H0 H)
      (texttoolsref20_Parse_J1 x0 x2 x6 x7 H0 H) := (LPL_eqm (C := cfg) [4, 6, 9, 10] (tame_block 0 (texttoolsref20_Parse_K1_tame H0)) _ _).trans (by kernel_rfl)
theorem F_texttoolsref20_Parse_eq (p0 : AV) (H : Hp) : C_texttoolsref20_Parse [p0] H = F_texttoolsref20_Parse p0 H := (callw_cxm (C := cfg) (fn := Tryz.f12) (c := bodyOf Tryz.f12) (n := 62) [4, 6, 9, 10] Tryz.func12 (by kernel_rfl) (by kernel_rfl) [p0] (by kernel_rfl) H).trans (by kernel_rfl)

/-! ### texttoolsref20_options -/
noncomputable def texttoolsref20_options_J1 (x2 x3 x6 : AV) (H0 H : Hp) : Res := CXL cfg (callw cfg) (LPL cfg (cfg.keep 28) 89) (cfg.keep 28) 89 seqL blockL (sub (bodyOf Tryz.f28) [1, 1, 1]) (retL cfg 89 28 Tryz.f28 H0) [(2, x2), (3, x3), (6, x6)] H
noncomputable def texttoolsref20_options_K1 (H0 : Hp) : KL := seqL (fun k al H => CXL cfg (callw cfg) (LPL cfg (cfg.keep 28) 89) (cfg.keep 28) 89 seqL blockL (sub (bodyOf Tryz.f28) [1, 1, 1]) k (trimL (cfg.keep 28) (sub (bodyOf Tryz.f28) [1, 1, 1]) al) H) (retL cfg 89 28 Tryz.f28 H0)
theorem texttoolsref20_options_K1_tame (H0 : Hp) : Tame 89 (texttoolsref20_options_K1 H0) := tame_seq (C := cfg) (kp := cfg.keep 28) (sub (bodyOf Tryz.f28) [1, 1, 1]) (tame_ret 28 Tryz.f28 H0)
noncomputable def texttoolsref20_options_J3 (x1 x2 x3 x6 x9 x10 : AV) (H0 H : Hp) : Res := CXL cfg (callw cfg) (LPL cfg (cfg.keep 28) 89) (cfg.keep 28) 89 seqL blockL (sub (bodyOf Tryz.f28) [1, 1, 0, 1, 0, 0, 1, 1]) (seqL (fun k al H => LPL cfg (cfg.keep 28) 89 (sub (bodyOf Tryz.f28) [1, 1, 0, 1, 0, 0]) k (trimL (cfg.keep 28) (sub (bodyOf Tryz.f28) [1, 1, 0, 1, 0, 0]) al) H) (blockL 0 (texttoolsref20_options_K1 H0))) [(1, x1), (2, x2), (3, x3), (6, x6), (9, x9), (10, x10)] H
noncomputable def texttoolsref20_options_K2 (H0 : Hp) : KL := seqL (fun k al H => CXL cfg (callw cfg) (LPL cfg (cfg.keep 28) 89) (cfg.keep 28) 89 seqL blockL (sub (bodyOf Tryz.f28) [1, 1, 0, 1, 0, 0, 1, 1]) k (trimL (cfg.keep 28) (sub (bodyOf Tryz.f28) [1, 1, 0, 1, 0, 0, 1, 1]) al) H) (seqL (fun k al H => LPL cfg (cfg.keep 28) 89 (sub (bodyOf Tryz.f28) [1, 1, 0, 1, 0, 0]) k (trimL (cfg.keep 28) (sub (bodyOf Tryz.f28) [1, 1, 0, 1, 0, 0]) al) H) (blockL 0 (texttoolsref20_options_K1 H0)))
noncomputable def texttoolsref20_options_J5 (x1 x2 x3 x6 x9 x10 x15 : AV) (H0 H : Hp) : Res := CXL cfg (callw cfg) (LPL cfg (cfg.keep 28) 89) (cfg.keep 28) 89 seqL blockL (sub (bodyOf Tryz.f28) [1, 1, 0, 1, 0, 0, 1, 0, 0, 1, 1, 1]) (blockL 1 (texttoolsref20_options_K2 H0)) [(1, x1), (2, x2), (3, x3), (6, x6), (9, x9), (10, x10), (15, x15)] H
noncomputable def texttoolsref20_options_J4 (x1 x2 x3 x6 x9 x10 : AV) (H0 H : Hp) : Res := CXL cfg (callw cfg) (LPL cfg (cfg.keep 28) 89) (cfg.keep 28) 89 seqL blockL (sub (bodyOf Tryz.f28) [1, 1, 0, 1, 0, 0, 1, 0, 0, 1]) (blockL 1 (texttoolsref20_options_K2 H0)) [(1, x1), (2, x2), (3, x3), (6, x6), (9, x9), (10, x10)] H
noncomputable def texttoolsref20_options_K3 (H0 : Hp) : KL := seqL (fun k al H => CXL cfg (callw cfg) (LPL cfg (cfg.keep 28) 89) (cfg.keep 28) 89 seqL blockL (sub (bodyOf Tryz.f28) [1, 1, 0, 1, 0, 0, 1, 0, 0, 1]) k (trimL (cfg.keep 28) (sub (bodyOf Tryz.f28) [1, 1, 0, 1, 0, 0, 1, 0, 0, 1]) al) H) (blockL 1 (texttoolsref20_options_K2 H0))
noncomputable def texttoolsref20_options_J7 (x3 x6 x9 x10 x11 x12 : AV) (H0 H : Hp) : Res := CXL cfg (callw cfg) (LPL cfg (cfg.keep 28) 89) (cfg.keep 28) 89 seqL blockL (sub (bodyOf Tryz.f28) [1, 1, 0, 1, 0, 0, 1, 0, 0, 0, 1, 0, 1, 1, 1]) (texttoolsref20_options_K3 H0) [(3, x3), (6, x6), (9, x9), (10, x10), (11, x11), (12, x12)] H
noncomputable def texttoolsref20_options_J6 (x1 x2 x3 x6 x9 x10 x11 x12 : AV) (H0 H : Hp) : Res := CXL cfg (callw cfg) (LPL cfg (cfg.keep 28) 89) (cfg.keep 28) 89 seqL blockL (sub (bodyOf Tryz.f28) [1, 1, 0, 1, 0, 0, 1, 0, 0, 0, 1, 0, 1, 1]) (texttoolsref20_options_K3 H0) [(1, x1), (2, x2), (3, x3), (6, x6), (9, x9), (10, x10), (11, x11), (12, x12)] H
noncomputable def texttoolsref20_options_J2 (x1 x2 x3 x6 x9 x10 : AV) (H0 H : Hp) : Res := CXL cfg (callw cfg) (LPL cfg (cfg.keep 28) 89) (cfg.keep 28) 89 seqL blockL (sub (bodyOf Tryz.f28) [1, 1, 0, 1, 0, 0, 1]) (seqL (fun k al H => LPL cfg (cfg.keep 28) 89 (sub (bodyOf Tryz.f28) [1, 1, 0, 1, 0, 0]) k (trimL (cfg.keep 28) (sub (bodyOf Tryz.f28) [1, 1, 0, 1, 0, 0]) al) H) (blockL 0 (texttoolsref20_options_K1 H0))) [(1, x1), (2, x2), (3, x3), (6, x6), (9, x9), (10, x10)] H
noncomputable def texttoolsref20_options_L1 (x1 x2 x3 x6 x9 x10 : AV) (H0 H : Hp) : Res := LPL cfg (cfg.keep 28) 89 (sub (bodyOf Tryz.f28) [1, 1, 0, 1, 0, 0]) (blockL 0 (texttoolsref20_options_K1 H0)) [(1, x1), (2, x2), (3, x3), (6, x6), (9, x9), (10, x10)] H
noncomputable def F_texttoolsref20_options (p0 p1 p2 : AV) (H : Hp) : Res :=
  bnd (abox p0 H) fun r3_1 =>
  bnd (some ((.ptr r3_1.2.length 0), r3_1.2 ++ [.cells [.nils, (.int .i64 0), (.int .i64 0), (.bool false), (.bool false)]])) fun r6_2 =>
  bnd (aindexS 1 p1 p2) fun t19_3 =>
  bnd (aload false 1 t19_3 r6_2.2) fun t20_4 =>
  texttoolsref20_options_L1 p1 p2 r3_1.1 r6_2.1 t20_4 (.int .i64 1) H r6_2.2
theorem texttoolsref20_options_J1_eq (x2 x3 x6 : AV) (H0 H : Hp) : texttoolsref20_options_J1 x2 x3 x6 H0 H =
    bnd (aload true 5 x3 H) fun t87_5 =>
    bnd (astoreU 5 x6 t87_5 H) fun r_6 =>
    bnd (aload true 5 x6 r_6.2) fun v6_7 =>
    some ((.tuple [v6_7, x2, (.int .i64 0)]), r_6.2) := (CXM_eq [4, 5, 9, 11, 13, 16, 17] _ _ _ _).trans (by kernel_rfl)
theorem texttoolsref20_options_J3_eq (x1 x2 x3 x6 x9 x10 : AV) (H0 H : Hp) : texttoolsref20_options_J3 x1 x2 x3 x6 x9 x10 H0 H =
    bnd (ibin .add x10 (.int .i64 1)) fun t26_8 =>
    texttoolsref20_options_L1 x1 x2 x3 x6 x9 t26_8 H0 H := (CXM_eq [4, 5, 9, 11, 13, 16, 17] _ _ _ _).trans (by kernel_rfl)
theorem texttoolsref20_options_J5_eq (x1 x2 x3 x6 x9 x10 x15 : AV) (H0 H : Hp) : texttoolsref20_options_J5 x1 x2 x3 x6 x9 x10 x15 H0 H =
    bnd (aload true 5 x15 H) fun t86_16 =>
    bnd (astoreU 5 x3 t86_16 H) fun r_17 =>
    texttoolsref20_options_J3 x1 x2 x3 x6 x9 x10 H0 r_17.2 := (CXM_eq [4, 5, 9, 11, 13, 16, 17] _ _ _ _).trans (by kernel_rfl)
theorem texttoolsref20_options_J4_eq (x1 x2 x3 x6 x9 x10 : AV) (H0 H : Hp) : texttoolsref20_options_J4 x1 x2 x3 x6 x9 x10 H0 H =
    bnd (aload true 5 x3 (H ++ [.free])) fun t75_9 =>
    bnd (aindexStr x9 x10) fun t78_10 =>
    bnd (C_texttoolsref20_simple [t75_9, t78_10] (H ++ [.free])) fun r79_11 =>
    bnd (aext r79_11.1 0) fun t80_12 =>
    bnd (aext r79_11.1 1) fun t81_13 =>
    bnd (alag (H.length + 0) (some [.nils, (.int .i64 0), (.int .i64 0), (.bool false), (.bool false)]) r79_11.2) fun r15_14 =>
    bnd (astoreU 5 r15_14.1 t80_12 r15_14.2) fun r_15 =>
    bnd (aun .not t81_13) fun t83_18 =>
    cnd t83_18
      (bnd (aload true 5 x3 r_15.2) fun t84_19 =>
      bnd (astoreU 5 x6 t84_19 r_15.2) fun r_20 =>
      bnd (aload true 5 x6 r_20.2) fun v6_21 =>
      some ((.tuple [v6_21, x2, (.int .i64 18)]), r_20.2))
      (texttoolsref20_options_J5 x1 x2 x3 x6 x9 x10 r15_14.1 H0 r_15.2) := (CXM_eq [4, 5, 9, 11, 13, 16, 17] _ _ _ _).trans (by kernel_rfl)
theorem texttoolsref20_options_J7_eq (x3 x6 x9 x10 x11 x12 : AV) (H0 H : Hp) : texttoolsref20_options_J7 x3 x6 x9 x10 x11 x12 H0 H =
    bnd (aload true 5 x3 (H ++ [.free])) fun t63_31 =>
    bnd (aindexStr x9 x10) fun t66_32 =>
    bnd (C_texttoolsref20_valued [t63_31, t66_32, x11] (H ++ [.free])) fun r68_33 =>
    bnd (aext r68_33.1 0) fun t69_34 =>
    bnd (aext r68_33.1 1) fun t70_35 =>
    bnd (alag (H.length + 0) (some [.nils, (.int .i64 0), (.int .i64 0), (.bool false), (.bool false)]) r68_33.2) fun r13_36 =>
    bnd (astoreU 5 r13_36.1 t69_34 r13_36.2) fun r_37 =>
    bnd (aload true 5 r13_36.1 r_37.2) fun t71_38 =>
    bnd (astoreU 5 x6 t71_38 r_37.2) fun r_39 =>
    bnd (aload true 5 x6 r_39.2) fun v6_40 =>
    some ((.tuple [v6_40, x12, t70_35]), r_39.2) := (CXM_eq [4, 5, 9, 11, 13, 16, 17] _ _ _ _).trans (by kernel_rfl)
theorem texttoolsref20_options_J6_eq (x1 x2 x3 x6 x9 x10 x11 x12 : AV) (H0 H : Hp) : texttoolsref20_options_J6 x1 x2 x3 x6 x9 x10 x11 x12 H0 H =
    bnd (sbin .eql x11 (.str [])) fun t54_41 =>
    cnd t54_41
      (bnd (ibin .add x2 (.int .i64 1)) fun t57_42 =>
      bnd (aindexS 1 x1 t57_42) fun t58_43 =>
      bnd (aload false 1 t58_43 H) fun t59_44 =>
      bnd (ibin .add x2 (.int .i64 1)) fun t61_45 =>
      texttoolsref20_options_J7 x3 x6 x9 x10 t59_44 t61_45 H0 H)
      (texttoolsref20_options_J7 x3 x6 x9 x10 x11 x12 H0 H) := (CXM_eq [4, 5, 9, 11, 13, 16, 17] _ _ _ _).trans (by kernel_rfl)
theorem texttoolsref20_options_J2_eq (x1 x2 x3 x6 x9 x10 : AV) (H0 H : Hp) : texttoolsref20_options_J2 x1 x2 x3 x6 x9 x10 H0 H =
    bnd (aindexStr x9 x10) fun t29_22 =>
    bnd (ibin .eql t29_22 (.int .u8 116)) fun t30_23 =>
    bnd (gdv t30_23 false (.tuple []) (some x9)) fun t32_24 =>
    bnd (gdv t30_23 false (.tuple []) (some x10)) fun t33_25 =>
    bnd (gdv t30_23 false (.tuple []) (aindexStr t32_24 t33_25)) fun t34_26 =>
    bnd (gdv t30_23 false (.tuple []) (ibin .eql t34_26 (.int .u8 107))) fun t35_27 =>
    bnd (apick t30_23 (.bool true) t35_27) fun t36_28 =>
    cnd t36_28
      (bnd (ibin .add x10 (.int .i64 1)) fun t39_29 =>
      bnd (asliceS x9 (some t39_29) none none) fun t40_30 =>
      bnd (sbin .eql t40_30 (.str [])) fun t43_46 =>
      bnd (gdv t43_46 true (.tuple []) (some x2)) fun t45_47 =>
      bnd (gdv t43_46 true (.tuple []) (ibin .add t45_47 (.int .i64 1))) fun t46_48 =>
      bnd (gdv t43_46 true (.tuple []) (some x1)) fun t47_49 =>
      bnd (gdv t43_46 true (.tuple []) (alenD (.slice 9) t47_49)) fun t48_50 =>
      bnd (gdv t43_46 true (.tuple []) (ibin .geq t46_48 t48_50)) fun t49_51 =>
      bnd (apick t43_46 t49_51 (.bool false)) fun t50_52 =>
      cnd t50_52
        (bnd (aload true 5 x3 H) fun t51_53 =>
        bnd (astoreU 5 x6 t51_53 H) fun r_54 =>
        bnd (aload true 5 x6 r_54.2) fun v6_55 =>
        some ((.tuple [v6_55, x2, (.int .i64 18)]), r_54.2))
        (texttoolsref20_options_J6 x1 x2 x3 x6 x9 x10 t40_30 x2 H0 H))
      (texttoolsref20_options_J4 x1 x2 x3 x6 x9 x10 H0 H) := (CXM_eq [4, 5, 9, 11, 13, 16, 17] _ _ _ _).trans (by kernel_rfl)
theorem texttoolsref20_options_L1_eq (x1 x2 x3 x6 x9 x10 : AV) (H0 H : Hp) : texttoolsref20_options_L1 x1 x2 x3 x6 x9 x10 H0 H =
    bnd (alenD .string x9) fun t23_56 =>
    bnd (ibin .lss x10 t23_56) fun t24_57 =>
    cnd t24_57
      (texttoolsref20_options_J2 x1 x2 x3 x6 x9 x10 H0 H)
      (texttoolsref20_options_J1 x2 x3 x6 H0 H) := (LPL_eqm (C := cfg) [4, 5, 9, 11, 13, 16, 17] (tame_block 0 (texttoolsref20_options_K1_tame H0)) _ _).trans (by kernel_rfl)
theorem F_texttoolsref20_options_eq (p0 p1 p2 : AV) (H : Hp) : C_texttoolsref20_options [p0, p1, p2] H = F_texttoolsref20_options p0 p1 p2 H := (callw_cxm (C := cfg) (fn := Tryz.f28) (c := bodyOf Tryz.f28) (n := 89) [4, 5, 9, 11, 13, 16, 17] Tryz.func28 (by kernel_rfl) (by kernel_rfl) [p0, p1, p2] (by kernel_rfl) H).trans (by kernel_rfl)

/-! ### texttoolsref20_valued -/
noncomputable def texttoolsref20_valued_J2 (x2 x3 x6 : AV) (H0 H : Hp) : Res := CXL cfg (callw cfg) (LPL cfg (cfg.keep 50) 44) (cfg.keep 50) 44 seqL blockL (sub (bodyOf Tryz.f50) [1, 1, 1]) (retL cfg 44 50 Tryz.f50 H0) [(2, x2), (3, x3), (6, x6)] H
noncomputable def texttoolsref20_valued_J1 (x2 x3 x6 : AV) (H0 H : Hp) : Res := CXL cfg (callw cfg) (LPL cfg (cfg.keep 50) 44) (cfg.keep 50) 44 seqL blockL (sub (bodyOf Tryz.f50) [1, 1]) (retL cfg 44 50 Tryz.f50 H0) [(2, x2), (3, x3), (6, x6)] H
noncomputable def texttoolsref20_valued_K1 (H0 : Hp) : KL := seqL (fun k al H => CXL cfg (callw cfg) (LPL cfg (cfg.keep 50) 44) (cfg.keep 50) 44 seqL blockL (sub (bodyOf Tryz.f50) [1, 1]) k (trimL (cfg.keep 50) (sub (bodyOf Tryz.f50) [1, 1]) al) H) (retL cfg 44 50 Tryz.f50 H0)
noncomputable def texttoolsref20_valued_J3 (x2 x3 x6 : AV) (H0 H : Hp) : Res := CXL cfg (callw cfg) (LPL cfg (cfg.keep 50) 44) (cfg.keep 50) 44 seqL blockL (sub (bodyOf Tryz.f50) [1, 0, 1, 0, 1]) (texttoolsref20_valued_K1 H0) [(2, x2), (3, x3), (6, x6)] H
noncomputable def F_texttoolsref20_valued (p0 p1 p2 : AV) (H : Hp) : Res :=
  bnd (abox p0 H) fun r3_1 =>
  bnd (some ((.ptr r3_1.2.length 0), r3_1.2 ++ [.cells [.nils, (.int .i64 0), (.int .i64 0), (.bool false), (.bool false)]])) fun r6_2 =>
  bnd (ibin .eql p1 (.int .u8 116)) fun t11_25 =>
  cnd t11_25
    (bnd (alenD .string p2) fun t13_33 =>
    bnd (ibin .neq t13_33 (.int .i64 1)) fun t14_34 =>
    bnd (gdv t14_34 false (.tuple []) (some p2)) fun t16_35 =>
    bnd (gdv t14_34 false (.tuple []) (aindexStr t16_35 (.int .i64 0))) fun t17_36 =>
    bnd (gdv t14_34 false (.tuple []) (ibin .eql t17_36 (.int .u8 10))) fun t18_37 =>
    bnd (apick t14_34 (.bool true) t18_37) fun t19_38 =>
    cnd t19_38
      (bnd (aload true 5 r3_1.1 r6_2.2) fun t20_39 =>
      bnd (astoreU 5 r6_2.1 t20_39 r6_2.2) fun r_40 =>
      bnd (aload true 5 r6_2.1 r_40.2) fun v6_41 =>
      some ((.tuple [v6_41, (.int .i64 18)]), r_40.2))
      (texttoolsref20_valued_J3 p2 r3_1.1 r6_2.1 H r6_2.2))
    (texttoolsref20_valued_J1 p2 r3_1.1 r6_2.1 H r6_2.2)
theorem texttoolsref20_valued_J2_eq (x2 x3 x6 : AV) (H0 H : Hp) : texttoolsref20_valued_J2 x2 x3 x6 H0 H =
    bnd (flatC C_texttoolsref20_key [x2] H) fun r33_3 =>
    bnd (aext r33_3.1 0) fun t34_4 =>
    bnd (aext r33_3.1 1) fun t35_5 =>
    bnd (some ((.ptr r33_3.2.length 0), r33_3.2 ++ [.cells [(.int .i64 0), (.int .i64 0), (.int .i64 0), (.int .i64 0), (.int .i64 0)]])) fun r8_6 =>
    bnd (astoreU 5 r8_6.1 t34_4 r8_6.2) fun r_7 =>
    bnd (afield 0 x3) fun t36_8 =>
    bnd (aload false 1 t36_8 r_7.2) fun t37_9 =>
    bnd (aload true 5 r8_6.1 r_7.2) fun t38_10 =>
    bnd ((setElems 5 [(0, t38_10)] [(.agg [(.int .i64 0), (.int .i64 0), (.int .i64 0), (.int .i64 0), (.int .i64 0)])]).map (.vs 5 .clip)) fun t39_11 =>
    bnd (aappE 5 40 t37_9 t39_11 r_7.2) fun r40_12 =>
    bnd (afield 0 x3) fun t41_13 =>
    bnd (astoreU 1 t41_13 r40_12.1 r40_12.2) fun r_14 =>
    bnd (aload true 5 x3 r_14.2) fun t42_15 =>
    bnd (astoreU 5 x6 t42_15 r_14.2) fun r_16 =>
    bnd (aload true 5 x6 r_16.2) fun v6_17 =>
    some ((.tuple [v6_17, t35_5]), r_16.2) := (CXM_eq [4, 6, 8] _ _ _ _).trans (by kernel_rfl)
theorem texttoolsref20_valued_J1_eq (x2 x3 x6 : AV) (H0 H : Hp) : texttoolsref20_valued_J1 x2 x3 x6 H0 H =
    bnd (afield 0 x3) fun t26_18 =>
    bnd (aload false 1 t26_18 H) fun t27_19 =>
    bnd (alenD (.slice 34) t27_19) fun t28_20 =>
    bnd (ibin .geq t28_20 (.int .i64 8)) fun t29_21 =>
    cnd t29_21
      (bnd (aload true 5 x3 H) fun t30_22 =>
      bnd (astoreU 5 x6 t30_22 H) fun r_23 =>
      bnd (aload true 5 x6 r_23.2) fun v6_24 =>
      some ((.tuple [v6_24, (.int .i64 3)]), r_23.2))
      (texttoolsref20_valued_J2 x2 x3 x6 H0 H) := (CXM_eq [4, 6, 8] _ _ _ _).trans (by kernel_rfl)
theorem texttoolsref20_valued_J3_eq (x2 x3 x6 : AV) (H0 H : Hp) : texttoolsref20_valued_J3 x2 x3 x6 H0 H =
    bnd (aindexStr x2 (.int .i64 0)) fun t22_26 =>
    bnd (cvInt .i64 t22_26) fun t23_27 =>
    bnd (afield 1 x3) fun t24_28 =>
    bnd (astoreU 1 t24_28 t23_27 H) fun r_29 =>
    bnd (aload true 5 x3 r_29.2) fun t25_30 =>
    bnd (astoreU 5 x6 t25_30 r_29.2) fun r_31 =>
    bnd (aload true 5 x6 r_31.2) fun v6_32 =>
    some ((.tuple [v6_32, (.int .i64 0)]), r_31.2) := (CXM_eq [4, 6, 8] _ _ _ _).trans (by kernel_rfl)
theorem F_texttoolsref20_valued_eq (p0 p1 p2 : AV) (H : Hp) : C_texttoolsref20_valued [p0, p1, p2] H = F_texttoolsref20_valued p0 p1 p2 H := (callw_cxm (C := cfg) (fn := Tryz.f50) (c := bodyOf Tryz.f50) (n := 44) [4, 6, 8] Tryz.func50 (by kernel_rfl) (by kernel_rfl) [p0, p1, p2] (by kernel_rfl) H).trans (by kernel_rfl)

/-! ### texttoolsref20_simple -/
noncomputable def texttoolsref20_simple_J1 (x2 x4 : AV) (H0 H : Hp) : Res := CXL cfg (callw cfg) (LPL cfg (cfg.keep 51) 26) (cfg.keep 51) 26 seqL blockL (sub (bodyOf Tryz.f51) [1, 1]) (retL cfg 26 51 Tryz.f51 H0) [(2, x2), (4, x4)] H
noncomputable def F_texttoolsref20_simple (p0 p1 : AV) (H : Hp) : Res :=
  bnd (abox p0 H) fun r2_1 =>
  bnd (some ((.ptr r2_1.2.length 0), r2_1.2 ++ [.cells [.nils, (.int .i64 0), (.int .i64 0), (.bool false), (.bool false)]])) fun r4_2 =>
  bnd (flatC C_texttoolsref20_flag [p1] r4_2.2) fun r9_6 =>
  bnd (ibin .neq r9_6.1 (.int .i64 0)) fun t10_7 =>
  cnd t10_7
    (bnd (afield 2 r2_1.1) fun t11_8 =>
    bnd (aload false 1 t11_8 r9_6.2) fun t12_9 =>
    bnd (flatC C_texttoolsref20_flag [p1] r9_6.2) fun r14_10 =>
    bnd (flatC C_texttoolsref20_with [t12_9, r14_10.1] r14_10.2) fun r15_11 =>
    bnd (afield 2 r2_1.1) fun t16_12 =>
    bnd (astoreU 1 t16_12 r15_11.1 r15_11.2) fun r_13 =>
    texttoolsref20_simple_J1 r2_1.1 r4_2.1 H r_13.2)
    (bnd (ibin .eql p1 (.int .u8 117)) fun t19_14 =>
    cnd t19_14
      (bnd (afield 3 r2_1.1) fun t20_15 =>
      bnd (astoreU 1 t20_15 (.bool true) r9_6.2) fun r_16 =>
      texttoolsref20_simple_J1 r2_1.1 r4_2.1 H r_16.2)
      (bnd (ibin .eql p1 (.int .u8 115)) fun t23_17 =>
      cnd t23_17
        (bnd (afield 4 r2_1.1) fun t24_18 =>
        bnd (astoreU 1 t24_18 (.bool true) r9_6.2) fun r_19 =>
        texttoolsref20_simple_J1 r2_1.1 r4_2.1 H r_19.2)
        (bnd (aload true 5 r2_1.1 r9_6.2) fun t6_20 =>
        bnd (astoreU 5 r4_2.1 t6_20 r9_6.2) fun r_21 =>
        bnd (aload true 5 r4_2.1 r_21.2) fun v4_22 =>
        some ((.tuple [v4_22, (.bool false)]), r_21.2))))
theorem texttoolsref20_simple_J1_eq (x2 x4 : AV) (H0 H : Hp) : texttoolsref20_simple_J1 x2 x4 H0 H =
    bnd (aload true 5 x2 H) fun t25_3 =>
    bnd (astoreU 5 x4 t25_3 H) fun r_4 =>
    bnd (aload true 5 x4 r_4.2) fun v4_5 =>
    some ((.tuple [v4_5, (.bool true)]), r_4.2) := (CXM_eq [8] _ _ _ _).trans (by kernel_rfl)
theorem F_texttoolsref20_simple_eq (p0 p1 : AV) (H : Hp) : C_texttoolsref20_simple [p0, p1] H = F_texttoolsref20_simple p0 p1 H := (callw_cxm (C := cfg) (fn := Tryz.f51) (c := bodyOf Tryz.f51) (n := 26) [8] Tryz.func51 (by kernel_rfl) (by kernel_rfl) [p0, p1] (by kernel_rfl) H).trans (by kernel_rfl)

/-! ### texttoolsref20_key -/
noncomputable def texttoolsref20_key_J4 (x2 x4 x5 x6 : AV) (H0 H : Hp) : Res := CXL cfg (callw cfg) (LPL cfg (cfg.keep 78) 76) (cfg.keep 78) 76 seqL blockL (sub (bodyOf Tryz.f78) [1, 1, 1, 1, 1, 1, 1, 1]) (retL cfg 76 78 Tryz.f78 H0) [(2, x2), (4, x4), (5, x5), (6, x6)] H
noncomputable def texttoolsref20_key_K1 (H0 : Hp) : KL := seqL (fun k al H => CXL cfg (callw cfg) (LPL cfg (cfg.keep 78) 76) (cfg.keep 78) 76 seqL blockL (sub (bodyOf Tryz.f78) [1, 1, 1, 1, 1, 1, 1, 1]) k (trimL (cfg.keep 78) (sub (bodyOf Tryz.f78) [1, 1, 1, 1, 1, 1, 1, 1]) al) H) (retL cfg 76 78 Tryz.f78 H0)
theorem texttoolsref20_key_K1_tame (H0 : Hp) : Tame 76 (texttoolsref20_key_K1 H0) := tame_seq (C := cfg) (kp := cfg.keep 78) (sub (bodyOf Tryz.f78) [1, 1, 1, 1, 1, 1, 1, 1]) (tame_ret 78 Tryz.f78 H0)
noncomputable def texttoolsref20_key_J6 (x2 x4 x5 x6 x7 : AV) (H0 H : Hp) : Res := CXL cfg (callw cfg) (LPL cfg (cfg.keep 78) 76) (cfg.keep 78) 76 seqL blockL (sub (bodyOf Tryz.f78) [1, 1, 1, 1, 1, 1, 1, 0, 1, 0, 0, 1, 1]) (seqL (fun k al H => LPL cfg (cfg.keep 78) 76 (sub (bodyOf Tryz.f78) [1, 1, 1, 1, 1, 1, 1, 0, 1, 0, 0]) k (trimL (cfg.keep 78) (sub (bodyOf Tryz.f78) [1, 1, 1, 1, 1, 1, 1, 0, 1, 0, 0]) al) H) (blockL 0 (texttoolsref20_key_K1 H0))) [(2, x2), (4, x4), (5, x5), (6, x6), (7, x7)] H
noncomputable def texttoolsref20_key_J5 (x2 x4 x5 x6 x7 : AV) (H0 H : Hp) : Res := CXL cfg (callw cfg) (LPL cfg (cfg.keep 78) 76) (cfg.keep 78) 76 seqL blockL (sub (bodyOf Tryz.f78) [1, 1, 1, 1, 1, 1, 1, 0, 1, 0, 0, 1]) (seqL (fun k al H => LPL cfg (cfg.keep 78) 76 (sub (bodyOf Tryz.f78) [1, 1, 1, 1, 1, 1, 1, 0, 1, 0, 0]) k (trimL (cfg.keep 78) (sub (bodyOf Tryz.f78) [1, 1, 1, 1, 1, 1, 1, 0, 1, 0, 0]) al) H) (blockL 0 (texttoolsref20_key_K1 H0))) [(2, x2), (4, x4), (5, x5), (6, x6), (7, x7)] H
noncomputable def texttoolsref20_key_L1 (x2 x4 x5 x6 x7 : AV) (H0 H : Hp) : Res := LPL cfg (cfg.keep 78) 76 (sub (bodyOf Tryz.f78) [1, 1, 1, 1, 1, 1, 1, 0, 1, 0, 0]) (blockL 0 (texttoolsref20_key_K1 H0)) [(2, x2), (4, x4), (5, x5), (6, x6), (7, x7)] H
noncomputable def texttoolsref20_key_J3 (x2 x4 x5 : AV) (H0 H : Hp) : Res := CXL cfg (callw cfg) (LPL cfg (cfg.keep 78) 76) (cfg.keep 78) 76 seqL blockL (sub (bodyOf Tryz.f78) [1, 1, 1, 1, 1, 1]) (retL cfg 76 78 Tryz.f78 H0) [(2, x2), (4, x4), (5, x5)] H
noncomputable def texttoolsref20_key_J2 (x2 x4 x5 : AV) (H0 H : Hp) : Res := CXL cfg (callw cfg) (LPL cfg (cfg.keep 78) 76) (cfg.keep 78) 76 seqL blockL (sub (bodyOf Tryz.f78) [1, 1, 1, 1, 1]) (retL cfg 76 78 Tryz.f78 H0) [(2, x2), (4, x4), (5, x5)] H
noncomputable def texttoolsref20_key_J1 (x0 x2 x4 x5 : AV) (H0 H : Hp) : Res := CXL cfg (callw cfg) (LPL cfg (cfg.keep 78) 76) (cfg.keep 78) 76 seqL blockL (sub (bodyOf Tryz.f78) [1, 1, 1, 1]) (retL cfg 76 78 Tryz.f78 H0) [(0, x0), (2, x2), (4, x4), (5, x5)] H
noncomputable def F_texttoolsref20_key (p0 : AV) (H : Hp) : Res :=
  bnd (some ((.ptr H.length 0), H ++ [.cells [(.int .i64 0), (.int .i64 0), (.int .i64 0), (.int .i64 0), (.int .i64 0)]])) fun r2_1 =>
  bnd (flatC C_texttoolsref20_half [p0, (.int .i64 1), (.int .i64 1)] r2_1.2) fun r10_2 =>
  bnd (aext r10_2.1 0) fun t11_3 =>
  bnd (aext r10_2.1 1) fun t12_4 =>
  bnd (some ((.ptr r10_2.2.length 0), r10_2.2 ++ [.cells [(.int .i64 0), (.int .i64 0), (.int .i64 0), (.int .i64 0), (.int .i64 0)]])) fun r4_5 =>
  bnd (astoreU 5 r4_5.1 t11_3 r4_5.2) fun r_6 =>
  bnd (some (.agg [(.int .i64 0), (.int .i64 0), (.int .i64 0), (.int .i64 0), (.int .i64 0)])) fun t13_7 =>
  bnd (some ((.ptr r_6.2.length 0), r_6.2 ++ [.cells [(.int .i64 0), (.int .i64 0), (.int .i64 0), (.int .i64 0), (.int .i64 0)]])) fun r5_8 =>
  bnd (astoreU 5 r5_8.1 t13_7 r5_8.2) fun r_9 =>
  bnd (afield 3 r4_5.1) fun t14_51 =>
  bnd (aload false 1 t14_51 r_9.2) fun t15_52 =>
  bnd (ibin .eql t15_52 (.int .i64 0)) fun t16_53 =>
  bnd (gdv t16_53 true (.tuple []) (some t12_4)) fun t18_54 =>
  bnd (gdv t16_53 true (.tuple []) (alenD .string t18_54)) fun t19_55 =>
  bnd (gdv t16_53 true (.tuple []) (ibin .gtr t19_55 (.int .i64 0))) fun t20_56 =>
  bnd (apick t16_53 t20_56 (.bool false)) fun t21_57 =>
  bnd (gdv t21_57 true (.tuple []) (some t12_4)) fun t23_58 =>
  bnd (gdv t21_57 true (.tuple []) (aindexStr t23_58 (.int .i64 0))) fun t24_59 =>
  bnd (gdv t21_57 true (.tuple []) (ibin .eql t24_59 (.int .u8 44))) fun t25_60 =>
  bnd (apick t21_57 t25_60 (.bool false)) fun t26_61 =>
  cnd t26_61
    (bnd (asliceS t12_4 (some (.int .i64 1)) none none) fun t29_62 =>
    bnd (flatC C_texttoolsref20_half [t29_62, (.int .i64 0), (.int .i64 0)] r_9.2) fun r30_63 =>
    bnd (aext r30_63.1 0) fun t31_64 =>
    bnd (aext r30_63.1 1) fun t32_65 =>
    bnd (astoreU 5 r5_8.1 t31_64 r30_63.2) fun r_66 =>
    texttoolsref20_key_J1 t32_65 r2_1.1 r4_5.1 r5_8.1 H r_66.2)
    (texttoolsref20_key_J1 t12_4 r2_1.1 r4_5.1 r5_8.1 H r_9.2)
theorem texttoolsref20_key_J4_eq (x2 x4 x5 x6 : AV) (H0 H : Hp) : texttoolsref20_key_J4 x2 x4 x5 x6 H0 H =
    bnd (afield 0 x4) fun t66_12 =>
    bnd (aload false 1 t66_12 H) fun t67_13 =>
    bnd (afield 1 x4) fun t68_14 =>
    bnd (aload false 1 t68_14 H) fun t69_15 =>
    bnd (afield 0 x5) fun t70_16 =>
    bnd (aload false 1 t70_16 H) fun t71_17 =>
    bnd (afield 1 x5) fun t72_18 =>
    bnd (aload false 1 t72_18 H) fun t73_19 =>
    bnd ((afill [(0, 1, t67_13), (1, 1, t69_15), (2, 1, t71_17), (3, 1, t73_19), (4, 1, x6)] [(.int .i64 0), (.int .i64 0), (.int .i64 0), (.int .i64 0), (.int .i64 0)]).map .agg) fun t75_20 =>
    bnd (astoreU 5 x2 t75_20 H) fun r_21 =>
    bnd (aload true 5 x2 r_21.2) fun v2_22 =>
    some ((.tuple [v2_22, (.int .i64 0)]), r_21.2) := (CXM_eq [5, 7, 9, 12, 13, 15] _ _ _ _).trans (by kernel_rfl)
theorem texttoolsref20_key_J6_eq (x2 x4 x5 x6 x7 : AV) (H0 H : Hp) : texttoolsref20_key_J6 x2 x4 x5 x6 x7 H0 H =
    bnd (ibin .mul (.int .i64 2) x7) fun t58_23 =>
    texttoolsref20_key_L1 x2 x4 x5 x6 t58_23 H0 H := (CXM_eq [5, 7, 9, 12, 13, 15] _ _ _ _).trans (by kernel_rfl)
theorem texttoolsref20_key_J5_eq (x2 x4 x5 x6 x7 : AV) (H0 H : Hp) : texttoolsref20_key_J5 x2 x4 x5 x6 x7 H0 H =
    bnd (afield 2 x5) fun t59_24 =>
    bnd (aload false 1 t59_24 H) fun t60_25 =>
    bnd (flatC C_texttoolsref20_Has [t60_25, x7] H) fun r62_26 =>
    cnd r62_26.1
      (bnd (flatC C_texttoolsref20_with [x6, x7] r62_26.2) fun r65_27 =>
      texttoolsref20_key_J6 x2 x4 x5 r65_27.1 x7 H0 r65_27.2)
      (texttoolsref20_key_J6 x2 x4 x5 x6 x7 H0 r62_26.2) := (CXM_eq [5, 7, 9, 12, 13, 15] _ _ _ _).trans (by kernel_rfl)
theorem texttoolsref20_key_L1_eq (x2 x4 x5 x6 x7 : AV) (H0 H : Hp) : texttoolsref20_key_L1 x2 x4 x5 x6 x7 H0 H =
    bnd (ibin .leq x7 (.int .i64 16)) fun t56_28 =>
    cnd t56_28
      (texttoolsref20_key_J5 x2 x4 x5 x6 x7 H0 H)
      (texttoolsref20_key_J4 x2 x4 x5 x6 H0 H) := (LPL_eqm (C := cfg) [5, 7, 9, 12, 13, 15] (tame_block 0 (texttoolsref20_key_K1_tame H0)) _ _).trans (by kernel_rfl)
theorem texttoolsref20_key_J3_eq (x2 x4 x5 : AV) (H0 H : Hp) : texttoolsref20_key_J3 x2 x4 x5 H0 H =
    bnd (afield 2 x4) fun t53_10 =>
    bnd (aload false 1 t53_10 H) fun t54_11 =>
    texttoolsref20_key_L1 x2 x4 x5 t54_11 (.int .i64 1) H0 H := (CXM_eq [5, 7, 9, 12, 13, 15] _ _ _ _).trans (by kernel_rfl)
theorem texttoolsref20_key_J2_eq (x2 x4 x5 : AV) (H0 H : Hp) : texttoolsref20_key_J2 x2 x4 x5 H0 H =
    bnd (afield 4 x4) fun t46_29 =>
    bnd (aload false 1 t46_29 H) fun t47_30 =>
    bnd (afield 4 x5) fun t48_31 =>
    bnd (aload false 1 t48_31 H) fun t49_32 =>
    bnd (flatC C_texttoolsref20_both [t47_30, t49_32] H) fun r50_33 =>
    bnd (ibin .neq r50_33.1 (.int .i64 0)) fun t51_34 =>
    cnd t51_34
      (bnd (some (.agg [(.int .i64 0), (.int .i64 0), (.int .i64 0), (.int .i64 0), (.int .i64 0)])) fun t52_35 =>
      bnd (astoreU 5 x2 t52_35 r50_33.2) fun r_36 =>
      bnd (aload true 5 x2 r_36.2) fun v2_37 =>
      some ((.tuple [v2_37, (.int .i64 2)]), r_36.2))
      (texttoolsref20_key_J3 x2 x4 x5 H0 r50_33.2) := (CXM_eq [5, 7, 9, 12, 13, 15] _ _ _ _).trans (by kernel_rfl)
theorem texttoolsref20_key_J1_eq (x0 x2 x4 x5 : AV) (H0 H : Hp) : texttoolsref20_key_J1 x0 x2 x4 x5 H0 H =
    bnd (afield 3 x4) fun t33_38 =>
    bnd (aload false 1 t33_38 H) fun t34_39 =>
    bnd (ibin .neq t34_39 (.int .i64 0)) fun t35_40 =>
    bnd (gdv t35_40 false (.tuple []) (afield 3 x5)) fun t37_41 =>
    bnd (gdv t35_40 false (.tuple []) (aload false 1 t37_41 H)) fun t38_42 =>
    bnd (gdv t35_40 false (.tuple []) (ibin .neq t38_42 (.int .i64 0))) fun t39_43 =>
    bnd (apick t35_40 (.bool true) t39_43) fun t40_44 =>
    bnd (gdv t40_44 false (.tuple []) (some x0)) fun t42_45 =>
    bnd (gdv t40_44 false (.tuple []) (sbin .neq t42_45 (.str []))) fun t43_46 =>
    bnd (apick t40_44 (.bool true) t43_46) fun t44_47 =>
    cnd t44_47
      (bnd (some (.agg [(.int .i64 0), (.int .i64 0), (.int .i64 0), (.int .i64 0), (.int .i64 0)])) fun t45_48 =>
      bnd (astoreU 5 x2 t45_48 H) fun r_49 =>
      bnd (aload true 5 x2 r_49.2) fun v2_50 =>
      some ((.tuple [v2_50, (.int .i64 1)]), r_49.2))
      (texttoolsref20_key_J2 x2 x4 x5 H0 H) := (CXM_eq [5, 7, 9, 12, 13, 15] _ _ _ _).trans (by kernel_rfl)
theorem F_texttoolsref20_key_eq (p0 : AV) (H : Hp) : C_texttoolsref20_key [p0] H = F_texttoolsref20_key p0 H := (callw_cxm (C := cfg) (fn := Tryz.f78) (c := bodyOf Tryz.f78) (n := 76) [5, 7, 9, 12, 13, 15] Tryz.func78 (by kernel_rfl) (by kernel_rfl) [p0] (by kernel_rfl) H).trans (by kernel_rfl)

/-! ### texttoolsref20_half -/
noncomputable def texttoolsref20_half_J2 (x0 x6 x11 : AV) (H0 H : Hp) : Res := CXL cfg (callw cfg) (LPL cfg (cfg.keep 101) 83) (cfg.keep 101) 83 seqL blockL (sub (bodyOf Tryz.f101) [1, 1, 1, 1, 1]) (retL cfg 83 101 Tryz.f101 H0) [(0, x0), (6, x6), (11, x11)] H
noncomputable def texttoolsref20_half_K1 (H0 : Hp) : KL := seqL (fun k al H => CXL cfg (callw cfg) (LPL cfg (cfg.keep 101) 83) (cfg.keep 101) 83 seqL blockL (sub (bodyOf Tryz.f101) [1, 1, 1, 1, 1]) k (trimL (cfg.keep 101) (sub (bodyOf Tryz.f101) [1, 1, 1, 1, 1]) al) H) (retL cfg 83 101 Tryz.f101 H0)
theorem texttoolsref20_half_K1_tame (H0 : Hp) : Tame 83 (texttoolsref20_half_K1 H0) := tame_seq (C := cfg) (kp := cfg.keep 101) (sub (bodyOf Tryz.f101) [1, 1, 1, 1, 1]) (tame_ret 101 Tryz.f101 H0)
noncomputable def texttoolsref20_half_J3 (x0 x6 x11 : AV) (H0 H : Hp) : Res := CXL cfg (callw cfg) (LPL cfg (cfg.keep 101) 83) (cfg.keep 101) 83 seqL blockL (sub (bodyOf Tryz.f101) [1, 1, 1, 1, 0, 0, 0, 1]) (seqL (fun k al H => LPL cfg (cfg.keep 101) 83 (sub (bodyOf Tryz.f101) [1, 1, 1, 1, 0, 0, 0]) k (trimL (cfg.keep 101) (sub (bodyOf Tryz.f101) [1, 1, 1, 1, 0, 0, 0]) al) H) (blockL 0 (texttoolsref20_half_K1 H0))) [(0, x0), (6, x6), (11, x11)] H
noncomputable def texttoolsref20_half_L1 (x0 x6 x11 : AV) (H0 H : Hp) : Res := LPL cfg (cfg.keep 101) 83 (sub (bodyOf Tryz.f101) [1, 1, 1, 1, 0, 0, 0]) (blockL 0 (texttoolsref20_half_K1 H0)) [(0, x0), (6, x6), (11, x11)] H
noncomputable def texttoolsref20_half_J1 (x0 x6 x11 : AV) (H0 H : Hp) : Res := CXL cfg (callw cfg) (LPL cfg (cfg.keep 101) 83) (cfg.keep 101) 83 seqL blockL (sub (bodyOf Tryz.f101) [1, 1, 1, 1]) (retL cfg 83 101 Tryz.f101 H0) [(0, x0), (6, x6), (11, x11)] H
noncomputable def F_texttoolsref20_half (p0 p1 p2 : AV) (H : Hp) : Res :=
  bnd (some ((.ptr H.length 0), H ++ [.cells [(.int .i64 0), (.int .i64 0), (.int .i64 0), (.int .i64 0), (.int .i64 0)]])) fun r6_1 =>
  bnd (flatC C_texttoolsref20_number [p0, (.int .i64 1)] r6_1.2) fun r18_2 =>
  bnd (aext r18_2.1 0) fun t19_3 =>
  bnd (aext r18_2.1 1) fun t20_4 =>
  bnd (aext r18_2.1 2) fun t21_5 =>
  bnd (aext r18_2.1 3) fun t22_6 =>
  bnd ((afill [(0, 1, t19_3), (1, 1, p1), (3, 1, t21_5), (4, 1, t22_6)] [(.int .i64 0), (.int .i64 0), (.int .i64 0), (.int .i64 0), (.int .i64 0)]).map .agg) fun t27_7 =>
  bnd (some ((.ptr r18_2.2.length 0), r18_2.2 ++ [.cells [(.int .i64 0), (.int .i64 0), (.int .i64 0), (.int .i64 0), (.int .i64 0)]])) fun r11_8 =>
  bnd (astoreU 5 r11_8.1 t27_7 r11_8.2) fun r_9 =>
  bnd (afield 3 r11_8.1) fun t28_28 =>
  bnd (aload false 1 t28_28 r_9.2) fun t29_29 =>
  bnd (ibin .eql t29_29 (.int .i64 0)) fun t30_30 =>
  bnd (gdv t30_30 true (.tuple []) (some t20_4)) fun t32_31 =>
  bnd (gdv t30_30 true (.tuple []) (alenD .string t32_31)) fun t33_32 =>
  bnd (gdv t30_30 true (.tuple []) (ibin .gtr t33_32 (.int .i64 0))) fun t34_33 =>
  bnd (apick t30_30 t34_33 (.bool false)) fun t35_34 =>
  bnd (gdv t35_34 true (.tuple []) (some t20_4)) fun t37_35 =>
  bnd (gdv t35_34 true (.tuple []) (aindexStr t37_35 (.int .i64 0))) fun t38_36 =>
  bnd (gdv t35_34 true (.tuple []) (ibin .eql t38_36 (.int .u8 46))) fun t39_37 =>
  bnd (apick t35_34 t39_37 (.bool false)) fun t40_38 =>
  cnd t40_38
    (bnd (asliceS t20_4 (some (.int .i64 1)) none none) fun t43_39 =>
    bnd (flatC C_texttoolsref20_number [t43_39, p2] r_9.2) fun r45_40 =>
    bnd (aext r45_40.1 0) fun t46_41 =>
    bnd (aext r45_40.1 1) fun t47_42 =>
    bnd (aext r45_40.1 2) fun t48_43 =>
    bnd (aext r45_40.1 3) fun t49_44 =>
    bnd (afield 1 r11_8.1) fun t51_45 =>
    bnd (astoreU 1 t51_45 t46_41 r45_40.2) fun r_46 =>
    bnd (afield 3 r11_8.1) fun t53_47 =>
    bnd (aload false 1 t53_47 r_46.2) fun t54_48 =>
    bnd (flatC C_texttoolsref20_both [t54_48, t48_43] r_46.2) fun r56_49 =>
    bnd (afield 3 r11_8.1) fun t57_50 =>
    bnd (astoreU 1 t57_50 r56_49.1 r56_49.2) fun r_51 =>
    bnd (afield 4 r11_8.1) fun t58_52 =>
    bnd (aload false 1 t58_52 r_51.2) fun t59_53 =>
    bnd (flatC C_texttoolsref20_both [t59_53, t49_44] r_51.2) fun r61_54 =>
    bnd (afield 4 r11_8.1) fun t62_55 =>
    bnd (astoreU 1 t62_55 r61_54.1 r61_54.2) fun r_56 =>
    texttoolsref20_half_J1 t47_42 r6_1.1 r11_8.1 H r_56.2)
    (texttoolsref20_half_J1 t20_4 r6_1.1 r11_8.1 H r_9.2)
theorem texttoolsref20_half_J2_eq (x0 x6 x11 : AV) (H0 H : Hp) : texttoolsref20_half_J2 x0 x6 x11 H0 H =
    bnd (aload true 5 x11 H) fun t81_10 =>
    bnd (astoreU 5 x6 t81_10 H) fun r_11 =>
    bnd (aload true 5 x6 r_11.2) fun v6_12 =>
    some ((.tuple [v6_12, x0]), r_11.2) := (CXM_eq [9, 10, 12] _ _ _ _).trans (by kernel_rfl)
theorem texttoolsref20_half_J3_eq (x0 x6 x11 : AV) (H0 H : Hp) : texttoolsref20_half_J3 x0 x6 x11 H0 H =
    bnd (afield 2 x11) fun t72_13 =>
    bnd (aload false 1 t72_13 H) fun t73_14 =>
    bnd (aindexStr x0 (.int .i64 0)) fun t75_15 =>
    bnd (flatC C_texttoolsref20_flag [t75_15] H) fun r76_16 =>
    bnd (flatC C_texttoolsref20_with [t73_14, r76_16.1] r76_16.2) fun r77_17 =>
    bnd (afield 2 x11) fun t78_18 =>
    bnd (astoreU 1 t78_18 r77_17.1 r77_17.2) fun r_19 =>
    bnd (asliceS x0 (some (.int .i64 1)) none none) fun t80_20 =>
    texttoolsref20_half_L1 t80_20 x6 x11 H0 r_19.2 := (CXM_eq [9, 10, 12] _ _ _ _).trans (by kernel_rfl)
theorem texttoolsref20_half_L1_eq (x0 x6 x11 : AV) (H0 H : Hp) : texttoolsref20_half_L1 x0 x6 x11 H0 H =
    bnd (alenD .string x0) fun t64_21 =>
    bnd (ibin .gtr t64_21 (.int .i64 0)) fun t65_22 =>
    bnd (gdv t65_22 true (.tuple []) (some x0)) fun t67_23 =>
    bnd (gdv t65_22 true (.tuple []) (aindexStr t67_23 (.int .i64 0))) fun t68_24 =>
    bnd (gdv t65_22 true ((.tuple []), H) (flatC C_texttoolsref20_flag [t68_24] H)) fun r69_25 =>
    bnd (gdv t65_22 true (.tuple []) (ibin .neq r69_25.1 (.int .i64 0))) fun t70_26 =>
    bnd (apick t65_22 t70_26 (.bool false)) fun t71_27 =>
    cnd t71_27
      (texttoolsref20_half_J3 x0 x6 x11 H0 r69_25.2)
      (texttoolsref20_half_J2 x0 x6 x11 H0 r69_25.2) := (LPL_eqm (C := cfg) [9, 10, 12] (tame_block 0 (texttoolsref20_half_K1_tame H0)) _ _).trans (by kernel_rfl)
theorem texttoolsref20_half_J1_eq (x0 x6 x11 : AV) (H0 H : Hp) : texttoolsref20_half_J1 x0 x6 x11 H0 H =
    texttoolsref20_half_L1 x0 x6 x11 H0 H := (CXM_eq [9, 10, 12] _ _ _ _).trans (by kernel_rfl)
theorem F_texttoolsref20_half_eq (p0 p1 p2 : AV) (H : Hp) : C_texttoolsref20_half [p0, p1, p2] H = F_texttoolsref20_half p0 p1 p2 H := (callw_cxm (C := cfg) (fn := Tryz.f101) (c := bodyOf Tryz.f101) (n := 83) [9, 10, 12] Tryz.func101 (by kernel_rfl) (by kernel_rfl) [p0, p1, p2] (by kernel_rfl) H).trans (by kernel_rfl)

/-! ### texttoolsref20_number -/
noncomputable def texttoolsref20_number_J2 (x0 x8 x9 : AV) (H0 H : Hp) : Res := CXL cfg (callw cfg) (LPL cfg (cfg.keep 124) 38) (cfg.keep 124) 38 seqL blockL (sub (bodyOf Tryz.f124) [1, 1, 1, 1, 1]) (retL cfg 38 124 Tryz.f124 H0) [(0, x0), (8, x8), (9, x9)] H
noncomputable def texttoolsref20_number_J1 (x0 x1 x8 x9 x10 : AV) (H0 H : Hp) : Res := CXL cfg (callw cfg) (LPL cfg (cfg.keep 124) 38) (cfg.keep 124) 38 seqL blockL (sub (bodyOf Tryz.f124) [1, 1, 1, 1]) (retL cfg 38 124 Tryz.f124 H0) [(0, x0), (1, x1), (8, x8), (9, x9), (10, x10)] H
noncomputable def F_texttoolsref20_number (p0 p1 : AV) (H : Hp) : Res :=
  bnd (flatC C_texttoolsref20_digits [p0] H) fun r12_1 =>
  bnd (asliceS p0 none (some r12_1.1) none) fun t16_2 =>
  bnd (flatC C_texttoolsref01_Parse [t16_2] r12_1.2) fun r17_3 =>
  bnd (aext r17_3.1 0) fun t18_4 =>
  bnd (aext r17_3.1 1) fun t19_5 =>
  bnd (ibin .eql t19_5 (.int .i64 1)) fun t21_13 =>
  cnd t21_13
    (some ((.tuple [(.int .i64 0), p0, (.int .i64 1), (.int .i64 0)]), r17_3.2))
    (texttoolsref20_number_J1 p0 p1 r12_1.1 t18_4 t19_5 H r17_3.2)
theorem texttoolsref20_number_J2_eq (x0 x8 x9 : AV) (H0 H : Hp) : texttoolsref20_number_J2 x0 x8 x9 H0 H =
    bnd (asliceS x0 (some x8) none none) fun t37_6 =>
    some ((.tuple [x9, t37_6, (.int .i64 0), (.int .i64 0)]), H) := (CXM_eq [5, 7] _ _ _ _).trans (by kernel_rfl)
theorem texttoolsref20_number_J1_eq (x0 x1 x8 x9 x10 : AV) (H0 H : Hp) : texttoolsref20_number_J1 x0 x1 x8 x9 x10 H0 H =
    bnd (ibin .neq x10 (.int .i64 0)) fun t24_7 =>
    bnd (gdv t24_7 false (.tuple []) (some x9)) fun t26_8 =>
    bnd (gdv t24_7 false (.tuple []) (some x1)) fun t27_9 =>
    bnd (gdv t24_7 false (.tuple []) (ibin .lss t26_8 t27_9)) fun t28_10 =>
    bnd (apick t24_7 (.bool true) t28_10) fun t29_11 =>
    cnd t29_11
      (bnd (asliceS x0 (some x8) none none) fun t33_12 =>
      some ((.tuple [x9, t33_12, (.int .i64 0), (.int .i64 2)]), H))
      (texttoolsref20_number_J2 x0 x8 x9 H0 H) := (CXM_eq [5, 7] _ _ _ _).trans (by kernel_rfl)
theorem F_texttoolsref20_number_eq (p0 p1 : AV) (H : Hp) : C_texttoolsref20_number [p0, p1] H = F_texttoolsref20_number p0 p1 H := (callw_cxm (C := cfg) (fn := Tryz.f124) (c := bodyOf Tryz.f124) (n := 38) [5, 7] Tryz.func124 (by kernel_rfl) (by kernel_rfl) [p0, p1] (by kernel_rfl) H).trans (by kernel_rfl)

end Go.Am
