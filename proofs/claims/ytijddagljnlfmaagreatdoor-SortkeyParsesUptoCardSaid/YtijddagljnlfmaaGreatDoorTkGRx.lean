/-
  The functions of the translation over the abstract machine, a further part: written by program (wip/gen.py).
-/
import Derived.Test.YtijddagljnlfmaaGreatDoorTkGKx
namespace Go.Am
open Go.Proofs
set_option maxRecDepth 100000
set_option linter.unusedVariables false
set_option linter.unusedSimpArgs false

/-! ### texttoolslaw20_SortkeyReads -/
/-! ### texttoolslaw20_SortkeyRoundTrips -/
/-! ### sortkey_Parse -/
noncomputable def sortkey_Parse_J1 (x0 x2 x6 : AV) (H0 H : Hp) : Res := CXL cfg (callw cfg) (LPL cfg (cfg.keep 11) 77) (cfg.keep 11) 77 seqL blockL (sub (bodyOf Tryz.f11) [1, 1, 1]) (retL cfg 77 11 Tryz.f11 H0) [(0, x0), (2, x2), (6, x6)] H
noncomputable def sortkey_Parse_K1 (H0 : Hp) : KL := seqL (fun k al H => CXL cfg (callw cfg) (LPL cfg (cfg.keep 11) 77) (cfg.keep 11) 77 seqL blockL (sub (bodyOf Tryz.f11) [1, 1, 1]) k (trimL (cfg.keep 11) (sub (bodyOf Tryz.f11) [1, 1, 1]) al) H) (retL cfg 77 11 Tryz.f11 H0)
theorem sortkey_Parse_K1_tame (H0 : Hp) : Tame 77 (sortkey_Parse_K1 H0) := tame_seq (C := cfg) (kp := cfg.keep 11) (sub (bodyOf Tryz.f11) [1, 1, 1]) (tame_ret 11 Tryz.f11 H0)
noncomputable def sortkey_Parse_J3 (x0 x2 x6 : AV) (H0 H : Hp) : Res := CXL cfg (callw cfg) (LPL cfg (cfg.keep 11) 77) (cfg.keep 11) 77 seqL blockL (sub (bodyOf Tryz.f11) [1, 1, 0, 0, 0, 1, 1]) (seqL (fun k al H => LPL cfg (cfg.keep 11) 77 (sub (bodyOf Tryz.f11) [1, 1, 0, 0, 0]) k (trimL (cfg.keep 11) (sub (bodyOf Tryz.f11) [1, 1, 0, 0, 0]) al) H) (blockL 0 (sortkey_Parse_K1 H0))) [(0, x0), (2, x2), (6, x6)] H
noncomputable def sortkey_Parse_K2 (H0 : Hp) : KL := seqL (fun k al H => CXL cfg (callw cfg) (LPL cfg (cfg.keep 11) 77) (cfg.keep 11) 77 seqL blockL (sub (bodyOf Tryz.f11) [1, 1, 0, 0, 0, 1, 1]) k (trimL (cfg.keep 11) (sub (bodyOf Tryz.f11) [1, 1, 0, 0, 0, 1, 1]) al) H) (seqL (fun k al H => LPL cfg (cfg.keep 11) 77 (sub (bodyOf Tryz.f11) [1, 1, 0, 0, 0]) k (trimL (cfg.keep 11) (sub (bodyOf Tryz.f11) [1, 1, 0, 0, 0]) al) H) (blockL 0 (sortkey_Parse_K1 H0)))
noncomputable def sortkey_Parse_J5 (x0 x2 x6 x7 : AV) (H0 H : Hp) : Res := CXL cfg (callw cfg) (LPL cfg (cfg.keep 11) 77) (cfg.keep 11) 77 seqL blockL (sub (bodyOf Tryz.f11) [1, 1, 0, 0, 0, 1, 0, 0, 1, 1, 1]) (blockL 1 (sortkey_Parse_K2 H0)) [(0, x0), (2, x2), (6, x6), (7, x7)] H
noncomputable def sortkey_Parse_J4 (x0 x2 x6 x7 : AV) (H0 H : Hp) : Res := CXL cfg (callw cfg) (LPL cfg (cfg.keep 11) 77) (cfg.keep 11) 77 seqL blockL (sub (bodyOf Tryz.f11) [1, 1, 0, 0, 0, 1, 0, 0, 1, 1]) (blockL 1 (sortkey_Parse_K2 H0)) [(0, x0), (2, x2), (6, x6), (7, x7)] H
noncomputable def sortkey_Parse_J2 (x0 x2 x6 : AV) (H0 H : Hp) : Res := CXL cfg (callw cfg) (LPL cfg (cfg.keep 11) 77) (cfg.keep 11) 77 seqL blockL (sub (bodyOf Tryz.f11) [1, 1, 0, 0, 0, 1]) (seqL (fun k al H => LPL cfg (cfg.keep 11) 77 (sub (bodyOf Tryz.f11) [1, 1, 0, 0, 0]) k (trimL (cfg.keep 11) (sub (bodyOf Tryz.f11) [1, 1, 0, 0, 0]) al) H) (blockL 0 (sortkey_Parse_K1 H0))) [(0, x0), (2, x2), (6, x6)] H
noncomputable def sortkey_Parse_L1 (x0 x2 x6 : AV) (H0 H : Hp) : Res := LPL cfg (cfg.keep 11) 77 (sub (bodyOf Tryz.f11) [1, 1, 0, 0, 0]) (blockL 0 (sortkey_Parse_K1 H0)) [(0, x0), (2, x2), (6, x6)] H
noncomputable def F_sortkey_Parse (p0 : AV) (H : Hp) : Res :=
  bnd (some ((.ptr H.length 0), H ++ [.cells [.nils, (.int .i64 0), (.int .i64 0), (.bool false), (.bool false)]])) fun r2_1 =>
  bnd ((afill [(1, 1, (.int .i64 (-1)))] [.nils, (.int .i64 0), (.int .i64 0), (.bool false), (.bool false)]).map .agg) fun t10_2 =>
  bnd ((afill [(0, 5, t10_2), (5, 1, p0)] [.nils, (.int .i64 0), (.int .i64 0), (.bool false), (.bool false), .nils, (.int .i64 0)]).map .agg) fun t12_3 =>
  bnd (abox t12_3 r2_1.2) fun r13_4 =>
  sortkey_Parse_L1 p0 r2_1.1 r13_4.1 H r13_4.2
theorem sortkey_Parse_J1_eq (x0 x2 x6 : AV) (H0 H : Hp) : sortkey_Parse_J1 x0 x2 x6 H0 H =
    bnd (anil x6) fun t67_5 =>
    bnd (afield 6 t67_5) fun t68_6 =>
    bnd (aload false 1 t68_6 H) fun t69_7 =>
    bnd (asliceV 1 x0 (some t69_7) none none) fun t70_8 =>
    bnd (aappE 1 16 .nils t70_8 H) fun r71_9 =>
    bnd (anil x6) fun t73_10 =>
    bnd (afield 0 t73_10) fun t74_11 =>
    bnd (aload true 5 t74_11 r71_9.2) fun t75_12 =>
    bnd (astoreU 5 x2 t75_12 r71_9.2) fun r_13 =>
    bnd (aload true 5 x2 r_13.2) fun v2_14 =>
    some ((.tuple [v2_14, r71_9.1, (.int .i64 0), (.int .i64 0)]), r_13.2) := (CXM_eq [3, 4, 7, 8, 11] _ _ _ _).trans (by kernel_rfl)
theorem sortkey_Parse_J3_eq (x0 x2 x6 : AV) (H0 H : Hp) : sortkey_Parse_J3 x0 x2 x6 H0 H =
    bnd (anil x6) fun t22_15 =>
    bnd (afield 6 t22_15) fun t23_16 =>
    bnd (aload false 1 t23_16 H) fun t24_17 =>
    bnd (ibin .add t24_17 (.int .i64 1)) fun t25_18 =>
    bnd (anil x6) fun t26_19 =>
    bnd (afield 6 t26_19) fun t27_20 =>
    bnd (astoreU 1 t27_20 t25_18 H) fun r_21 =>
    sortkey_Parse_L1 x0 x2 x6 H0 r_21.2 := (CXM_eq [3, 4, 7, 8, 11] _ _ _ _).trans (by kernel_rfl)
theorem sortkey_Parse_J5_eq (x0 x2 x6 x7 : AV) (H0 H : Hp) : sortkey_Parse_J5 x0 x2 x6 x7 H0 H =
    bnd (asliceS x7 (some (.int .i64 1)) none none) fun t54_27 =>
    bnd (C_sortkey_reader_option [x6, t54_27] H) fun r55_28 =>
    bnd (ibin .neq r55_28.1 (.int .i64 0)) fun t57_29 =>
    cnd t57_29
      (frzK x6 r55_28.2 fun z6_30 z6_30H =>
      bnd (some (.agg [.nils, (.int .i64 0), (.int .i64 0), (.bool false), (.bool false)])) fun t58_31 =>
      bnd (anil z6_30) fun t61_32 =>
      bnd (afield 6 t61_32) fun t62_33 =>
      bnd (aloadv false 1 t62_33) fun t63_34 =>
      bnd (astoreU 5 x2 t58_31 z6_30H) fun r_35 =>
      bnd (aload true 5 x2 r_35.2) fun v2_36 =>
      some ((.tuple [v2_36, .nils, r55_28.1, t63_34]), r_35.2))
      (sortkey_Parse_J3 x0 x2 x6 H0 r55_28.2) := (CXM_eq [3, 4, 7, 8, 11] _ _ _ _).trans (by kernel_rfl)
theorem sortkey_Parse_J4_eq (x0 x2 x6 x7 : AV) (H0 H : Hp) : sortkey_Parse_J4 x0 x2 x6 x7 H0 H =
    bnd (alenD .string x7) fun t45_37 =>
    bnd (ibin .lss t45_37 (.int .i64 2)) fun t46_38 =>
    bnd (gdv t46_38 false (.tuple []) (some x7)) fun t48_39 =>
    bnd (gdv t46_38 false (.tuple []) (aindexStr t48_39 (.int .i64 0))) fun t49_40 =>
    bnd (gdv t46_38 false (.tuple []) (ibin .neq t49_40 (.int .u8 45))) fun t50_41 =>
    bnd (apick t46_38 (.bool true) t50_41) fun t51_42 =>
    cnd t51_42
      (sortkey_Parse_J1 x0 x2 x6 H0 H)
      (sortkey_Parse_J5 x0 x2 x6 x7 H0 H) := (CXM_eq [3, 4, 7, 8, 11] _ _ _ _).trans (by kernel_rfl)
theorem sortkey_Parse_J2_eq (x0 x2 x6 : AV) (H0 H : Hp) : sortkey_Parse_J2 x0 x2 x6 H0 H =
    bnd (anil x6) fun t30_22 =>
    bnd (afield 6 t30_22) fun t31_23 =>
    bnd (aload false 1 t31_23 H) fun t32_24 =>
    bnd (aindexS 1 x0 t32_24) fun t33_25 =>
    bnd (aload false 1 t33_25 H) fun t34_26 =>
    bnd (sbin .eql t34_26 (.str [45, 45])) fun t36_43 =>
    cnd t36_43
      (bnd (anil x6) fun t38_44 =>
      bnd (afield 6 t38_44) fun t39_45 =>
      bnd (aload false 1 t39_45 H) fun t40_46 =>
      bnd (ibin .add t40_46 (.int .i64 1)) fun t41_47 =>
      bnd (anil x6) fun t42_48 =>
      bnd (afield 6 t42_48) fun t43_49 =>
      bnd (astoreU 1 t43_49 t41_47 H) fun r_50 =>
      sortkey_Parse_J1 x0 x2 x6 H0 r_50.2)
      (sortkey_Parse_J4 x0 x2 x6 t34_26 H0 H) := (CXM_eq [3, 4, 7, 8, 11] _ _ _ _).trans (by kernel_rfl)
theorem sortkey_Parse_L1_eq (x0 x2 x6 : AV) (H0 H : Hp) : sortkey_Parse_L1 x0 x2 x6 H0 H =
    bnd (anil x6) fun t15_51 =>
    bnd (afield 6 t15_51) fun t16_52 =>
    bnd (aload false 1 t16_52 H) fun t17_53 =>
    bnd (alenD (.slice 9) x0) fun t19_54 =>
    bnd (ibin .lss t17_53 t19_54) fun t20_55 =>
    cnd t20_55
      (sortkey_Parse_J2 x0 x2 x6 H0 H)
      (sortkey_Parse_J1 x0 x2 x6 H0 H) := (LPL_eqm (C := cfg) [3, 4, 7, 8, 11] (tame_block 0 (sortkey_Parse_K1_tame H0)) _ _).trans (by kernel_rfl)
theorem F_sortkey_Parse_eq (p0 : AV) (H : Hp) : C_sortkey_Parse [p0] H = F_sortkey_Parse p0 H := (callw_cxm (C := cfg) (fn := Tryz.f11) (c := bodyOf Tryz.f11) (n := 77) [3, 4, 7, 8, 11] Tryz.func11 (by kernel_rfl) (by kernel_rfl) [p0] (by kernel_rfl) H).trans (by kernel_rfl)

/-! ### texttoolsref20_SameSpec -/
noncomputable def texttoolsref20_SameSpec_J2 (H0 H : Hp) : Res := CXL cfg (callw cfg) (LPL cfg (cfg.keep 13) 59) (cfg.keep 13) 59 seqL blockL (sub (bodyOf Tryz.f13) [1, 1, 1]) (retL cfg 59 13 Tryz.f13 H0) [] H
noncomputable def texttoolsref20_SameSpec_K1 (H0 : Hp) : KL := seqL (fun k al H => CXL cfg (callw cfg) (LPL cfg (cfg.keep 13) 59) (cfg.keep 13) 59 seqL blockL (sub (bodyOf Tryz.f13) [1, 1, 1]) k (trimL (cfg.keep 13) (sub (bodyOf Tryz.f13) [1, 1, 1]) al) H) (retL cfg 59 13 Tryz.f13 H0)
theorem texttoolsref20_SameSpec_K1_tame (H0 : Hp) : Tame 59 (texttoolsref20_SameSpec_K1 H0) := tame_seq (C := cfg) (kp := cfg.keep 13) (sub (bodyOf Tryz.f13) [1, 1, 1]) (tame_ret 13 Tryz.f13 H0)
noncomputable def texttoolsref20_SameSpec_J4 (x2 x3 x5 : AV) (H0 H : Hp) : Res := CXL cfg (callw cfg) (LPL cfg (cfg.keep 13) 59) (cfg.keep 13) 59 seqL blockL (sub (bodyOf Tryz.f13) [1, 1, 0, 1, 0, 0, 1, 1]) (seqL (fun k al H => LPL cfg (cfg.keep 13) 59 (sub (bodyOf Tryz.f13) [1, 1, 0, 1, 0, 0]) k (trimL (cfg.keep 13) (sub (bodyOf Tryz.f13) [1, 1, 0, 1, 0, 0]) al) H) (blockL 0 (texttoolsref20_SameSpec_K1 H0))) [(2, x2), (3, x3), (5, x5)] H
noncomputable def texttoolsref20_SameSpec_J3 (x2 x3 x5 : AV) (H0 H : Hp) : Res := CXL cfg (callw cfg) (LPL cfg (cfg.keep 13) 59) (cfg.keep 13) 59 seqL blockL (sub (bodyOf Tryz.f13) [1, 1, 0, 1, 0, 0, 1]) (seqL (fun k al H => LPL cfg (cfg.keep 13) 59 (sub (bodyOf Tryz.f13) [1, 1, 0, 1, 0, 0]) k (trimL (cfg.keep 13) (sub (bodyOf Tryz.f13) [1, 1, 0, 1, 0, 0]) al) H) (blockL 0 (texttoolsref20_SameSpec_K1 H0))) [(2, x2), (3, x3), (5, x5)] H
noncomputable def texttoolsref20_SameSpec_L1 (x2 x3 x5 : AV) (H0 H : Hp) : Res := LPL cfg (cfg.keep 13) 59 (sub (bodyOf Tryz.f13) [1, 1, 0, 1, 0, 0]) (blockL 0 (texttoolsref20_SameSpec_K1 H0)) [(2, x2), (3, x3), (5, x5)] H
noncomputable def texttoolsref20_SameSpec_J1 (x2 x3 : AV) (H0 H : Hp) : Res := CXL cfg (callw cfg) (LPL cfg (cfg.keep 13) 59) (cfg.keep 13) 59 seqL blockL (sub (bodyOf Tryz.f13) [1, 1]) (retL cfg 59 13 Tryz.f13 H0) [(2, x2), (3, x3)] H
noncomputable def F_texttoolsref20_SameSpec (p0 p1 : AV) (H : Hp) : Res :=
  bnd (abox p0 H) fun r2_1 =>
  bnd (abox p1 r2_1.2) fun r3_2 =>
  bnd (afield 0 r2_1.1) fun t6_17 =>
  bnd (aload false 1 t6_17 r3_2.2) fun t7_18 =>
  bnd (alenD (.slice 34) t7_18) fun t8_19 =>
  bnd (afield 0 r3_2.1) fun t9_20 =>
  bnd (aload false 1 t9_20 r3_2.2) fun t10_21 =>
  bnd (alenD (.slice 34) t10_21) fun t11_22 =>
  bnd (ibin .neq t8_19 t11_22) fun t12_23 =>
  bnd (gdv t12_23 false (.tuple []) (afield 1 r2_1.1)) fun t14_24 =>
  bnd (gdv t12_23 false (.tuple []) (aload false 1 t14_24 r3_2.2)) fun t15_25 =>
  bnd (gdv t12_23 false (.tuple []) (afield 1 r3_2.1)) fun t16_26 =>
  bnd (gdv t12_23 false (.tuple []) (aload false 1 t16_26 r3_2.2)) fun t17_27 =>
  bnd (gdv t12_23 false (.tuple []) (ibin .neq t15_25 t17_27)) fun t18_28 =>
  bnd (apick t12_23 (.bool true) t18_28) fun t19_29 =>
  bnd (gdv t19_29 false (.tuple []) (afield 2 r2_1.1)) fun t21_30 =>
  bnd (gdv t19_29 false (.tuple []) (aload false 1 t21_30 r3_2.2)) fun t22_31 =>
  bnd (gdv t19_29 false (.tuple []) (afield 2 r3_2.1)) fun t23_32 =>
  bnd (gdv t19_29 false (.tuple []) (aload false 1 t23_32 r3_2.2)) fun t24_33 =>
  bnd (gdv t19_29 false (.tuple []) (ibin .neq t22_31 t24_33)) fun t25_34 =>
  bnd (apick t19_29 (.bool true) t25_34) fun t26_35 =>
  bnd (gdv t26_35 false (.tuple []) (afield 3 r2_1.1)) fun t28_36 =>
  bnd (gdv t26_35 false (.tuple []) (aload false 1 t28_36 r3_2.2)) fun t29_37 =>
  bnd (gdv t26_35 false (.tuple []) (afield 3 r3_2.1)) fun t30_38 =>
  bnd (gdv t26_35 false (.tuple []) (aload false 1 t30_38 r3_2.2)) fun t31_39 =>
  bnd (gdv t26_35 false (.tuple []) (ebin .bool .neq t29_37 t31_39)) fun t32_40 =>
  bnd (apick t26_35 (.bool true) t32_40) fun t33_41 =>
  bnd (gdv t33_41 false (.tuple []) (afield 4 r2_1.1)) fun t35_42 =>
  bnd (gdv t33_41 false (.tuple []) (aload false 1 t35_42 r3_2.2)) fun t36_43 =>
  bnd (gdv t33_41 false (.tuple []) (afield 4 r3_2.1)) fun t37_44 =>
  bnd (gdv t33_41 false (.tuple []) (aload false 1 t37_44 r3_2.2)) fun t38_45 =>
  bnd (gdv t33_41 false (.tuple []) (ebin .bool .neq t36_43 t38_45)) fun t39_46 =>
  bnd (apick t33_41 (.bool true) t39_46) fun t40_47 =>
  cnd t40_47
    (some ((.bool false), r3_2.2))
    (texttoolsref20_SameSpec_J1 r2_1.1 r3_2.1 H r3_2.2)
theorem texttoolsref20_SameSpec_J2_eq (H0 H : Hp) : texttoolsref20_SameSpec_J2 H0 H =
    some ((.bool true), H) := (CXM_eq [3, 5, 6, 8] _ _ _ _).trans (by kernel_rfl)
theorem texttoolsref20_SameSpec_J4_eq (x2 x3 x5 : AV) (H0 H : Hp) : texttoolsref20_SameSpec_J4 x2 x3 x5 H0 H =
    bnd (ibin .add x5 (.int .i64 1)) fun t47_3 =>
    texttoolsref20_SameSpec_L1 x2 x3 t47_3 H0 H := (CXM_eq [3, 5, 6, 8] _ _ _ _).trans (by kernel_rfl)
theorem texttoolsref20_SameSpec_J3_eq (x2 x3 x5 : AV) (H0 H : Hp) : texttoolsref20_SameSpec_J3 x2 x3 x5 H0 H =
    bnd (afield 0 x2) fun t48_4 =>
    bnd (aload false 1 t48_4 H) fun t49_5 =>
    bnd (aindexS 5 t49_5 x5) fun t51_6 =>
    bnd (aload true 5 t51_6 H) fun t52_7 =>
    bnd (afield 0 x3) fun t53_8 =>
    bnd (aload false 1 t53_8 H) fun t54_9 =>
    bnd (aindexS 5 t54_9 x5) fun t56_10 =>
    bnd (aload true 5 t56_10 H) fun t57_11 =>
    bnd (aeqBin Tryz.prog cfg.eqok .neq 34 t52_7 t57_11) fun t58_12 =>
    cnd t58_12
      (some ((.bool false), H))
      (texttoolsref20_SameSpec_J4 x2 x3 x5 H0 H) := (CXM_eq [3, 5, 6, 8] _ _ _ _).trans (by kernel_rfl)
theorem texttoolsref20_SameSpec_L1_eq (x2 x3 x5 : AV) (H0 H : Hp) : texttoolsref20_SameSpec_L1 x2 x3 x5 H0 H =
    bnd (afield 0 x2) fun t42_13 =>
    bnd (aload false 1 t42_13 H) fun t43_14 =>
    bnd (alenD (.slice 34) t43_14) fun t44_15 =>
    bnd (ibin .lss x5 t44_15) fun t45_16 =>
    cnd t45_16
      (texttoolsref20_SameSpec_J3 x2 x3 x5 H0 H)
      (texttoolsref20_SameSpec_J2 H0 H) := (LPL_eqm (C := cfg) [3, 5, 6, 8] (tame_block 0 (texttoolsref20_SameSpec_K1_tame H0)) _ _).trans (by kernel_rfl)
theorem texttoolsref20_SameSpec_J1_eq (x2 x3 : AV) (H0 H : Hp) : texttoolsref20_SameSpec_J1 x2 x3 H0 H =
    texttoolsref20_SameSpec_L1 x2 x3 (.int .i64 0) H0 H := (CXM_eq [3, 5, 6, 8] _ _ _ _).trans (by kernel_rfl)
theorem F_texttoolsref20_SameSpec_eq (p0 p1 : AV) (H : Hp) : C_texttoolsref20_SameSpec [p0, p1] H = F_texttoolsref20_SameSpec p0 p1 H := (callw_cxm (C := cfg) (fn := Tryz.f13) (c := bodyOf Tryz.f13) (n := 59) [3, 5, 6, 8] Tryz.func13 (by kernel_rfl) (by kernel_rfl) [p0, p1] (by kernel_rfl) H).trans (by kernel_rfl)

/-! ### sortkey_reader_option -/
noncomputable def sortkey_reader_option_J1 (H0 H : Hp) : Res := CXL cfg (callw cfg) (LPL cfg (cfg.keep 27) 70) (cfg.keep 27) 70 seqL blockL (sub (bodyOf Tryz.f27) [1, 1]) (retL cfg 70 27 Tryz.f27 H0) [] H
noncomputable def sortkey_reader_option_K1 (H0 : Hp) : KL := seqL (fun k al H => CXL cfg (callw cfg) (LPL cfg (cfg.keep 27) 70) (cfg.keep 27) 70 seqL blockL (sub (bodyOf Tryz.f27) [1, 1]) k (trimL (cfg.keep 27) (sub (bodyOf Tryz.f27) [1, 1]) al) H) (retL cfg 70 27 Tryz.f27 H0)
theorem sortkey_reader_option_K1_tame (H0 : Hp) : Tame 70 (sortkey_reader_option_K1 H0) := tame_seq (C := cfg) (kp := cfg.keep 27) (sub (bodyOf Tryz.f27) [1, 1]) (tame_ret 27 Tryz.f27 H0)
noncomputable def sortkey_reader_option_J3 (x0 x6 : AV) (H0 H : Hp) : Res := CXL cfg (callw cfg) (LPL cfg (cfg.keep 27) 70) (cfg.keep 27) 70 seqL blockL (sub (bodyOf Tryz.f27) [1, 0, 0, 0, 1, 0, 1, 1]) (blockL 1 (seqL (fun k al H => LPL cfg (cfg.keep 27) 70 (sub (bodyOf Tryz.f27) [1, 0, 0, 0]) k (trimL (cfg.keep 27) (sub (bodyOf Tryz.f27) [1, 0, 0, 0]) al) H) (blockL 0 (sortkey_reader_option_K1 H0)))) [(0, x0), (6, x6)] H
noncomputable def sortkey_reader_option_K2 (H0 : Hp) : KL := seqL (fun k al H => CXL cfg (callw cfg) (LPL cfg (cfg.keep 27) 70) (cfg.keep 27) 70 seqL blockL (sub (bodyOf Tryz.f27) [1, 0, 0, 0, 1, 0, 1, 1]) k (trimL (cfg.keep 27) (sub (bodyOf Tryz.f27) [1, 0, 0, 0, 1, 0, 1, 1]) al) H) (blockL 1 (seqL (fun k al H => LPL cfg (cfg.keep 27) 70 (sub (bodyOf Tryz.f27) [1, 0, 0, 0]) k (trimL (cfg.keep 27) (sub (bodyOf Tryz.f27) [1, 0, 0, 0]) al) H) (blockL 0 (sortkey_reader_option_K1 H0))))
noncomputable def sortkey_reader_option_J5 (x7 x9 : AV) (H0 H : Hp) : Res := CXL cfg (callw cfg) (LPL cfg (cfg.keep 27) 70) (cfg.keep 27) 70 seqL blockL (sub (bodyOf Tryz.f27) [1, 0, 0, 0, 1, 0, 1, 0, 0, 1, 1, 1, 1, 1, 1, 1, 0, 1, 1, 1, 1]) (blockL 2 (sortkey_reader_option_K2 H0)) [(7, x7), (9, x9)] H
noncomputable def sortkey_reader_option_J4 (x0 x5 x7 : AV) (H0 H : Hp) : Res := CXL cfg (callw cfg) (LPL cfg (cfg.keep 27) 70) (cfg.keep 27) 70 seqL blockL (sub (bodyOf Tryz.f27) [1, 0, 0, 0, 1, 0, 1, 0, 0, 1, 1, 1, 1, 1, 1, 1, 0, 1, 1]) (blockL 2 (sortkey_reader_option_K2 H0)) [(0, x0), (5, x5), (7, x7)] H
noncomputable def sortkey_reader_option_J2 (x0 x1 : AV) (H0 H : Hp) : Res := CXL cfg (callw cfg) (LPL cfg (cfg.keep 27) 70) (cfg.keep 27) 70 seqL blockL (sub (bodyOf Tryz.f27) [1, 0, 0, 0, 1]) (seqL (fun k al H => LPL cfg (cfg.keep 27) 70 (sub (bodyOf Tryz.f27) [1, 0, 0, 0]) k (trimL (cfg.keep 27) (sub (bodyOf Tryz.f27) [1, 0, 0, 0]) al) H) (blockL 0 (sortkey_reader_option_K1 H0))) [(0, x0), (1, x1)] H
noncomputable def sortkey_reader_option_L1 (x0 x1 : AV) (H0 H : Hp) : Res := LPL cfg (cfg.keep 27) 70 (sub (bodyOf Tryz.f27) [1, 0, 0, 0]) (blockL 0 (sortkey_reader_option_K1 H0)) [(0, x0), (1, x1)] H
noncomputable def F_sortkey_reader_option (p0 p1 : AV) (H : Hp) : Res :=
  sortkey_reader_option_L1 p0 p1 H H
theorem sortkey_reader_option_J1_eq (H0 H : Hp) : sortkey_reader_option_J1 H0 H =
    some ((.int .i64 0), H) := (CXM_eq [2, 14, 17, 18, 19] _ _ _ _).trans (by kernel_rfl)
theorem sortkey_reader_option_J3_eq (x0 x6 : AV) (H0 H : Hp) : sortkey_reader_option_J3 x0 x6 H0 H =
    sortkey_reader_option_L1 x0 x6 H0 H := (CXM_eq [2, 14, 17, 18, 19] _ _ _ _).trans (by kernel_rfl)
theorem sortkey_reader_option_J5_eq (x7 x9 : AV) (H0 H : Hp) : sortkey_reader_option_J5 x7 x9 H0 H =
    bnd (acall cfg (callw cfg) x9 [x7] H) fun r68_33 =>
    some (r68_33.1, r68_33.2) := (CXM_eq [2, 14, 17, 18, 19] _ _ _ _).trans (by kernel_rfl)
theorem sortkey_reader_option_J4_eq (x0 x5 x7 : AV) (H0 H : Hp) : sortkey_reader_option_J4 x0 x5 x7 H0 H =
    bnd (some (.fn (.func 48) [x0] [])) fun t61_32 =>
    bnd (ibin .eql x5 (.int .u8 116)) fun t63_34 =>
    cnd t63_34
      (bnd (some (.fn (.func 49) [x0] [])) fun t65_35 =>
      sortkey_reader_option_J5 x7 t65_35 H0 H)
      (sortkey_reader_option_J5 x7 t61_32 H0 H) := (CXM_eq [2, 14, 17, 18, 19] _ _ _ _).trans (by kernel_rfl)
theorem sortkey_reader_option_J2_eq (x0 x1 : AV) (H0 H : Hp) : sortkey_reader_option_J2 x0 x1 H0 H =
    bnd (aindexStr x1 (.int .i64 0)) fun t13_1 =>
    bnd (asliceS x1 (some (.int .i64 1)) none none) fun t15_2 =>
    bnd (flatC C_sortkey_flag [t13_1] H) fun r18_3 =>
    bnd (ibin .neq r18_3.1 (.int .i64 0)) fun t19_4 =>
    cnd t19_4
      (bnd (anil x0) fun t21_5 =>
      bnd (afield 0 t21_5) fun t22_6 =>
      bnd (afield 2 t22_6) fun t23_7 =>
      bnd (aload false 1 t23_7 r18_3.2) fun t24_8 =>
      bnd (flatC C_sortkey_flag [t13_1] r18_3.2) fun r26_9 =>
      bnd (ibin .or t24_8 r26_9.1) fun t27_10 =>
      bnd (anil x0) fun t28_11 =>
      bnd (afield 0 t28_11) fun t29_12 =>
      bnd (afield 2 t29_12) fun t30_13 =>
      bnd (astoreU 1 t30_13 t27_10 r26_9.2) fun r_14 =>
      sortkey_reader_option_J3 x0 t15_2 H0 r_14.2)
      (bnd (ibin .eql t13_1 (.int .u8 117)) fun t33_15 =>
      cnd t33_15
        (bnd (anil x0) fun t35_16 =>
        bnd (afield 0 t35_16) fun t36_17 =>
        bnd (afield 3 t36_17) fun t37_18 =>
        bnd (astoreU 1 t37_18 (.bool true) r18_3.2) fun r_19 =>
        sortkey_reader_option_J3 x0 t15_2 H0 r_19.2)
        (bnd (ibin .eql t13_1 (.int .u8 115)) fun t40_20 =>
        cnd t40_20
          (bnd (anil x0) fun t42_21 =>
          bnd (afield 0 t42_21) fun t43_22 =>
          bnd (afield 4 t43_22) fun t44_23 =>
          bnd (astoreU 1 t44_23 (.bool true) r18_3.2) fun r_24 =>
          sortkey_reader_option_J3 x0 t15_2 H0 r_24.2)
          (bnd (ibin .eql t13_1 (.int .u8 116)) fun t47_25 =>
          bnd (gdv t47_25 false (.tuple []) (some t13_1)) fun t49_26 =>
          bnd (gdv t47_25 false (.tuple []) (ibin .eql t49_26 (.int .u8 107))) fun t50_27 =>
          bnd (apick t47_25 (.bool true) t50_27) fun t51_28 =>
          cnd t51_28
            (bnd (C_sortkey_reader_value [x0, t15_2] r18_3.2) fun r55_29 =>
            bnd (aext r55_29.1 0) fun t56_30 =>
            bnd (aext r55_29.1 1) fun t57_31 =>
            bnd (aun .not t57_31) fun t59_36 =>
            cnd t59_36
              (some ((.int .i64 18), r55_29.2))
              (sortkey_reader_option_J4 x0 t13_1 t56_30 H0 r55_29.2))
            (some ((.int .i64 18), r18_3.2))))) := (CXM_eq [2, 14, 17, 18, 19] _ _ _ _).trans (by kernel_rfl)
theorem sortkey_reader_option_L1_eq (x0 x1 : AV) (H0 H : Hp) : sortkey_reader_option_L1 x0 x1 H0 H =
    bnd (sbin .neq x1 (.str [])) fun t11_37 =>
    cnd t11_37
      (sortkey_reader_option_J2 x0 x1 H0 H)
      (sortkey_reader_option_J1 H0 H) := (LPL_eqm (C := cfg) [2, 14, 17, 18, 19] (tame_block 0 (sortkey_reader_option_K1_tame H0)) _ _).trans (by kernel_rfl)
theorem F_sortkey_reader_option_eq (p0 p1 : AV) (H : Hp) : C_sortkey_reader_option [p0, p1] H = F_sortkey_reader_option p0 p1 H := (callw_cxm (C := cfg) (fn := Tryz.f27) (c := bodyOf Tryz.f27) (n := 70) [2, 14, 17, 18, 19] Tryz.func27 (by kernel_rfl) (by kernel_rfl) [p0, p1] (by kernel_rfl) H).trans (by kernel_rfl)

/-! ### sortkey_reader_value -/
noncomputable def sortkey_reader_value_J2 (x0 : AV) (H0 H : Hp) : Res := CXL cfg (callw cfg) (LPL cfg (cfg.keep 47) 37) (cfg.keep 47) 37 seqL blockL (sub (bodyOf Tryz.f47) [1, 1, 1]) (retL cfg 37 47 Tryz.f47 H0) [(0, x0)] H
noncomputable def sortkey_reader_value_J1 (x0 : AV) (H0 H : Hp) : Res := CXL cfg (callw cfg) (LPL cfg (cfg.keep 47) 37) (cfg.keep 47) 37 seqL blockL (sub (bodyOf Tryz.f47) [1, 1]) (retL cfg 37 47 Tryz.f47 H0) [(0, x0)] H
noncomputable def F_sortkey_reader_value (p0 p1 : AV) (H : Hp) : Res :=
  bnd (sbin .neq p1 (.str [])) fun t7_25 =>
  cnd t7_25
    (some ((.tuple [p1, (.bool true)]), H))
    (sortkey_reader_value_J1 p0 H H)
theorem sortkey_reader_value_J2_eq (x0 : AV) (H0 H : Hp) : sortkey_reader_value_J2 x0 H0 H =
    bnd (anil x0) fun t21_1 =>
    bnd (afield 6 t21_1) fun t22_2 =>
    bnd (aload false 1 t22_2 H) fun t23_3 =>
    bnd (ibin .add t23_3 (.int .i64 1)) fun t24_4 =>
    bnd (anil x0) fun t25_5 =>
    bnd (afield 6 t25_5) fun t26_6 =>
    bnd (astoreU 1 t26_6 t24_4 H) fun r_7 =>
    bnd (anil x0) fun t28_8 =>
    bnd (afield 5 t28_8) fun t29_9 =>
    bnd (aload false 1 t29_9 r_7.2) fun t30_10 =>
    bnd (anil x0) fun t32_11 =>
    bnd (afield 6 t32_11) fun t33_12 =>
    bnd (aload false 1 t33_12 r_7.2) fun t34_13 =>
    bnd (aindexS 1 t30_10 t34_13) fun t35_14 =>
    bnd (aload false 1 t35_14 r_7.2) fun t36_15 =>
    some ((.tuple [t36_15, (.bool true)]), r_7.2) := (CXM_eq [3, 5] _ _ _ _).trans (by kernel_rfl)
theorem sortkey_reader_value_J1_eq (x0 : AV) (H0 H : Hp) : sortkey_reader_value_J1 x0 H0 H =
    bnd (anil x0) fun t10_16 =>
    bnd (afield 6 t10_16) fun t11_17 =>
    bnd (aload false 1 t11_17 H) fun t12_18 =>
    bnd (ibin .add t12_18 (.int .i64 1)) fun t13_19 =>
    bnd (anil x0) fun t15_20 =>
    bnd (afield 5 t15_20) fun t16_21 =>
    bnd (aload false 1 t16_21 H) fun t17_22 =>
    bnd (alenD (.slice 9) t17_22) fun t18_23 =>
    bnd (ibin .geq t13_19 t18_23) fun t19_24 =>
    cnd t19_24
      (some ((.tuple [(.str []), (.bool false)]), H))
      (sortkey_reader_value_J2 x0 H0 H) := (CXM_eq [3, 5] _ _ _ _).trans (by kernel_rfl)
theorem F_sortkey_reader_value_eq (p0 p1 : AV) (H : Hp) : C_sortkey_reader_value [p0, p1] H = F_sortkey_reader_value p0 p1 H := (callw_cxm (C := cfg) (fn := Tryz.f47) (c := bodyOf Tryz.f47) (n := 37) [3, 5] Tryz.func47 (by kernel_rfl) (by kernel_rfl) [p0, p1] (by kernel_rfl) H).trans (by kernel_rfl)

/-! ### sortkey_reader_key -/
noncomputable def sortkey_reader_key_J2 (x6 : AV) (H0 H : Hp) : Res := CXL cfg (callw cfg) (LPL cfg (cfg.keep 48) 34) (cfg.keep 48) 34 seqL blockL (sub (bodyOf Tryz.f48) [1, 1, 1, 1]) (retL cfg 34 48 Tryz.f48 H0) [(6, x6)] H
noncomputable def sortkey_reader_key_J1 (x0 x1 : AV) (H0 H : Hp) : Res := CXL cfg (callw cfg) (LPL cfg (cfg.keep 48) 34) (cfg.keep 48) 34 seqL blockL (sub (bodyOf Tryz.f48) [1, 1]) (retL cfg 34 48 Tryz.f48 H0) [(0, x0), (1, x1)] H
noncomputable def F_sortkey_reader_key (p0 p1 : AV) (H : Hp) : Res :=
  bnd (anil p0) fun t8_18 =>
  bnd (afield 0 t8_18) fun t9_19 =>
  bnd (afield 0 t9_19) fun t10_20 =>
  bnd (aload false 1 t10_20 H) fun t11_21 =>
  bnd (alenD (.slice 34) t11_21) fun t12_22 =>
  bnd (ibin .eql t12_22 (.int .i64 8)) fun t13_23 =>
  cnd t13_23
    (some ((.int .i64 3), H))
    (sortkey_reader_key_J1 p0 p1 H H)
theorem sortkey_reader_key_J2_eq (x6 : AV) (H0 H : Hp) : sortkey_reader_key_J2 x6 H0 H =
    some (x6, H) := (CXM_eq [3, 6] _ _ _ _).trans (by kernel_rfl)
theorem sortkey_reader_key_J1_eq (x0 x1 : AV) (H0 H : Hp) : sortkey_reader_key_J1 x0 x1 H0 H =
    bnd (flatC C_sortkey_key [x1] H) fun r16_1 =>
    bnd (aext r16_1.1 0) fun t17_2 =>
    bnd (aext r16_1.1 1) fun t18_3 =>
    bnd (some ((.ptr r16_1.2.length 0), r16_1.2 ++ [.cells [(.int .i64 0), (.int .i64 0), (.int .i64 0), (.int .i64 0), (.int .i64 0)]])) fun r5_4 =>
    bnd (astoreU 5 r5_4.1 t17_2 r5_4.2) fun r_5 =>
    bnd (ibin .eql t18_3 (.int .i64 0)) fun t20_6 =>
    cnd t20_6
      (bnd (anil x0) fun t23_7 =>
      bnd (afield 0 t23_7) fun t24_8 =>
      bnd (afield 0 t24_8) fun t25_9 =>
      bnd (aload false 1 t25_9 r_5.2) fun t26_10 =>
      bnd (aload true 5 r5_4.1 r_5.2) fun t27_11 =>
      bnd ((setElems 5 [(0, t27_11)] [(.agg [(.int .i64 0), (.int .i64 0), (.int .i64 0), (.int .i64 0), (.int .i64 0)])]).map (.vs 5 .clip)) fun t28_12 =>
      bnd (aappE 5 40 t26_10 t28_12 r_5.2) fun r29_13 =>
      bnd (anil x0) fun t30_14 =>
      bnd (afield 0 t30_14) fun t31_15 =>
      bnd (afield 0 t31_15) fun t32_16 =>
      bnd (astoreU 1 t32_16 r29_13.1 r29_13.2) fun r_17 =>
      sortkey_reader_key_J2 t18_3 H0 r_17.2)
      (sortkey_reader_key_J2 t18_3 H0 r_5.2) := (CXM_eq [3, 6] _ _ _ _).trans (by kernel_rfl)
theorem F_sortkey_reader_key_eq (p0 p1 : AV) (H : Hp) : C_sortkey_reader_key [p0, p1] H = F_sortkey_reader_key p0 p1 H := (callw_cxm (C := cfg) (fn := Tryz.f48) (c := bodyOf Tryz.f48) (n := 34) [3, 6] Tryz.func48 (by kernel_rfl) (by kernel_rfl) [p0, p1] (by kernel_rfl) H).trans (by kernel_rfl)

/-! ### sortkey_reader_separator -/
noncomputable def sortkey_reader_separator_J1 (x0 x1 : AV) (H0 H : Hp) : Res := CXL cfg (callw cfg) (LPL cfg (cfg.keep 49) 19) (cfg.keep 49) 19 seqL blockL (sub (bodyOf Tryz.f49) [1, 1]) (retL cfg 19 49 Tryz.f49 H0) [(0, x0), (1, x1)] H
noncomputable def F_sortkey_reader_separator (p0 p1 : AV) (H : Hp) : Res :=
  bnd (alenD .string p1) fun t6_7 =>
  bnd (ibin .neq t6_7 (.int .i64 1)) fun t7_8 =>
  bnd (gdv t7_8 false (.tuple []) (some p1)) fun t9_9 =>
  bnd (gdv t7_8 false (.tuple []) (sbin .eql t9_9 (.str [10]))) fun t10_10 =>
  bnd (apick t7_8 (.bool true) t10_10) fun t11_11 =>
  cnd t11_11
    (some ((.int .i64 18), H))
    (sortkey_reader_separator_J1 p0 p1 H H)
theorem sortkey_reader_separator_J1_eq (x0 x1 : AV) (H0 H : Hp) : sortkey_reader_separator_J1 x0 x1 H0 H =
    bnd (aindexStr x1 (.int .i64 0)) fun t14_1 =>
    bnd (cvInt .i64 t14_1) fun t15_2 =>
    bnd (anil x0) fun t16_3 =>
    bnd (afield 0 t16_3) fun t17_4 =>
    bnd (afield 1 t17_4) fun t18_5 =>
    bnd (astoreU 1 t18_5 t15_2 H) fun r_6 =>
    some ((.int .i64 0), r_6.2) := (CXM_eq [3] _ _ _ _).trans (by kernel_rfl)
theorem F_sortkey_reader_separator_eq (p0 p1 : AV) (H : Hp) : C_sortkey_reader_separator [p0, p1] H = F_sortkey_reader_separator p0 p1 H := (callw_cxm (C := cfg) (fn := Tryz.f49) (c := bodyOf Tryz.f49) (n := 19) [3] Tryz.func49 (by kernel_rfl) (by kernel_rfl) [p0, p1] (by kernel_rfl) H).trans (by kernel_rfl)

/-! ### sortkey_key -/
noncomputable def sortkey_key_J4 (x2 x4 x5 : AV) (H0 H : Hp) : Res := CXL cfg (callw cfg) (LPL cfg (cfg.keep 77) 107) (cfg.keep 77) 107 seqL blockL (sub (bodyOf Tryz.f77) [1, 1, 1, 1, 1, 1, 1, 1]) (retL cfg 107 77 Tryz.f77 H0) [(2, x2), (4, x4), (5, x5)] H
noncomputable def sortkey_key_J3 (x2 x4 x5 x7 : AV) (H0 H : Hp) : Res := CXL cfg (callw cfg) (LPL cfg (cfg.keep 77) 107) (cfg.keep 77) 107 seqL blockL (sub (bodyOf Tryz.f77) [1, 1, 1, 1, 1, 1, 1]) (retL cfg 107 77 Tryz.f77 H0) [(2, x2), (4, x4), (5, x5), (7, x7)] H
noncomputable def sortkey_key_J2 (x2 x4 x5 x7 : AV) (H0 H : Hp) : Res := CXL cfg (callw cfg) (LPL cfg (cfg.keep 77) 107) (cfg.keep 77) 107 seqL blockL (sub (bodyOf Tryz.f77) [1, 1, 1, 1, 1, 1]) (retL cfg 107 77 Tryz.f77 H0) [(2, x2), (4, x4), (5, x5), (7, x7)] H
noncomputable def sortkey_key_J1 (x0 x2 x4 x5 x6 x7 : AV) (H0 H : Hp) : Res := CXL cfg (callw cfg) (LPL cfg (cfg.keep 77) 107) (cfg.keep 77) 107 seqL blockL (sub (bodyOf Tryz.f77) [1, 1, 1, 1, 1]) (retL cfg 107 77 Tryz.f77 H0) [(0, x0), (2, x2), (4, x4), (5, x5), (6, x6), (7, x7)] H
noncomputable def F_sortkey_key (p0 : AV) (H : Hp) : Res :=
  bnd (some ((.ptr H.length 0), H ++ [.cells [(.int .i64 0), (.int .i64 0), (.int .i64 0), (.int .i64 0), (.int .i64 0)]])) fun r2_1 =>
  bnd (some (.agg [(.int .i64 0), (.int .i64 0), (.int .i64 0), (.bool false), (.bool false)])) fun t8_2 =>
  bnd (abox t8_2 r2_1.2) fun r9_3 =>
  bnd (some (.agg [(.int .i64 0), (.int .i64 0), (.int .i64 0), (.bool false), (.bool false)])) fun t10_4 =>
  bnd (abox t10_4 r9_3.2) fun r11_5 =>
  bnd (C_sortkey_place_read [r9_3.1, p0] r11_5.2) fun r15_6 =>
  bnd (aext r15_6.1 0) fun t16_7 =>
  bnd (aext r15_6.1 1) fun t17_8 =>
  bnd (gdv t17_8 true (.tuple []) (some t16_7)) fun t20_9 =>
  bnd (gdv t17_8 true ((.tuple []), r15_6.2) (C_strings_HasPrefix [t20_9, (.str [44])] r15_6.2)) fun r21_10 =>
  bnd (apick t17_8 r21_10.1 (.bool false)) fun t22_11 =>
  cnd t22_11
    (bnd (asliceS t16_7 (some (.int .i64 1)) none none) fun t27_80 =>
    bnd (C_sortkey_place_read [r11_5.1, t27_80] r21_10.2) fun r28_81 =>
    bnd (aext r28_81.1 0) fun t29_82 =>
    bnd (aext r28_81.1 1) fun t30_83 =>
    sortkey_key_J1 t29_82 r2_1.1 r9_3.1 r11_5.1 t30_83 t22_11 H r28_81.2)
    (sortkey_key_J1 t16_7 r2_1.1 r9_3.1 r11_5.1 t17_8 t22_11 H r21_10.2)
theorem sortkey_key_J4_eq (x2 x4 x5 : AV) (H0 H : Hp) : sortkey_key_J4 x2 x4 x5 H0 H =
    bnd (anil x4) fun t82_12 =>
    bnd (afield 0 t82_12) fun t83_13 =>
    bnd (aload false 1 t83_13 H) fun t84_14 =>
    bnd (anil x4) fun t86_15 =>
    bnd (afield 1 t86_15) fun t87_16 =>
    bnd (aload false 1 t87_16 H) fun t88_17 =>
    bnd (anil x5) fun t90_18 =>
    bnd (afield 0 t90_18) fun t91_19 =>
    bnd (aload false 1 t91_19 H) fun t92_20 =>
    bnd (anil x5) fun t94_21 =>
    bnd (afield 1 t94_21) fun t95_22 =>
    bnd (aload false 1 t95_22 H) fun t96_23 =>
    bnd (anil x4) fun t98_24 =>
    bnd (afield 2 t98_24) fun t99_25 =>
    bnd (aload false 1 t99_25 H) fun t100_26 =>
    bnd (anil x5) fun t102_27 =>
    bnd (afield 2 t102_27) fun t103_28 =>
    bnd (aload false 1 t103_28 H) fun t104_29 =>
    bnd (ibin .or t100_26 t104_29) fun t105_30 =>
    bnd ((afill [(0, 1, t84_14), (1, 1, t88_17), (2, 1, t92_20), (3, 1, t96_23), (4, 1, t105_30)] [(.int .i64 0), (.int .i64 0), (.int .i64 0), (.int .i64 0), (.int .i64 0)]).map .agg) fun t106_31 =>
    bnd (astoreU 5 x2 t106_31 H) fun r_32 =>
    bnd (aload true 5 x2 r_32.2) fun v2_33 =>
    some ((.tuple [v2_33, (.int .i64 0)]), r_32.2) := (CXM_eq [6, 8, 10, 12] _ _ _ _).trans (by kernel_rfl)
theorem sortkey_key_J3_eq (x2 x4 x5 x7 : AV) (H0 H : Hp) : sortkey_key_J3 x2 x4 x5 x7 H0 H =
    bnd (anil x4) fun t47_34 =>
    bnd (afield 4 t47_34) fun t48_35 =>
    bnd (aload false 1 t48_35 H) fun t49_36 =>
    bnd (gdv t49_36 false (.tuple []) (some x5)) fun t51_37 =>
    bnd (gdv t49_36 false (.tuple []) (anil t51_37)) fun t52_38 =>
    bnd (gdv t49_36 false (.tuple []) (afield 4 t52_38)) fun t53_39 =>
    bnd (gdv t49_36 false (.tuple []) (aload false 1 t53_39 H)) fun t54_40 =>
    bnd (apick t49_36 (.bool true) t54_40) fun t55_41 =>
    bnd (gdv t55_41 false (.tuple []) (some x4)) fun t57_42 =>
    bnd (gdv t55_41 false (.tuple []) (anil t57_42)) fun t58_43 =>
    bnd (gdv t55_41 false (.tuple []) (afield 0 t58_43)) fun t59_44 =>
    bnd (gdv t55_41 false (.tuple []) (aload false 1 t59_44 H)) fun t60_45 =>
    bnd (gdv t55_41 false (.tuple []) (ibin .lss t60_45 (.int .i64 1))) fun t61_46 =>
    bnd (apick t55_41 (.bool true) t61_46) fun t62_47 =>
    bnd (gdv t62_47 false (.tuple []) (some x4)) fun t64_48 =>
    bnd (gdv t62_47 false (.tuple []) (anil t64_48)) fun t65_49 =>
    bnd (gdv t62_47 false (.tuple []) (afield 1 t65_49)) fun t66_50 =>
    bnd (gdv t62_47 false (.tuple []) (aload false 1 t66_50 H)) fun t67_51 =>
    bnd (gdv t62_47 false (.tuple []) (ibin .lss t67_51 (.int .i64 1))) fun t68_52 =>
    bnd (apick t62_47 (.bool true) t68_52) fun t69_53 =>
    bnd (gdv t69_53 false (.tuple []) (some x7)) fun t71_54 =>
    bnd (gdv t69_53 false (.tuple []) (some t71_54)) fun t72_55 =>
    bnd (gdv t72_55 true (.tuple []) (some x5)) fun t73_56 =>
    bnd (gdv t72_55 true (.tuple []) (anil t73_56)) fun t74_57 =>
    bnd (gdv t72_55 true (.tuple []) (afield 0 t74_57)) fun t75_58 =>
    bnd (gdv t72_55 true (.tuple []) (aload false 1 t75_58 H)) fun t76_59 =>
    bnd (gdv t72_55 true (.tuple []) (ibin .lss t76_59 (.int .i64 1))) fun t77_60 =>
    bnd (gdv t69_53 false (.tuple []) (apick t72_55 t77_60 (.bool false))) fun t78_61 =>
    bnd (apick t69_53 (.bool true) t78_61) fun t79_62 =>
    cnd t79_62
      (bnd (some (.agg [(.int .i64 0), (.int .i64 0), (.int .i64 0), (.int .i64 0), (.int .i64 0)])) fun t80_63 =>
      bnd (astoreU 5 x2 t80_63 H) fun r_64 =>
      bnd (aload true 5 x2 r_64.2) fun v2_65 =>
      some ((.tuple [v2_65, (.int .i64 2)]), r_64.2))
      (sortkey_key_J4 x2 x4 x5 H0 H) := (CXM_eq [6, 8, 10, 12] _ _ _ _).trans (by kernel_rfl)
theorem sortkey_key_J2_eq (x2 x4 x5 x7 : AV) (H0 H : Hp) : sortkey_key_J2 x2 x4 x5 x7 H0 H =
    bnd (anil x4) fun t39_66 =>
    bnd (afield 3 t39_66) fun t40_67 =>
    bnd (aload false 1 t40_67 H) fun t41_68 =>
    bnd (aun .not t41_68) fun t42_69 =>
    cnd t42_69
      (bnd (anil x4) fun t44_70 =>
      bnd (afield 1 t44_70) fun t45_71 =>
      bnd (astoreU 1 t45_71 (.int .i64 1) H) fun r_72 =>
      sortkey_key_J3 x2 x4 x5 x7 H0 r_72.2)
      (sortkey_key_J3 x2 x4 x5 x7 H0 H) := (CXM_eq [6, 8, 10, 12] _ _ _ _).trans (by kernel_rfl)
theorem sortkey_key_J1_eq (x0 x2 x4 x5 x6 x7 : AV) (H0 H : Hp) : sortkey_key_J1 x0 x2 x4 x5 x6 x7 H0 H =
    bnd (aun .not x6) fun t32_73 =>
    bnd (gdv t32_73 false (.tuple []) (some x0)) fun t34_74 =>
    bnd (gdv t32_73 false (.tuple []) (sbin .neq t34_74 (.str []))) fun t35_75 =>
    bnd (apick t32_73 (.bool true) t35_75) fun t36_76 =>
    cnd t36_76
      (bnd (some (.agg [(.int .i64 0), (.int .i64 0), (.int .i64 0), (.int .i64 0), (.int .i64 0)])) fun t37_77 =>
      bnd (astoreU 5 x2 t37_77 H) fun r_78 =>
      bnd (aload true 5 x2 r_78.2) fun v2_79 =>
      some ((.tuple [v2_79, (.int .i64 1)]), r_78.2))
      (sortkey_key_J2 x2 x4 x5 x7 H0 H) := (CXM_eq [6, 8, 10, 12] _ _ _ _).trans (by kernel_rfl)
theorem F_sortkey_key_eq (p0 : AV) (H : Hp) : C_sortkey_key [p0] H = F_sortkey_key p0 H := (callw_cxm (C := cfg) (fn := Tryz.f77) (c := bodyOf Tryz.f77) (n := 107) [6, 8, 10, 12] Tryz.func77 (by kernel_rfl) (by kernel_rfl) [p0] (by kernel_rfl) H).trans (by kernel_rfl)

/-! ### texttoolsref20_with -/
noncomputable def texttoolsref20_with_J1 (x0 x1 : AV) (H0 H : Hp) : Res := CXL cfg (callw cfg) (LPL cfg (cfg.keep 79) 12) (cfg.keep 79) 12 seqL blockL (sub (bodyOf Tryz.f79) [1, 1]) (retL cfg 12 79 Tryz.f79 H0) [(0, x0), (1, x1)] H
noncomputable def F_texttoolsref20_with (p0 p1 : AV) (H : Hp) : Res :=
  bnd (flatC C_texttoolsref20_Has [p0, p1] H) fun r7_2 =>
  cnd r7_2.1
    (some (p0, r7_2.2))
    (texttoolsref20_with_J1 p0 p1 H r7_2.2)
theorem texttoolsref20_with_J1_eq (x0 x1 : AV) (H0 H : Hp) : texttoolsref20_with_J1 x0 x1 H0 H =
    bnd (ibin .add x0 x1) fun t11_1 =>
    some (t11_1, H) := (CXM_eq [3] _ _ _ _).trans (by kernel_rfl)
theorem F_texttoolsref20_with_eq (p0 p1 : AV) (H : Hp) : C_texttoolsref20_with [p0, p1] H = F_texttoolsref20_with p0 p1 H := (callw_cxm (C := cfg) (fn := Tryz.f79) (c := bodyOf Tryz.f79) (n := 12) [3] Tryz.func79 (by kernel_rfl) (by kernel_rfl) [p0, p1] (by kernel_rfl) H).trans (by kernel_rfl)

/-! ### sortkey_place_read -/
noncomputable def sortkey_place_read_J2 (x1 x7 : AV) (H0 H : Hp) : Res := CXL cfg (callw cfg) (LPL cfg (cfg.keep 99) 63) (cfg.keep 99) 63 seqL blockL (sub (bodyOf Tryz.f99) [1, 1, 1, 1, 1]) (retL cfg 63 99 Tryz.f99 H0) [(1, x1), (7, x7)] H
noncomputable def sortkey_place_read_K1 (H0 : Hp) : KL := seqL (fun k al H => CXL cfg (callw cfg) (LPL cfg (cfg.keep 99) 63) (cfg.keep 99) 63 seqL blockL (sub (bodyOf Tryz.f99) [1, 1, 1, 1, 1]) k (trimL (cfg.keep 99) (sub (bodyOf Tryz.f99) [1, 1, 1, 1, 1]) al) H) (retL cfg 63 99 Tryz.f99 H0)
theorem sortkey_place_read_K1_tame (H0 : Hp) : Tame 63 (sortkey_place_read_K1 H0) := tame_seq (C := cfg) (kp := cfg.keep 99) (sub (bodyOf Tryz.f99) [1, 1, 1, 1, 1]) (tame_ret 99 Tryz.f99 H0)
noncomputable def sortkey_place_read_J3 (x0 x1 x7 : AV) (H0 H : Hp) : Res := CXL cfg (callw cfg) (LPL cfg (cfg.keep 99) 63) (cfg.keep 99) 63 seqL blockL (sub (bodyOf Tryz.f99) [1, 1, 1, 1, 0, 0, 0, 1]) (seqL (fun k al H => LPL cfg (cfg.keep 99) 63 (sub (bodyOf Tryz.f99) [1, 1, 1, 1, 0, 0, 0]) k (trimL (cfg.keep 99) (sub (bodyOf Tryz.f99) [1, 1, 1, 1, 0, 0, 0]) al) H) (blockL 0 (sortkey_place_read_K1 H0))) [(0, x0), (1, x1), (7, x7)] H
noncomputable def sortkey_place_read_L1 (x0 x1 x7 : AV) (H0 H : Hp) : Res := LPL cfg (cfg.keep 99) 63 (sub (bodyOf Tryz.f99) [1, 1, 1, 1, 0, 0, 0]) (blockL 0 (sortkey_place_read_K1 H0)) [(0, x0), (1, x1), (7, x7)] H
noncomputable def sortkey_place_read_J1 (x0 x1 x7 : AV) (H0 H : Hp) : Res := CXL cfg (callw cfg) (LPL cfg (cfg.keep 99) 63) (cfg.keep 99) 63 seqL blockL (sub (bodyOf Tryz.f99) [1, 1, 1, 1]) (retL cfg 63 99 Tryz.f99 H0) [(0, x0), (1, x1), (7, x7)] H
noncomputable def F_sortkey_place_read (p0 p1 : AV) (H : Hp) : Res :=
  bnd (C_sortkey_place_number [p0, p1] H) fun r11_1 =>
  bnd (aext r11_1.1 0) fun t12_2 =>
  bnd (aext r11_1.1 1) fun t13_3 =>
  bnd (aext r11_1.1 2) fun t14_4 =>
  bnd (anil p0) fun t17_5 =>
  bnd (afield 0 t17_5) fun t18_6 =>
  bnd (astoreU 1 t18_6 t12_2 r11_1.2) fun r_7 =>
  bnd (gdv t14_4 true (.tuple []) (some t13_3)) fun t21_26 =>
  bnd (gdv t14_4 true ((.tuple []), r_7.2) (C_strings_HasPrefix [t21_26, (.str [46])] r_7.2)) fun r22_27 =>
  bnd (apick t14_4 r22_27.1 (.bool false)) fun t23_28 =>
  cnd t23_28
    (bnd (anil p0) fun t25_29 =>
    bnd (afield 3 t25_29) fun t26_30 =>
    bnd (astoreU 1 t26_30 (.bool true) r22_27.2) fun r_31 =>
    bnd (asliceS t13_3 (some (.int .i64 1)) none none) fun t31_32 =>
    bnd (C_sortkey_place_number [p0, t31_32] r_31.2) fun r32_33 =>
    bnd (aext r32_33.1 0) fun t33_34 =>
    bnd (aext r32_33.1 1) fun t34_35 =>
    bnd (aext r32_33.1 2) fun t35_36 =>
    bnd (anil p0) fun t36_37 =>
    bnd (afield 1 t36_37) fun t37_38 =>
    bnd (astoreU 1 t37_38 t33_34 r32_33.2) fun r_39 =>
    sortkey_place_read_J1 p0 t34_35 t35_36 H r_39.2)
    (sortkey_place_read_J1 p0 t13_3 t14_4 H r22_27.2)
theorem sortkey_place_read_J2_eq (x1 x7 : AV) (H0 H : Hp) : sortkey_place_read_J2 x1 x7 H0 H =
    some ((.tuple [x1, x7]), H) := (CXM_eq [6, 7, 9] _ _ _ _).trans (by kernel_rfl)
theorem sortkey_place_read_J3_eq (x0 x1 x7 : AV) (H0 H : Hp) : sortkey_place_read_J3 x0 x1 x7 H0 H =
    bnd (anil x0) fun t50_8 =>
    bnd (afield 2 t50_8) fun t51_9 =>
    bnd (aload false 1 t51_9 H) fun t52_10 =>
    bnd (aindexStr x1 (.int .i64 0)) fun t54_11 =>
    bnd (flatC C_sortkey_flag [t54_11] H) fun r55_12 =>
    bnd (ibin .or t52_10 r55_12.1) fun t56_13 =>
    bnd (anil x0) fun t57_14 =>
    bnd (afield 2 t57_14) fun t58_15 =>
    bnd (astoreU 1 t58_15 t56_13 r55_12.2) fun r_16 =>
    bnd (asliceS x1 (some (.int .i64 1)) none none) fun t60_17 =>
    sortkey_place_read_L1 x0 t60_17 x7 H0 r_16.2 := (CXM_eq [6, 7, 9] _ _ _ _).trans (by kernel_rfl)
theorem sortkey_place_read_L1_eq (x0 x1 x7 : AV) (H0 H : Hp) : sortkey_place_read_L1 x0 x1 x7 H0 H =
    bnd (gdv x7 true (.tuple []) (some x1)) fun t40_18 =>
    bnd (gdv x7 true (.tuple []) (sbin .neq t40_18 (.str []))) fun t41_19 =>
    bnd (apick x7 t41_19 (.bool false)) fun t42_20 =>
    bnd (gdv t42_20 true (.tuple []) (some x1)) fun t44_21 =>
    bnd (gdv t42_20 true (.tuple []) (aindexStr t44_21 (.int .i64 0))) fun t45_22 =>
    bnd (gdv t42_20 true ((.tuple []), H) (flatC C_sortkey_flag [t45_22] H)) fun r46_23 =>
    bnd (gdv t42_20 true (.tuple []) (ibin .neq r46_23.1 (.int .i64 0))) fun t47_24 =>
    bnd (apick t42_20 t47_24 (.bool false)) fun t48_25 =>
    cnd t48_25
      (sortkey_place_read_J3 x0 x1 x7 H0 r46_23.2)
      (sortkey_place_read_J2 x1 x7 H0 r46_23.2) := (LPL_eqm (C := cfg) [6, 7, 9] (tame_block 0 (sortkey_place_read_K1_tame H0)) _ _).trans (by kernel_rfl)
theorem sortkey_place_read_J1_eq (x0 x1 x7 : AV) (H0 H : Hp) : sortkey_place_read_J1 x0 x1 x7 H0 H =
    sortkey_place_read_L1 x0 x1 x7 H0 H := (CXM_eq [6, 7, 9] _ _ _ _).trans (by kernel_rfl)
theorem F_sortkey_place_read_eq (p0 p1 : AV) (H : Hp) : C_sortkey_place_read [p0, p1] H = F_sortkey_place_read p0 p1 H := (callw_cxm (C := cfg) (fn := Tryz.f99) (c := bodyOf Tryz.f99) (n := 63) [6, 7, 9] Tryz.func99 (by kernel_rfl) (by kernel_rfl) [p0, p1] (by kernel_rfl) H).trans (by kernel_rfl)

/-! ### strings_HasPrefix -/
noncomputable def F_strings_HasPrefix (p0 p1 : AV) (H : Hp) : Res :=
  bnd (C_internal_stringslite_HasPrefix [p0, p1] H) fun r7_1 =>
  some (r7_1.1, r7_1.2)
theorem F_strings_HasPrefix_eq (p0 p1 : AV) (H : Hp) : C_strings_HasPrefix [p0, p1] H = F_strings_HasPrefix p0 p1 H := (callw_cxm (C := cfg) (fn := Tryz.f100) (c := bodyOf Tryz.f100) (n := 8) [] Tryz.func100 (by kernel_rfl) (by kernel_rfl) [p0, p1] (by kernel_rfl) H).trans (by kernel_rfl)

/-! ### texttoolsref20_both -/
noncomputable def texttoolsref20_both_J1 (x1 : AV) (H0 H : Hp) : Res := CXL cfg (callw cfg) (LPL cfg (cfg.keep 102) 9) (cfg.keep 102) 9 seqL blockL (sub (bodyOf Tryz.f102) [1, 1]) (retL cfg 9 102 Tryz.f102 H0) [(1, x1)] H
noncomputable def F_texttoolsref20_both (p0 p1 : AV) (H : Hp) : Res :=
  bnd (ibin .neq p0 (.int .i64 0)) fun t6_1 =>
  cnd t6_1
    (some (p0, H))
    (texttoolsref20_both_J1 p1 H H)
theorem texttoolsref20_both_J1_eq (x1 : AV) (H0 H : Hp) : texttoolsref20_both_J1 x1 H0 H =
    some (x1, H) := (CXM_eq [3] _ _ _ _).trans (by kernel_rfl)
theorem F_texttoolsref20_both_eq (p0 p1 : AV) (H : Hp) : C_texttoolsref20_both [p0, p1] H = F_texttoolsref20_both p0 p1 H := (callw_cxm (C := cfg) (fn := Tryz.f102) (c := bodyOf Tryz.f102) (n := 9) [3] Tryz.func102 (by kernel_rfl) (by kernel_rfl) [p0, p1] (by kernel_rfl) H).trans (by kernel_rfl)

/-! ### sortkey_place_number -/
noncomputable def sortkey_place_number_J1 (x1 x7 x8 x9 : AV) (H0 H : Hp) : Res := CXL cfg (callw cfg) (LPL cfg (cfg.keep 122) 33) (cfg.keep 122) 33 seqL blockL (sub (bodyOf Tryz.f122) [1, 1, 1, 1]) (retL cfg 33 122 Tryz.f122 H0) [(1, x1), (7, x7), (8, x8), (9, x9)] H
noncomputable def F_sortkey_place_number (p0 p1 : AV) (H : Hp) : Res :=
  bnd (flatC C_sortkey_digits [p1] H) fun r11_1 =>
  bnd (asliceS p1 none (some r11_1.1) none) fun t15_2 =>
  bnd (flatC C_num_Parse [t15_2] r11_1.2) fun r16_3 =>
  bnd (aext r16_3.1 0) fun t17_4 =>
  bnd (aext r16_3.1 1) fun t18_5 =>
  bnd (ibin .eql t18_5 (.int .i64 9)) fun t20_8 =>
  cnd t20_8
    (bnd (anil p0) fun t22_9 =>
    bnd (afield 4 t22_9) fun t23_10 =>
    bnd (astoreU 1 t23_10 (.bool true) r16_3.2) fun r_11 =>
    bnd (asliceS p1 (some r11_1.1) none none) fun t26_12 =>
    some ((.tuple [(.int .i64 1), t26_12, (.bool true)]), r_11.2))
    (sortkey_place_number_J1 p1 r11_1.1 t17_4 t18_5 H r16_3.2)
theorem sortkey_place_number_J1_eq (x1 x7 x8 x9 : AV) (H0 H : Hp) : sortkey_place_number_J1 x1 x7 x8 x9 H0 H =
    bnd (asliceS x1 (some x7) none none) fun t30_6 =>
    bnd (ibin .eql x9 (.int .i64 0)) fun t32_7 =>
    some ((.tuple [x8, t30_6, t32_7]), H) := (CXM_eq [6] _ _ _ _).trans (by kernel_rfl)
theorem F_sortkey_place_number_eq (p0 p1 : AV) (H : Hp) : C_sortkey_place_number [p0, p1] H = F_sortkey_place_number p0 p1 H := (callw_cxm (C := cfg) (fn := Tryz.f122) (c := bodyOf Tryz.f122) (n := 33) [6] Tryz.func122 (by kernel_rfl) (by kernel_rfl) [p0, p1] (by kernel_rfl) H).trans (by kernel_rfl)

/-! ### internal_stringslite_HasPrefix -/
noncomputable def F_internal_stringslite_HasPrefix (p0 p1 : AV) (H : Hp) : Res :=
  bnd (alenD .string p0) fun t6_1 =>
  bnd (alenD .string p1) fun t8_2 =>
  bnd (ibin .geq t6_1 t8_2) fun t9_3 =>
  bnd (gdv t9_3 true (.tuple []) (some p0)) fun t11_4 =>
  bnd (gdv t9_3 true (.tuple []) (some p1)) fun t12_5 =>
  bnd (gdv t9_3 true (.tuple []) (alenD .string t12_5)) fun t13_6 =>
  bnd (gdv t9_3 true (.tuple []) (asliceS t11_4 none (some t13_6) none)) fun t14_7 =>
  bnd (gdv t9_3 true (.tuple []) (some p1)) fun t15_8 =>
  bnd (gdv t9_3 true (.tuple []) (sbin .eql t14_7 t15_8)) fun t16_9 =>
  bnd (apick t9_3 t16_9 (.bool false)) fun t17_10 =>
  some (t17_10, H)
theorem F_internal_stringslite_HasPrefix_eq (p0 p1 : AV) (H : Hp) : C_internal_stringslite_HasPrefix [p0, p1] H = F_internal_stringslite_HasPrefix p0 p1 H := (callw_cxm (C := cfg) (fn := Tryz.f123) (c := bodyOf Tryz.f123) (n := 18) [] Tryz.func123 (by kernel_rfl) (by kernel_rfl) [p0, p1] (by kernel_rfl) H).trans (by kernel_rfl)

/-! ### sortkey_digits -/
noncomputable def sortkey_digits_J1 (x3 : AV) (H0 H : Hp) : Res := CXL cfg (callw cfg) (LPL cfg (cfg.keep 129) 23) (cfg.keep 129) 23 seqL blockL (sub (bodyOf Tryz.f129) [1, 1, 1]) (retL cfg 23 129 Tryz.f129 H0) [(3, x3)] H
noncomputable def sortkey_digits_K1 (H0 : Hp) : KL := seqL (fun k al H => CXL cfg (callw cfg) (LPL cfg (cfg.keep 129) 23) (cfg.keep 129) 23 seqL blockL (sub (bodyOf Tryz.f129) [1, 1, 1]) k (trimL (cfg.keep 129) (sub (bodyOf Tryz.f129) [1, 1, 1]) al) H) (retL cfg 23 129 Tryz.f129 H0)
theorem sortkey_digits_K1_tame (H0 : Hp) : Tame 23 (sortkey_digits_K1 H0) := tame_seq (C := cfg) (kp := cfg.keep 129) (sub (bodyOf Tryz.f129) [1, 1, 1]) (tame_ret 129 Tryz.f129 H0)
noncomputable def sortkey_digits_J2 (x0 x3 : AV) (H0 H : Hp) : Res := CXL cfg (callw cfg) (LPL cfg (cfg.keep 129) 23) (cfg.keep 129) 23 seqL blockL (sub (bodyOf Tryz.f129) [1, 1, 0, 0, 0, 1]) (seqL (fun k al H => LPL cfg (cfg.keep 129) 23 (sub (bodyOf Tryz.f129) [1, 1, 0, 0, 0]) k (trimL (cfg.keep 129) (sub (bodyOf Tryz.f129) [1, 1, 0, 0, 0]) al) H) (blockL 0 (sortkey_digits_K1 H0))) [(0, x0), (3, x3)] H
noncomputable def sortkey_digits_L1 (x0 x3 : AV) (H0 H : Hp) : Res := LPL cfg (cfg.keep 129) 23 (sub (bodyOf Tryz.f129) [1, 1, 0, 0, 0]) (blockL 0 (sortkey_digits_K1 H0)) [(0, x0), (3, x3)] H
noncomputable def F_sortkey_digits (p0 : AV) (H : Hp) : Res :=
  sortkey_digits_L1 p0 (.int .i64 0) H H
theorem sortkey_digits_J1_eq (x3 : AV) (H0 H : Hp) : sortkey_digits_J1 x3 H0 H =
    some (x3, H) := (CXM_eq [3, 4] _ _ _ _).trans (by kernel_rfl)
theorem sortkey_digits_J2_eq (x0 x3 : AV) (H0 H : Hp) : sortkey_digits_J2 x0 x3 H0 H =
    bnd (ibin .add x3 (.int .i64 1)) fun t21_1 =>
    sortkey_digits_L1 x0 t21_1 H0 H := (CXM_eq [3, 4] _ _ _ _).trans (by kernel_rfl)
theorem sortkey_digits_L1_eq (x0 x3 : AV) (H0 H : Hp) : sortkey_digits_L1 x0 x3 H0 H =
    bnd (alenD .string x0) fun t6_2 =>
    bnd (ibin .lss x3 t6_2) fun t7_3 =>
    bnd (gdv t7_3 true (.tuple []) (some x0)) fun t9_4 =>
    bnd (gdv t7_3 true (.tuple []) (some x3)) fun t10_5 =>
    bnd (gdv t7_3 true (.tuple []) (aindexStr t9_4 t10_5)) fun t11_6 =>
    bnd (gdv t7_3 true (.tuple []) (ibin .geq t11_6 (.int .u8 48))) fun t12_7 =>
    bnd (apick t7_3 t12_7 (.bool false)) fun t13_8 =>
    bnd (gdv t13_8 true (.tuple []) (some x0)) fun t15_9 =>
    bnd (gdv t13_8 true (.tuple []) (some x3)) fun t16_10 =>
    bnd (gdv t13_8 true (.tuple []) (aindexStr t15_9 t16_10)) fun t17_11 =>
    bnd (gdv t13_8 true (.tuple []) (ibin .leq t17_11 (.int .u8 57))) fun t18_12 =>
    bnd (apick t13_8 t18_12 (.bool false)) fun t19_13 =>
    cnd t19_13
      (sortkey_digits_J2 x0 x3 H0 H)
      (sortkey_digits_J1 x3 H0 H) := (LPL_eqm (C := cfg) [3, 4] (tame_block 0 (sortkey_digits_K1_tame H0)) _ _).trans (by kernel_rfl)
theorem F_sortkey_digits_eq (p0 : AV) (H : Hp) : C_sortkey_digits [p0] H = F_sortkey_digits p0 H := (callw_cxm (C := cfg) (fn := Tryz.f129) (c := bodyOf Tryz.f129) (n := 23) [3, 4] Tryz.func129 (by kernel_rfl) (by kernel_rfl) [p0] (by kernel_rfl) H).trans (by kernel_rfl)

/-! ### num_Parse -/
noncomputable def num_Parse_J2 (x4 : AV) (H0 H : Hp) : Res := CXL cfg (callw cfg) (LPL cfg (cfg.keep 130) 17) (cfg.keep 130) 17 seqL blockL (sub (bodyOf Tryz.f130) [1, 1, 1, 1]) (retL cfg 17 130 Tryz.f130 H0) [(4, x4)] H
noncomputable def num_Parse_J1 (x0 : AV) (H0 H : Hp) : Res := CXL cfg (callw cfg) (LPL cfg (cfg.keep 130) 17) (cfg.keep 130) 17 seqL blockL (sub (bodyOf Tryz.f130) [1, 1]) (retL cfg 17 130 Tryz.f130 H0) [(0, x0)] H
noncomputable def F_num_Parse (p0 : AV) (H : Hp) : Res :=
  bnd (flatC C_num_decimal [p0] H) fun r7_5 =>
  bnd (aun .not r7_5.1) fun t8_6 =>
  cnd t8_6
    (some ((.tuple [(.int .i64 0), (.int .i64 1)]), r7_5.2))
    (num_Parse_J1 p0 H r7_5.2)
theorem num_Parse_J2_eq (x4 : AV) (H0 H : Hp) : num_Parse_J2 x4 H0 H =
    some ((.tuple [x4, (.int .i64 0)]), H) := (CXM_eq [3, 6] _ _ _ _).trans (by kernel_rfl)
theorem num_Parse_J1_eq (x0 : AV) (H0 H : Hp) : num_Parse_J1 x0 H0 H =
    bnd (sumC atoiA [x0] H) fun r11_1 =>
    bnd (aext r11_1.1 0) fun t12_2 =>
    bnd (aext r11_1.1 1) fun t13_3 =>
    bnd (ebinI .neq t13_3 .nili) fun t15_4 =>
    cnd t15_4
      (some ((.tuple [(.int .i64 0), (.int .i64 9)]), r11_1.2))
      (num_Parse_J2 t12_2 H0 r11_1.2) := (CXM_eq [3, 6] _ _ _ _).trans (by kernel_rfl)
theorem F_num_Parse_eq (p0 : AV) (H : Hp) : C_num_Parse [p0] H = F_num_Parse p0 H := (callw_cxm (C := cfg) (fn := Tryz.f130) (c := bodyOf Tryz.f130) (n := 17) [3, 6] Tryz.func130 (by kernel_rfl) (by kernel_rfl) [p0] (by kernel_rfl) H).trans (by kernel_rfl)

/-! ### texttoolsref20_digits -/
noncomputable def texttoolsref20_digits_J1 (x3 : AV) (H0 H : Hp) : Res := CXL cfg (callw cfg) (LPL cfg (cfg.keep 131) 23) (cfg.keep 131) 23 seqL blockL (sub (bodyOf Tryz.f131) [1, 1, 1]) (retL cfg 23 131 Tryz.f131 H0) [(3, x3)] H
noncomputable def texttoolsref20_digits_K1 (H0 : Hp) : KL := seqL (fun k al H => CXL cfg (callw cfg) (LPL cfg (cfg.keep 131) 23) (cfg.keep 131) 23 seqL blockL (sub (bodyOf Tryz.f131) [1, 1, 1]) k (trimL (cfg.keep 131) (sub (bodyOf Tryz.f131) [1, 1, 1]) al) H) (retL cfg 23 131 Tryz.f131 H0)
theorem texttoolsref20_digits_K1_tame (H0 : Hp) : Tame 23 (texttoolsref20_digits_K1 H0) := tame_seq (C := cfg) (kp := cfg.keep 131) (sub (bodyOf Tryz.f131) [1, 1, 1]) (tame_ret 131 Tryz.f131 H0)
noncomputable def texttoolsref20_digits_J2 (x0 x3 : AV) (H0 H : Hp) : Res := CXL cfg (callw cfg) (LPL cfg (cfg.keep 131) 23) (cfg.keep 131) 23 seqL blockL (sub (bodyOf Tryz.f131) [1, 1, 0, 0, 0, 1]) (seqL (fun k al H => LPL cfg (cfg.keep 131) 23 (sub (bodyOf Tryz.f131) [1, 1, 0, 0, 0]) k (trimL (cfg.keep 131) (sub (bodyOf Tryz.f131) [1, 1, 0, 0, 0]) al) H) (blockL 0 (texttoolsref20_digits_K1 H0))) [(0, x0), (3, x3)] H
noncomputable def texttoolsref20_digits_L1 (x0 x3 : AV) (H0 H : Hp) : Res := LPL cfg (cfg.keep 131) 23 (sub (bodyOf Tryz.f131) [1, 1, 0, 0, 0]) (blockL 0 (texttoolsref20_digits_K1 H0)) [(0, x0), (3, x3)] H
noncomputable def F_texttoolsref20_digits (p0 : AV) (H : Hp) : Res :=
  texttoolsref20_digits_L1 p0 (.int .i64 0) H H
theorem texttoolsref20_digits_J1_eq (x3 : AV) (H0 H : Hp) : texttoolsref20_digits_J1 x3 H0 H =
    some (x3, H) := (CXM_eq [3, 4] _ _ _ _).trans (by kernel_rfl)
theorem texttoolsref20_digits_J2_eq (x0 x3 : AV) (H0 H : Hp) : texttoolsref20_digits_J2 x0 x3 H0 H =
    bnd (ibin .add x3 (.int .i64 1)) fun t21_1 =>
    texttoolsref20_digits_L1 x0 t21_1 H0 H := (CXM_eq [3, 4] _ _ _ _).trans (by kernel_rfl)
theorem texttoolsref20_digits_L1_eq (x0 x3 : AV) (H0 H : Hp) : texttoolsref20_digits_L1 x0 x3 H0 H =
    bnd (alenD .string x0) fun t6_2 =>
    bnd (ibin .lss x3 t6_2) fun t7_3 =>
    bnd (gdv t7_3 true (.tuple []) (some x0)) fun t9_4 =>
    bnd (gdv t7_3 true (.tuple []) (some x3)) fun t10_5 =>
    bnd (gdv t7_3 true (.tuple []) (aindexStr t9_4 t10_5)) fun t11_6 =>
    bnd (gdv t7_3 true (.tuple []) (ibin .geq t11_6 (.int .u8 48))) fun t12_7 =>
    bnd (apick t7_3 t12_7 (.bool false)) fun t13_8 =>
    bnd (gdv t13_8 true (.tuple []) (some x0)) fun t15_9 =>
    bnd (gdv t13_8 true (.tuple []) (some x3)) fun t16_10 =>
    bnd (gdv t13_8 true (.tuple []) (aindexStr t15_9 t16_10)) fun t17_11 =>
    bnd (gdv t13_8 true (.tuple []) (ibin .leq t17_11 (.int .u8 57))) fun t18_12 =>
    bnd (apick t13_8 t18_12 (.bool false)) fun t19_13 =>
    cnd t19_13
      (texttoolsref20_digits_J2 x0 x3 H0 H)
      (texttoolsref20_digits_J1 x3 H0 H) := (LPL_eqm (C := cfg) [3, 4] (tame_block 0 (texttoolsref20_digits_K1_tame H0)) _ _).trans (by kernel_rfl)
theorem F_texttoolsref20_digits_eq (p0 : AV) (H : Hp) : C_texttoolsref20_digits [p0] H = F_texttoolsref20_digits p0 H := (callw_cxm (C := cfg) (fn := Tryz.f131) (c := bodyOf Tryz.f131) (n := 23) [3, 4] Tryz.func131 (by kernel_rfl) (by kernel_rfl) [p0] (by kernel_rfl) H).trans (by kernel_rfl)

/-! ### texttoolsref01_Parse -/
noncomputable def texttoolsref01_Parse_J5 (x5 : AV) (H0 H : Hp) : Res := CXL cfg (callw cfg) (LPL cfg (cfg.keep 132) 55) (cfg.keep 132) 55 seqL blockL (sub (bodyOf Tryz.f132) [1, 1, 1, 1, 1, 1, 1, 1]) (retL cfg 55 132 Tryz.f132 H0) [(5, x5)] H
noncomputable def texttoolsref01_Parse_J4 (x5 : AV) (H0 H : Hp) : Res := CXL cfg (callw cfg) (LPL cfg (cfg.keep 132) 55) (cfg.keep 132) 55 seqL blockL (sub (bodyOf Tryz.f132) [1, 1, 1, 1, 1, 1, 1]) (retL cfg 55 132 Tryz.f132 H0) [(5, x5)] H
noncomputable def texttoolsref01_Parse_J3 (x0 x4 x5 : AV) (H0 H : Hp) : Res := CXL cfg (callw cfg) (LPL cfg (cfg.keep 132) 55) (cfg.keep 132) 55 seqL blockL (sub (bodyOf Tryz.f132) [1, 1, 1, 1, 1, 1]) (retL cfg 55 132 Tryz.f132 H0) [(0, x0), (4, x4), (5, x5)] H
noncomputable def texttoolsref01_Parse_K1 (H0 : Hp) : KL := seqL (fun k al H => CXL cfg (callw cfg) (LPL cfg (cfg.keep 132) 55) (cfg.keep 132) 55 seqL blockL (sub (bodyOf Tryz.f132) [1, 1, 1, 1, 1, 1]) k (trimL (cfg.keep 132) (sub (bodyOf Tryz.f132) [1, 1, 1, 1, 1, 1]) al) H) (retL cfg 55 132 Tryz.f132 H0)
theorem texttoolsref01_Parse_K1_tame (H0 : Hp) : Tame 55 (texttoolsref01_Parse_K1 H0) := tame_seq (C := cfg) (kp := cfg.keep 132) (sub (bodyOf Tryz.f132) [1, 1, 1, 1, 1, 1]) (tame_ret 132 Tryz.f132 H0)
noncomputable def texttoolsref01_Parse_J7 (x0 x4 x5 x6 : AV) (H0 H : Hp) : Res := CXL cfg (callw cfg) (LPL cfg (cfg.keep 132) 55) (cfg.keep 132) 55 seqL blockL (sub (bodyOf Tryz.f132) [1, 1, 1, 1, 1, 0, 1, 0, 0, 1, 1]) (seqL (fun k al H => LPL cfg (cfg.keep 132) 55 (sub (bodyOf Tryz.f132) [1, 1, 1, 1, 1, 0, 1, 0, 0]) k (trimL (cfg.keep 132) (sub (bodyOf Tryz.f132) [1, 1, 1, 1, 1, 0, 1, 0, 0]) al) H) (blockL 0 (texttoolsref01_Parse_K1 H0))) [(0, x0), (4, x4), (5, x5), (6, x6)] H
noncomputable def texttoolsref01_Parse_K2 (H0 : Hp) : KL := seqL (fun k al H => CXL cfg (callw cfg) (LPL cfg (cfg.keep 132) 55) (cfg.keep 132) 55 seqL blockL (sub (bodyOf Tryz.f132) [1, 1, 1, 1, 1, 0, 1, 0, 0, 1, 1]) k (trimL (cfg.keep 132) (sub (bodyOf Tryz.f132) [1, 1, 1, 1, 1, 0, 1, 0, 0, 1, 1]) al) H) (seqL (fun k al H => LPL cfg (cfg.keep 132) 55 (sub (bodyOf Tryz.f132) [1, 1, 1, 1, 1, 0, 1, 0, 0]) k (trimL (cfg.keep 132) (sub (bodyOf Tryz.f132) [1, 1, 1, 1, 1, 0, 1, 0, 0]) al) H) (blockL 0 (texttoolsref01_Parse_K1 H0)))
noncomputable def texttoolsref01_Parse_J8 (x0 x4 x5 x6 x7 : AV) (H0 H : Hp) : Res := CXL cfg (callw cfg) (LPL cfg (cfg.keep 132) 55) (cfg.keep 132) 55 seqL blockL (sub (bodyOf Tryz.f132) [1, 1, 1, 1, 1, 0, 1, 0, 0, 1, 0, 0, 1, 1]) (blockL 1 (texttoolsref01_Parse_K2 H0)) [(0, x0), (4, x4), (5, x5), (6, x6), (7, x7)] H
noncomputable def texttoolsref01_Parse_J6 (x0 x4 x5 x6 : AV) (H0 H : Hp) : Res := CXL cfg (callw cfg) (LPL cfg (cfg.keep 132) 55) (cfg.keep 132) 55 seqL blockL (sub (bodyOf Tryz.f132) [1, 1, 1, 1, 1, 0, 1, 0, 0, 1]) (seqL (fun k al H => LPL cfg (cfg.keep 132) 55 (sub (bodyOf Tryz.f132) [1, 1, 1, 1, 1, 0, 1, 0, 0]) k (trimL (cfg.keep 132) (sub (bodyOf Tryz.f132) [1, 1, 1, 1, 1, 0, 1, 0, 0]) al) H) (blockL 0 (texttoolsref01_Parse_K1 H0))) [(0, x0), (4, x4), (5, x5), (6, x6)] H
noncomputable def texttoolsref01_Parse_L1 (x0 x4 x5 x6 : AV) (H0 H : Hp) : Res := LPL cfg (cfg.keep 132) 55 (sub (bodyOf Tryz.f132) [1, 1, 1, 1, 1, 0, 1, 0, 0]) (blockL 0 (texttoolsref01_Parse_K1 H0)) [(0, x0), (4, x4), (5, x5), (6, x6)] H
noncomputable def texttoolsref01_Parse_J2 (x0 x4 : AV) (H0 H : Hp) : Res := CXL cfg (callw cfg) (LPL cfg (cfg.keep 132) 55) (cfg.keep 132) 55 seqL blockL (sub (bodyOf Tryz.f132) [1, 1, 1, 1]) (retL cfg 55 132 Tryz.f132 H0) [(0, x0), (4, x4)] H
noncomputable def texttoolsref01_Parse_J1 (x0 x4 : AV) (H0 H : Hp) : Res := CXL cfg (callw cfg) (LPL cfg (cfg.keep 132) 55) (cfg.keep 132) 55 seqL blockL (sub (bodyOf Tryz.f132) [1, 1, 1]) (retL cfg 55 132 Tryz.f132 H0) [(0, x0), (4, x4)] H
noncomputable def F_texttoolsref01_Parse (p0 : AV) (H : Hp) : Res :=
  bnd (sbin .neq p0 (.str [])) fun t10_22 =>
  bnd (gdv t10_22 true (.tuple []) (some p0)) fun t12_23 =>
  bnd (gdv t10_22 true (.tuple []) (aindexStr t12_23 (.int .i64 0))) fun t13_24 =>
  bnd (gdv t10_22 true (.tuple []) (ibin .eql t13_24 (.int .u8 45))) fun t14_25 =>
  bnd (apick t10_22 t14_25 (.bool false)) fun t15_26 =>
  cnd t15_26
    (bnd (asliceS p0 (some (.int .i64 1)) none none) fun t17_27 =>
    texttoolsref01_Parse_J1 p0 t17_27 H H)
    (texttoolsref01_Parse_J1 p0 p0 H H)
theorem texttoolsref01_Parse_J5_eq (x5 : AV) (H0 H : Hp) : texttoolsref01_Parse_J5 x5 H0 H =
    bnd (aun .neg x5) fun t54_1 =>
    some ((.tuple [t54_1, (.int .i64 0)]), H) := (CXM_eq [4, 6, 9, 10, 13, 14, 16, 18] _ _ _ _).trans (by kernel_rfl)
theorem texttoolsref01_Parse_J4_eq (x5 : AV) (H0 H : Hp) : texttoolsref01_Parse_J4 x5 H0 H =
    bnd (ibin .eql x5 (.int .i64 (-9223372036854775808))) fun t52_2 =>
    cnd t52_2
      (some ((.tuple [(.int .i64 0), (.int .i64 9)]), H))
      (texttoolsref01_Parse_J5 x5 H0 H) := (CXM_eq [4, 6, 9, 10, 13, 14, 16, 18] _ _ _ _).trans (by kernel_rfl)
theorem texttoolsref01_Parse_J3_eq (x0 x4 x5 : AV) (H0 H : Hp) : texttoolsref01_Parse_J3 x0 x4 x5 H0 H =
    bnd (alenD .string x4) fun t46_3 =>
    bnd (alenD .string x0) fun t48_4 =>
    bnd (ibin .lss t46_3 t48_4) fun t49_5 =>
    cnd t49_5
      (some ((.tuple [x5, (.int .i64 0)]), H))
      (texttoolsref01_Parse_J4 x5 H0 H) := (CXM_eq [4, 6, 9, 10, 13, 14, 16, 18] _ _ _ _).trans (by kernel_rfl)
theorem texttoolsref01_Parse_J7_eq (x0 x4 x5 x6 : AV) (H0 H : Hp) : texttoolsref01_Parse_J7 x0 x4 x5 x6 H0 H =
    bnd (ibin .add x6 (.int .i64 1)) fun t30_6 =>
    texttoolsref01_Parse_L1 x0 x4 x5 t30_6 H0 H := (CXM_eq [4, 6, 9, 10, 13, 14, 16, 18] _ _ _ _).trans (by kernel_rfl)
theorem texttoolsref01_Parse_J8_eq (x0 x4 x5 x6 x7 : AV) (H0 H : Hp) : texttoolsref01_Parse_J8 x0 x4 x5 x6 x7 H0 H =
    bnd (ibin .mul (.int .i64 10) x5) fun t42_10 =>
    bnd (ibin .sub t42_10 x7) fun t44_11 =>
    texttoolsref01_Parse_J7 x0 x4 t44_11 x6 H0 H := (CXM_eq [4, 6, 9, 10, 13, 14, 16, 18] _ _ _ _).trans (by kernel_rfl)
theorem texttoolsref01_Parse_J6_eq (x0 x4 x5 x6 : AV) (H0 H : Hp) : texttoolsref01_Parse_J6 x0 x4 x5 x6 H0 H =
    bnd (aindexStr x4 x6) fun t33_7 =>
    bnd (ibin .sub t33_7 (.int .u8 48)) fun t34_8 =>
    bnd (cvInt .i64 t34_8) fun t35_9 =>
    bnd (ibin .add (.int .i64 (-9223372036854775808)) t35_9) fun t38_12 =>
    bnd (ibin .quo t38_12 (.int .i64 10)) fun t39_13 =>
    bnd (ibin .lss x5 t39_13) fun t40_14 =>
    cnd t40_14
      (some ((.tuple [(.int .i64 0), (.int .i64 9)]), H))
      (texttoolsref01_Parse_J8 x0 x4 x5 x6 t35_9 H0 H) := (CXM_eq [4, 6, 9, 10, 13, 14, 16, 18] _ _ _ _).trans (by kernel_rfl)
theorem texttoolsref01_Parse_L1_eq (x0 x4 x5 x6 : AV) (H0 H : Hp) : texttoolsref01_Parse_L1 x0 x4 x5 x6 H0 H =
    bnd (alenD .string x4) fun t27_15 =>
    bnd (ibin .lss x6 t27_15) fun t28_16 =>
    cnd t28_16
      (texttoolsref01_Parse_J6 x0 x4 x5 x6 H0 H)
      (texttoolsref01_Parse_J3 x0 x4 x5 H0 H) := (LPL_eqm (C := cfg) [4, 6, 9, 10, 13, 14, 16, 18] (tame_block 0 (texttoolsref01_Parse_K1_tame H0)) _ _).trans (by kernel_rfl)
theorem texttoolsref01_Parse_J2_eq (x0 x4 : AV) (H0 H : Hp) : texttoolsref01_Parse_J2 x0 x4 H0 H =
    texttoolsref01_Parse_L1 x0 x4 (.int .i64 0) (.int .i64 0) H0 H := (CXM_eq [4, 6, 9, 10, 13, 14, 16, 18] _ _ _ _).trans (by kernel_rfl)
theorem texttoolsref01_Parse_J1_eq (x0 x4 : AV) (H0 H : Hp) : texttoolsref01_Parse_J1 x0 x4 H0 H =
    bnd (flatC C_texttoolsref01_Digits [x4] H) fun r19_17 =>
    bnd (aun .not r19_17.1) fun t20_18 =>
    bnd (gdv t20_18 false (.tuple []) (some x0)) fun t22_19 =>
    bnd (gdv t20_18 false (.tuple []) (sbin .eql t22_19 (.str [45, 48]))) fun t23_20 =>
    bnd (apick t20_18 (.bool true) t23_20) fun t24_21 =>
    cnd t24_21
      (some ((.tuple [(.int .i64 0), (.int .i64 1)]), r19_17.2))
      (texttoolsref01_Parse_J2 x0 x4 H0 r19_17.2) := (CXM_eq [4, 6, 9, 10, 13, 14, 16, 18] _ _ _ _).trans (by kernel_rfl)
theorem F_texttoolsref01_Parse_eq (p0 : AV) (H : Hp) : C_texttoolsref01_Parse [p0] H = F_texttoolsref01_Parse p0 H := (callw_cxm (C := cfg) (fn := Tryz.f132) (c := bodyOf Tryz.f132) (n := 55) [4, 6, 9, 10, 13, 14, 16, 18] Tryz.func132 (by kernel_rfl) (by kernel_rfl) [p0] (by kernel_rfl) H).trans (by kernel_rfl)

/-! ### num_decimal -/
noncomputable def num_decimal_J3 (H0 H : Hp) : Res := CXL cfg (callw cfg) (LPL cfg (cfg.keep 140) 42) (cfg.keep 140) 42 seqL blockL (sub (bodyOf Tryz.f140) [1, 1, 1, 1, 1]) (retL cfg 42 140 Tryz.f140 H0) [] H
noncomputable def num_decimal_K1 (H0 : Hp) : KL := seqL (fun k al H => CXL cfg (callw cfg) (LPL cfg (cfg.keep 140) 42) (cfg.keep 140) 42 seqL blockL (sub (bodyOf Tryz.f140) [1, 1, 1, 1, 1]) k (trimL (cfg.keep 140) (sub (bodyOf Tryz.f140) [1, 1, 1, 1, 1]) al) H) (retL cfg 42 140 Tryz.f140 H0)
theorem num_decimal_K1_tame (H0 : Hp) : Tame 42 (num_decimal_K1 H0) := tame_seq (C := cfg) (kp := cfg.keep 140) (sub (bodyOf Tryz.f140) [1, 1, 1, 1, 1]) (tame_ret 140 Tryz.f140 H0)
noncomputable def num_decimal_J5 (x3 x27 x28 : AV) (H0 H : Hp) : Res := CXL cfg (callw cfg) (LPL cfg (cfg.keep 140) 42) (cfg.keep 140) 42 seqL blockL (sub (bodyOf Tryz.f140) [1, 1, 1, 1, 0, 1, 0, 0, 1, 1, 1]) (seqL (fun k al H => LPL cfg (cfg.keep 140) 42 (sub (bodyOf Tryz.f140) [1, 1, 1, 1, 0, 1, 0, 0]) k (trimL (cfg.keep 140) (sub (bodyOf Tryz.f140) [1, 1, 1, 1, 0, 1, 0, 0]) al) H) (blockL 0 (num_decimal_K1 H0))) [(3, x3), (27, x27), (28, x28)] H
noncomputable def num_decimal_J4 (x3 x27 x28 x29 : AV) (H0 H : Hp) : Res := CXL cfg (callw cfg) (LPL cfg (cfg.keep 140) 42) (cfg.keep 140) 42 seqL blockL (sub (bodyOf Tryz.f140) [1, 1, 1, 1, 0, 1, 0, 0, 1, 1]) (seqL (fun k al H => LPL cfg (cfg.keep 140) 42 (sub (bodyOf Tryz.f140) [1, 1, 1, 1, 0, 1, 0, 0]) k (trimL (cfg.keep 140) (sub (bodyOf Tryz.f140) [1, 1, 1, 1, 0, 1, 0, 0]) al) H) (blockL 0 (num_decimal_K1 H0))) [(3, x3), (27, x27), (28, x28), (29, x29)] H
noncomputable def num_decimal_L1 (x3 x27 x28 : AV) (H0 H : Hp) : Res := LPL cfg (cfg.keep 140) 42 (sub (bodyOf Tryz.f140) [1, 1, 1, 1, 0, 1, 0, 0]) (blockL 0 (num_decimal_K1 H0)) [(3, x3), (27, x27), (28, x28)] H
noncomputable def num_decimal_J2 (x3 : AV) (H0 H : Hp) : Res := CXL cfg (callw cfg) (LPL cfg (cfg.keep 140) 42) (cfg.keep 140) 42 seqL blockL (sub (bodyOf Tryz.f140) [1, 1, 1, 1]) (retL cfg 42 140 Tryz.f140 H0) [(3, x3)] H
noncomputable def num_decimal_J1 (x0 x3 : AV) (H0 H : Hp) : Res := CXL cfg (callw cfg) (LPL cfg (cfg.keep 140) 42) (cfg.keep 140) 42 seqL blockL (sub (bodyOf Tryz.f140) [1, 1, 1]) (retL cfg 42 140 Tryz.f140 H0) [(0, x0), (3, x3)] H
noncomputable def F_num_decimal (p0 : AV) (H : Hp) : Res :=
  bnd (sbin .neq p0 (.str [])) fun t7_20 =>
  bnd (gdv t7_20 true (.tuple []) (some p0)) fun t9_21 =>
  bnd (gdv t7_20 true (.tuple []) (aindexStr t9_21 (.int .i64 0))) fun t10_22 =>
  bnd (gdv t7_20 true (.tuple []) (ibin .eql t10_22 (.int .u8 45))) fun t11_23 =>
  bnd (apick t7_20 t11_23 (.bool false)) fun t12_24 =>
  cnd t12_24
    (bnd (asliceS p0 (some (.int .i64 1)) none none) fun t14_25 =>
    num_decimal_J1 p0 t14_25 H H)
    (num_decimal_J1 p0 p0 H H)
theorem num_decimal_J3_eq (H0 H : Hp) : num_decimal_J3 H0 H =
    some ((.bool true), H) := (CXM_eq [4, 6, 8, 11, 12] _ _ _ _).trans (by kernel_rfl)
theorem num_decimal_J5_eq (x3 x27 x28 : AV) (H0 H : Hp) : num_decimal_J5 x3 x27 x28 H0 H =
    bnd (ibin .add x28 (.int .i64 1)) fun t41_3 =>
    num_decimal_L1 x3 x27 t41_3 H0 H := (CXM_eq [4, 6, 8, 11, 12] _ _ _ _).trans (by kernel_rfl)
theorem num_decimal_J4_eq (x3 x27 x28 x29 : AV) (H0 H : Hp) : num_decimal_J4 x3 x27 x28 x29 H0 H =
    bnd (aindexStr x3 x28) fun t33_4 =>
    bnd (ibin .lss t33_4 (.int .u8 48)) fun t34_5 =>
    bnd (gdv t34_5 false (.tuple []) (some x3)) fun t36_6 =>
    bnd (gdv t34_5 false (.tuple []) (some x28)) fun t37_7 =>
    bnd (gdv t34_5 false (.tuple []) (aindexStr t36_6 t37_7)) fun t38_8 =>
    bnd (gdv t34_5 false (.tuple []) (ibin .gtr t38_8 (.int .u8 57))) fun t39_9 =>
    bnd (apick t34_5 (.bool true) t39_9) fun t40_10 =>
    cnd t40_10
      (some ((.bool false), H))
      (num_decimal_J5 x3 x27 x28 H0 H) := (CXM_eq [4, 6, 8, 11, 12] _ _ _ _).trans (by kernel_rfl)
theorem num_decimal_L1_eq (x3 x27 x28 : AV) (H0 H : Hp) : num_decimal_L1 x3 x27 x28 H0 H =
    bnd (ibin .lss x28 x27) fun t29_2 =>
    cnd t29_2
      (num_decimal_J4 x3 x27 x28 t29_2 H0 H)
      (num_decimal_J3 H0 H) := (LPL_eqm (C := cfg) [4, 6, 8, 11, 12] (tame_block 0 (num_decimal_K1_tame H0)) _ _).trans (by kernel_rfl)
theorem num_decimal_J2_eq (x3 : AV) (H0 H : Hp) : num_decimal_J2 x3 H0 H =
    bnd (alenD .string x3) fun t27_1 =>
    num_decimal_L1 x3 t27_1 (.int .i64 0) H0 H := (CXM_eq [4, 6, 8, 11, 12] _ _ _ _).trans (by kernel_rfl)
theorem num_decimal_J1_eq (x0 x3 : AV) (H0 H : Hp) : num_decimal_J1 x0 x3 H0 H =
    bnd (sbin .eql x3 (.str [])) fun t16_11 =>
    bnd (gdv t16_11 false (.tuple []) (some x3)) fun t18_12 =>
    bnd (gdv t16_11 false (.tuple []) (aindexStr t18_12 (.int .i64 0))) fun t19_13 =>
    bnd (gdv t16_11 false (.tuple []) (ibin .eql t19_13 (.int .u8 48))) fun t20_14 =>
    bnd (gdv t16_11 false (.tuple []) (some t20_14)) fun t21_15 =>
    bnd (gdv t21_15 true (.tuple []) (some x0)) fun t22_16 =>
    bnd (gdv t21_15 true (.tuple []) (sbin .neq t22_16 (.str [48]))) fun t23_17 =>
    bnd (gdv t16_11 false (.tuple []) (apick t21_15 t23_17 (.bool false))) fun t24_18 =>
    bnd (apick t16_11 (.bool true) t24_18) fun t25_19 =>
    cnd t25_19
      (some ((.bool false), H))
      (num_decimal_J2 x3 H0 H) := (CXM_eq [4, 6, 8, 11, 12] _ _ _ _).trans (by kernel_rfl)
theorem F_num_decimal_eq (p0 : AV) (H : Hp) : C_num_decimal [p0] H = F_num_decimal p0 H := (callw_cxm (C := cfg) (fn := Tryz.f140) (c := bodyOf Tryz.f140) (n := 42) [4, 6, 8, 11, 12] Tryz.func140 (by kernel_rfl) (by kernel_rfl) [p0] (by kernel_rfl) H).trans (by kernel_rfl)

/-! ### texttoolsref01_Digits -/
noncomputable def texttoolsref01_Digits_J2 (H0 H : Hp) : Res := CXL cfg (callw cfg) (LPL cfg (cfg.keep 142) 32) (cfg.keep 142) 32 seqL blockL (sub (bodyOf Tryz.f142) [1, 1, 1]) (retL cfg 32 142 Tryz.f142 H0) [] H
noncomputable def texttoolsref01_Digits_K1 (H0 : Hp) : KL := seqL (fun k al H => CXL cfg (callw cfg) (LPL cfg (cfg.keep 142) 32) (cfg.keep 142) 32 seqL blockL (sub (bodyOf Tryz.f142) [1, 1, 1]) k (trimL (cfg.keep 142) (sub (bodyOf Tryz.f142) [1, 1, 1]) al) H) (retL cfg 32 142 Tryz.f142 H0)
theorem texttoolsref01_Digits_K1_tame (H0 : Hp) : Tame 32 (texttoolsref01_Digits_K1 H0) := tame_seq (C := cfg) (kp := cfg.keep 142) (sub (bodyOf Tryz.f142) [1, 1, 1]) (tame_ret 142 Tryz.f142 H0)
noncomputable def texttoolsref01_Digits_J4 (x0 x3 : AV) (H0 H : Hp) : Res := CXL cfg (callw cfg) (LPL cfg (cfg.keep 142) 32) (cfg.keep 142) 32 seqL blockL (sub (bodyOf Tryz.f142) [1, 1, 0, 1, 0, 0, 1, 1]) (seqL (fun k al H => LPL cfg (cfg.keep 142) 32 (sub (bodyOf Tryz.f142) [1, 1, 0, 1, 0, 0]) k (trimL (cfg.keep 142) (sub (bodyOf Tryz.f142) [1, 1, 0, 1, 0, 0]) al) H) (blockL 0 (texttoolsref01_Digits_K1 H0))) [(0, x0), (3, x3)] H
noncomputable def texttoolsref01_Digits_J3 (x0 x3 : AV) (H0 H : Hp) : Res := CXL cfg (callw cfg) (LPL cfg (cfg.keep 142) 32) (cfg.keep 142) 32 seqL blockL (sub (bodyOf Tryz.f142) [1, 1, 0, 1, 0, 0, 1]) (seqL (fun k al H => LPL cfg (cfg.keep 142) 32 (sub (bodyOf Tryz.f142) [1, 1, 0, 1, 0, 0]) k (trimL (cfg.keep 142) (sub (bodyOf Tryz.f142) [1, 1, 0, 1, 0, 0]) al) H) (blockL 0 (texttoolsref01_Digits_K1 H0))) [(0, x0), (3, x3)] H
noncomputable def texttoolsref01_Digits_L1 (x0 x3 : AV) (H0 H : Hp) : Res := LPL cfg (cfg.keep 142) 32 (sub (bodyOf Tryz.f142) [1, 1, 0, 1, 0, 0]) (blockL 0 (texttoolsref01_Digits_K1 H0)) [(0, x0), (3, x3)] H
noncomputable def texttoolsref01_Digits_J1 (x0 : AV) (H0 H : Hp) : Res := CXL cfg (callw cfg) (LPL cfg (cfg.keep 142) 32) (cfg.keep 142) 32 seqL blockL (sub (bodyOf Tryz.f142) [1, 1]) (retL cfg 32 142 Tryz.f142 H0) [(0, x0)] H
noncomputable def F_texttoolsref01_Digits (p0 : AV) (H : Hp) : Res :=
  bnd (sbin .eql p0 (.str [])) fun t5_11 =>
  bnd (gdv t5_11 false (.tuple []) (some p0)) fun t7_12 =>
  bnd (gdv t5_11 false (.tuple []) (alenD .string t7_12)) fun t8_13 =>
  bnd (gdv t5_11 false (.tuple []) (ibin .gtr t8_13 (.int .i64 1))) fun t9_14 =>
  bnd (gdv t5_11 false (.tuple []) (some t9_14)) fun t10_15 =>
  bnd (gdv t10_15 true (.tuple []) (some p0)) fun t11_16 =>
  bnd (gdv t10_15 true (.tuple []) (aindexStr t11_16 (.int .i64 0))) fun t12_17 =>
  bnd (gdv t10_15 true (.tuple []) (ibin .eql t12_17 (.int .u8 48))) fun t13_18 =>
  bnd (gdv t5_11 false (.tuple []) (apick t10_15 t13_18 (.bool false))) fun t14_19 =>
  bnd (apick t5_11 (.bool true) t14_19) fun t15_20 =>
  cnd t15_20
    (some ((.bool false), H))
    (texttoolsref01_Digits_J1 p0 H H)
theorem texttoolsref01_Digits_J2_eq (H0 H : Hp) : texttoolsref01_Digits_J2 H0 H =
    some ((.bool true), H) := (CXM_eq [3, 5, 6, 8] _ _ _ _).trans (by kernel_rfl)
theorem texttoolsref01_Digits_J4_eq (x0 x3 : AV) (H0 H : Hp) : texttoolsref01_Digits_J4 x0 x3 H0 H =
    bnd (ibin .add x3 (.int .i64 1)) fun t21_1 =>
    texttoolsref01_Digits_L1 x0 t21_1 H0 H := (CXM_eq [3, 5, 6, 8] _ _ _ _).trans (by kernel_rfl)
theorem texttoolsref01_Digits_J3_eq (x0 x3 : AV) (H0 H : Hp) : texttoolsref01_Digits_J3 x0 x3 H0 H =
    bnd (aindexStr x0 x3) fun t24_2 =>
    bnd (ibin .lss t24_2 (.int .u8 48)) fun t25_3 =>
    bnd (gdv t25_3 false (.tuple []) (some x0)) fun t27_4 =>
    bnd (gdv t25_3 false (.tuple []) (some x3)) fun t28_5 =>
    bnd (gdv t25_3 false (.tuple []) (aindexStr t27_4 t28_5)) fun t29_6 =>
    bnd (gdv t25_3 false (.tuple []) (ibin .gtr t29_6 (.int .u8 57))) fun t30_7 =>
    bnd (apick t25_3 (.bool true) t30_7) fun t31_8 =>
    cnd t31_8
      (some ((.bool false), H))
      (texttoolsref01_Digits_J4 x0 x3 H0 H) := (CXM_eq [3, 5, 6, 8] _ _ _ _).trans (by kernel_rfl)
theorem texttoolsref01_Digits_L1_eq (x0 x3 : AV) (H0 H : Hp) : texttoolsref01_Digits_L1 x0 x3 H0 H =
    bnd (alenD .string x0) fun t18_9 =>
    bnd (ibin .lss x3 t18_9) fun t19_10 =>
    cnd t19_10
      (texttoolsref01_Digits_J3 x0 x3 H0 H)
      (texttoolsref01_Digits_J2 H0 H) := (LPL_eqm (C := cfg) [3, 5, 6, 8] (tame_block 0 (texttoolsref01_Digits_K1_tame H0)) _ _).trans (by kernel_rfl)
theorem texttoolsref01_Digits_J1_eq (x0 : AV) (H0 H : Hp) : texttoolsref01_Digits_J1 x0 H0 H =
    texttoolsref01_Digits_L1 x0 (.int .i64 0) H0 H := (CXM_eq [3, 5, 6, 8] _ _ _ _).trans (by kernel_rfl)
theorem F_texttoolsref01_Digits_eq (p0 : AV) (H : Hp) : C_texttoolsref01_Digits [p0] H = F_texttoolsref01_Digits p0 H := (callw_cxm (C := cfg) (fn := Tryz.f142) (c := bodyOf Tryz.f142) (n := 32) [3, 5, 6, 8] Tryz.func142 (by kernel_rfl) (by kernel_rfl) [p0] (by kernel_rfl) H).trans (by kernel_rfl)

end Go.Am
