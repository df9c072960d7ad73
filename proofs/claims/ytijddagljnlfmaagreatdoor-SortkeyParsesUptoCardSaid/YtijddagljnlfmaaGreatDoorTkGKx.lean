/-
  The functions of the translation over the abstract machine, a further part: written by program (wip/gen.py).
-/
import Derived.Test.YtijddagljnlfmaaGreatDoorTkGx
namespace Go.Am
open Go.Proofs
set_option maxRecDepth 100000
set_option linter.unusedVariables false
set_option linter.unusedSimpArgs false

/-! ### texttoolslaw20_SortkeyChecks -/
/-! ### texttoolsref03_SameTexts -/
noncomputable def texttoolsref03_SameTexts_J2 (H0 H : Hp) : Res := CXL cfg (callw cfg) (LPL cfg (cfg.keep 14) 26) (cfg.keep 14) 26 seqL blockL (sub (bodyOf Tryz.f14) [1, 1, 1]) (retL cfg 26 14 Tryz.f14 H0) [] H
noncomputable def texttoolsref03_SameTexts_K1 (H0 : Hp) : KL := seqL (fun k al H => CXL cfg (callw cfg) (LPL cfg (cfg.keep 14) 26) (cfg.keep 14) 26 seqL blockL (sub (bodyOf Tryz.f14) [1, 1, 1]) k (trimL (cfg.keep 14) (sub (bodyOf Tryz.f14) [1, 1, 1]) al) H) (retL cfg 26 14 Tryz.f14 H0)
theorem texttoolsref03_SameTexts_K1_tame (H0 : Hp) : Tame 26 (texttoolsref03_SameTexts_K1 H0) := tame_seq (C := cfg) (kp := cfg.keep 14) (sub (bodyOf Tryz.f14) [1, 1, 1]) (tame_ret 14 Tryz.f14 H0)
noncomputable def texttoolsref03_SameTexts_J4 (x0 x1 x5 : AV) (H0 H : Hp) : Res := CXL cfg (callw cfg) (LPL cfg (cfg.keep 14) 26) (cfg.keep 14) 26 seqL blockL (sub (bodyOf Tryz.f14) [1, 1, 0, 1, 0, 0, 1, 1]) (seqL (fun k al H => LPL cfg (cfg.keep 14) 26 (sub (bodyOf Tryz.f14) [1, 1, 0, 1, 0, 0]) k (trimL (cfg.keep 14) (sub (bodyOf Tryz.f14) [1, 1, 0, 1, 0, 0]) al) H) (blockL 0 (texttoolsref03_SameTexts_K1 H0))) [(0, x0), (1, x1), (5, x5)] H
noncomputable def texttoolsref03_SameTexts_J3 (x0 x1 x5 : AV) (H0 H : Hp) : Res := CXL cfg (callw cfg) (LPL cfg (cfg.keep 14) 26) (cfg.keep 14) 26 seqL blockL (sub (bodyOf Tryz.f14) [1, 1, 0, 1, 0, 0, 1]) (seqL (fun k al H => LPL cfg (cfg.keep 14) 26 (sub (bodyOf Tryz.f14) [1, 1, 0, 1, 0, 0]) k (trimL (cfg.keep 14) (sub (bodyOf Tryz.f14) [1, 1, 0, 1, 0, 0]) al) H) (blockL 0 (texttoolsref03_SameTexts_K1 H0))) [(0, x0), (1, x1), (5, x5)] H
noncomputable def texttoolsref03_SameTexts_L1 (x0 x1 x5 : AV) (H0 H : Hp) : Res := LPL cfg (cfg.keep 14) 26 (sub (bodyOf Tryz.f14) [1, 1, 0, 1, 0, 0]) (blockL 0 (texttoolsref03_SameTexts_K1 H0)) [(0, x0), (1, x1), (5, x5)] H
noncomputable def texttoolsref03_SameTexts_J1 (x0 x1 : AV) (H0 H : Hp) : Res := CXL cfg (callw cfg) (LPL cfg (cfg.keep 14) 26) (cfg.keep 14) 26 seqL blockL (sub (bodyOf Tryz.f14) [1, 1]) (retL cfg 26 14 Tryz.f14 H0) [(0, x0), (1, x1)] H
noncomputable def F_texttoolsref03_SameTexts (p0 p1 : AV) (H : Hp) : Res :=
  bnd (alenD (.slice 9) p0) fun t7_9 =>
  bnd (alenD (.slice 9) p1) fun t9_10 =>
  bnd (ibin .neq t7_9 t9_10) fun t10_11 =>
  cnd t10_11
    (some ((.bool false), H))
    (texttoolsref03_SameTexts_J1 p0 p1 H H)
theorem texttoolsref03_SameTexts_J2_eq (H0 H : Hp) : texttoolsref03_SameTexts_J2 H0 H =
    some ((.bool true), H) := (CXM_eq [3, 5, 6, 8] _ _ _ _).trans (by kernel_rfl)
theorem texttoolsref03_SameTexts_J4_eq (x0 x1 x5 : AV) (H0 H : Hp) : texttoolsref03_SameTexts_J4 x0 x1 x5 H0 H =
    bnd (ibin .add x5 (.int .i64 1)) fun t16_1 =>
    texttoolsref03_SameTexts_L1 x0 x1 t16_1 H0 H := (CXM_eq [3, 5, 6, 8] _ _ _ _).trans (by kernel_rfl)
theorem texttoolsref03_SameTexts_J3_eq (x0 x1 x5 : AV) (H0 H : Hp) : texttoolsref03_SameTexts_J3 x0 x1 x5 H0 H =
    bnd (aindexS 1 x0 x5) fun t19_2 =>
    bnd (aload false 1 t19_2 H) fun t20_3 =>
    bnd (aindexS 1 x1 x5) fun t23_4 =>
    bnd (aload false 1 t23_4 H) fun t24_5 =>
    bnd (sbin .neq t20_3 t24_5) fun t25_6 =>
    cnd t25_6
      (some ((.bool false), H))
      (texttoolsref03_SameTexts_J4 x0 x1 x5 H0 H) := (CXM_eq [3, 5, 6, 8] _ _ _ _).trans (by kernel_rfl)
theorem texttoolsref03_SameTexts_L1_eq (x0 x1 x5 : AV) (H0 H : Hp) : texttoolsref03_SameTexts_L1 x0 x1 x5 H0 H =
    bnd (alenD (.slice 9) x0) fun t13_7 =>
    bnd (ibin .lss x5 t13_7) fun t14_8 =>
    cnd t14_8
      (texttoolsref03_SameTexts_J3 x0 x1 x5 H0 H)
      (texttoolsref03_SameTexts_J2 H0 H) := (LPL_eqm (C := cfg) [3, 5, 6, 8] (tame_block 0 (texttoolsref03_SameTexts_K1_tame H0)) _ _).trans (by kernel_rfl)
theorem texttoolsref03_SameTexts_J1_eq (x0 x1 : AV) (H0 H : Hp) : texttoolsref03_SameTexts_J1 x0 x1 H0 H =
    texttoolsref03_SameTexts_L1 x0 x1 (.int .i64 0) H0 H := (CXM_eq [3, 5, 6, 8] _ _ _ _).trans (by kernel_rfl)
theorem F_texttoolsref03_SameTexts_eq (p0 p1 : AV) (H : Hp) : C_texttoolsref03_SameTexts [p0, p1] H = F_texttoolsref03_SameTexts p0 p1 H := (callw_cxm (C := cfg) (fn := Tryz.f14) (c := bodyOf Tryz.f14) (n := 26) [3, 5, 6, 8] Tryz.func14 (by kernel_rfl) (by kernel_rfl) [p0, p1] (by kernel_rfl) H).trans (by kernel_rfl)

/-! ### sortkey_Check -/
/-! ### texttoolsref20_Check -/
/-! ### sortkey_Print -/
/-! ### texttoolsref20_Print -/
/-! ### texttoolsref20_Has -/
noncomputable def F_texttoolsref20_Has (p0 p1 : AV) (H : Hp) : Res :=
  bnd (ibin .quo p0 p1) fun t7_1 =>
  bnd (ibin .rem t7_1 (.int .i64 2)) fun t8_2 =>
  bnd (ibin .eql t8_2 (.int .i64 1)) fun t9_3 =>
  some (t9_3, H)
theorem F_texttoolsref20_Has_eq (p0 p1 : AV) (H : Hp) : C_texttoolsref20_Has [p0, p1] H = F_texttoolsref20_Has p0 p1 H := (callw_cxm (C := cfg) (fn := Tryz.f40) (c := bodyOf Tryz.f40) (n := 10) [] Tryz.func40 (by kernel_rfl) (by kernel_rfl) [p0, p1] (by kernel_rfl) H).trans (by kernel_rfl)

/-! ### texttoolsref20_right -/
/-! ### sortkey_text -/
/-! ### sortkey_keyText -/
/-! ### texttoolsref20_letters -/
/-! ### texttoolsref20_text -/
/-! ### sortkey_flag -/
noncomputable def sortkey_flag_J1 (H0 H : Hp) : Res := CXL cfg (callw cfg) (LPL cfg (cfg.keep 46) 14) (cfg.keep 46) 14 seqL blockL (sub (bodyOf Tryz.f46) [1, 1]) (retL cfg 14 46 Tryz.f46 H0) [] H
noncomputable def F_sortkey_flag (p0 : AV) (H : Hp) : Res :=
  bnd (ibin .eql p0 (.int .u8 98)) fun t5_1 =>
  cnd t5_1
    (some ((.int .i64 8), H))
    (bnd (ibin .eql p0 (.int .u8 100)) fun t7_2 =>
    cnd t7_2
      (some ((.int .i64 16), H))
      (bnd (ibin .eql p0 (.int .u8 102)) fun t9_3 =>
      cnd t9_3
        (some ((.int .i64 4), H))
        (bnd (ibin .eql p0 (.int .u8 110)) fun t11_4 =>
        cnd t11_4
          (some ((.int .i64 1), H))
          (bnd (ibin .eql p0 (.int .u8 114)) fun t13_5 =>
          cnd t13_5
            (some ((.int .i64 2), H))
            (sortkey_flag_J1 H H)))))
theorem sortkey_flag_J1_eq (H0 H : Hp) : sortkey_flag_J1 H0 H =
    some ((.int .i64 0), H) := (CXM_eq [12] _ _ _ _).trans (by kernel_rfl)
theorem F_sortkey_flag_eq (p0 : AV) (H : Hp) : C_sortkey_flag [p0] H = F_sortkey_flag p0 H := (callw_cxm (C := cfg) (fn := Tryz.f46) (c := bodyOf Tryz.f46) (n := 14) [12] Tryz.func46 (by kernel_rfl) (by kernel_rfl) [p0] (by kernel_rfl) H).trans (by kernel_rfl)

/-! ### num_Format -/
/-! ### texttoolsref20_flag -/
noncomputable def texttoolsref20_flag_J1 (H0 H : Hp) : Res := CXL cfg (callw cfg) (LPL cfg (cfg.keep 75) 14) (cfg.keep 75) 14 seqL blockL (sub (bodyOf Tryz.f75) [1, 1]) (retL cfg 14 75 Tryz.f75 H0) [] H
noncomputable def F_texttoolsref20_flag (p0 : AV) (H : Hp) : Res :=
  bnd (ibin .eql p0 (.int .u8 110)) fun t5_1 =>
  cnd t5_1
    (some ((.int .i64 1), H))
    (bnd (ibin .eql p0 (.int .u8 114)) fun t7_2 =>
    cnd t7_2
      (some ((.int .i64 2), H))
      (bnd (ibin .eql p0 (.int .u8 102)) fun t9_3 =>
      cnd t9_3
        (some ((.int .i64 4), H))
        (bnd (ibin .eql p0 (.int .u8 98)) fun t11_4 =>
        cnd t11_4
          (some ((.int .i64 8), H))
          (bnd (ibin .eql p0 (.int .u8 100)) fun t13_5 =>
          cnd t13_5
            (some ((.int .i64 16), H))
            (texttoolsref20_flag_J1 H H)))))
theorem texttoolsref20_flag_J1_eq (H0 H : Hp) : texttoolsref20_flag_J1 H0 H =
    some ((.int .i64 0), H) := (CXM_eq [12] _ _ _ _).trans (by kernel_rfl)
theorem F_texttoolsref20_flag_eq (p0 : AV) (H : Hp) : C_texttoolsref20_flag [p0] H = F_texttoolsref20_flag p0 H := (callw_cxm (C := cfg) (fn := Tryz.f75) (c := bodyOf Tryz.f75) (n := 14) [12] Tryz.func75 (by kernel_rfl) (by kernel_rfl) [p0] (by kernel_rfl) H).trans (by kernel_rfl)

/-! ### texttoolsref01_Format -/
end Go.Am
