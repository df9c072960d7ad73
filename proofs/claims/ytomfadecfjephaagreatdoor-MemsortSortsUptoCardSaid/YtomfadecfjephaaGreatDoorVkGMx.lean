/-
  The functions of the translation over the abstract machine, a further part: written by program (wip/gen.py).
-/
import Derived.Test.YtomfadecfjephaaGreatDoorVkGx
namespace Go.Am
open Go.Proofs
set_option maxRecDepth 100000
set_option linter.unusedVariables false
set_option linter.unusedSimpArgs false

noncomputable def L21_MemsortSorts_J1 (x2 x3 x4 : AV) (H0 H : Hp) : Res := CXL cfg (callw cfg) (LPL cfg (cfg.keep 3) 36) (cfg.keep 3) 36 seqL blockL (sub (bodyOf Tryz.f3) [1, 1]) (retL cfg 36 3 Tryz.f3 H0) [(2, x2), (3, x3), (4, x4)] H
noncomputable def F_L21_MemsortSorts (p0 p1 p2 : AV) (H : Hp) : Res :=
  bnd (abox p0 H) fun r3_1 =>
  bnd (abox p1 r3_1.2) fun r4_2 =>
  bnd (aload true 6 r3_1.1 r4_2.2) fun t7_22 =>
  bnd (aload true 5 r4_2.1 r4_2.2) fun t8_23 =>
  bnd (flatC C_L21_few [t7_22, t8_23, p2] r4_2.2) fun r10_24 =>
  bnd (aun .not r10_24.1) fun t11_25 =>
  cnd t11_25
    (bnd (flatC C_L21_awake [] r10_24.2) fun r12_26 =>
    some (r12_26.1, r12_26.2))
    (L21_MemsortSorts_J1 p2 r3_1.1 r4_2.1 H r10_24.2)
theorem L21_MemsortSorts_J1_eq (x2 x3 x4 : AV) (H0 H : Hp) : L21_MemsortSorts_J1 x2 x3 x4 H0 H =
    bnd (aload true 6 x3 H) fun t13_3 =>
    bnd (aload true 5 x4 H) fun t14_4 =>
    bnd (flatC C_memsort_Sort [t13_3, t14_4, x2] H) fun r16_5 =>
    bnd (aload true 6 x3 r16_5.2) fun t17_6 =>
    bnd (aload true 5 x4 r16_5.2) fun t18_7 =>
    bnd (flatC C_R21_Sort [t17_6, t18_7, x2] r16_5.2) fun r20_8 =>
    bnd (flatC C_R21_Same [r16_5.1, r20_8.1] r20_8.2) fun r21_9 =>
    bnd (gdv r21_9.1 true (.tuple []) (aload true 6 x3 r21_9.2)) fun t23_10 =>
    bnd (gdv r21_9.1 true (.tuple []) (aload true 5 x4 r21_9.2)) fun t24_11 =>
    bnd (gdv r21_9.1 true (.tuple []) (some x2)) fun t25_12 =>
    bnd (gdv r21_9.1 true ((.tuple []), r21_9.2) (flatC C_memsort_Unsorted [t23_10, t24_11, t25_12] r21_9.2)) fun r26_13 =>
    bnd (gdv r21_9.1 true (.tuple []) (aload true 6 x3 r26_13.2)) fun t27_14 =>
    bnd (gdv r21_9.1 true (.tuple []) (aload true 5 x4 r26_13.2)) fun t28_15 =>
    bnd (gdv r21_9.1 true (.tuple []) (some x2)) fun t29_16 =>
    bnd (gdv r21_9.1 true ((.tuple []), r26_13.2) (flatC C_R21_Unsorted [t27_14, t28_15, t29_16] r26_13.2)) fun r30_17 =>
    bnd (gdv r21_9.1 true (.tuple []) (ibin .eql r26_13.1 r30_17.1)) fun t31_18 =>
    bnd (apick r21_9.1 t31_18 (.bool false)) fun t32_19 =>
    bnd (gdv t32_19 true ((.tuple []), r30_17.2) (flatC C_L21_awake [] r30_17.2)) fun r34_20 =>
    bnd (apick t32_19 r34_20.1 (.bool false)) fun t35_21 =>
    some (t35_21, r34_20.2) := (CXM_eq [3] _ _ _ _).trans (by kernel_rfl)
theorem F_L21_MemsortSorts_eq (p0 p1 p2 : AV) (H : Hp) : C_L21_MemsortSorts [p0, p1, p2] H = F_L21_MemsortSorts p0 p1 p2 H := (callw_cxm (C := cfg) (fn := Tryz.f3) (c := bodyOf Tryz.f3) (n := 36) [3] Tryz.func3 (by kernel_rfl) (by kernel_rfl) [p0, p1, p2] (by kernel_rfl) H).trans (by kernel_rfl)

noncomputable def L21_few_J2 (H0 H : Hp) : Res := CXL cfg (callw cfg) (LPL cfg (cfg.keep 7) 34) (cfg.keep 7) 34 seqL blockL (sub (bodyOf Tryz.f7) [1, 1, 1]) (retL cfg 34 7 Tryz.f7 H0) [] H
noncomputable def L21_few_K1 (H0 : Hp) : KL := seqL (fun k al H => CXL cfg (callw cfg) (LPL cfg (cfg.keep 7) 34) (cfg.keep 7) 34 seqL blockL (sub (bodyOf Tryz.f7) [1, 1, 1]) k (trimL (cfg.keep 7) (sub (bodyOf Tryz.f7) [1, 1, 1]) al) H) (retL cfg 34 7 Tryz.f7 H0)
theorem L21_few_K1_tame (H0 : Hp) : Tame 34 (L21_few_K1 H0) := tame_seq (C := cfg) (kp := cfg.keep 7) (sub (bodyOf Tryz.f7) [1, 1, 1]) (tame_ret 7 Tryz.f7 H0)
noncomputable def L21_few_J4 (x2 x7 : AV) (H0 H : Hp) : Res := CXL cfg (callw cfg) (LPL cfg (cfg.keep 7) 34) (cfg.keep 7) 34 seqL blockL (sub (bodyOf Tryz.f7) [1, 1, 0, 1, 0, 0, 1, 1]) (seqL (fun k al H => LPL cfg (cfg.keep 7) 34 (sub (bodyOf Tryz.f7) [1, 1, 0, 1, 0, 0]) k (trimL (cfg.keep 7) (sub (bodyOf Tryz.f7) [1, 1, 0, 1, 0, 0]) al) H) (blockL 0 (L21_few_K1 H0))) [(2, x2), (7, x7)] H
noncomputable def L21_few_J3 (x2 x7 : AV) (H0 H : Hp) : Res := CXL cfg (callw cfg) (LPL cfg (cfg.keep 7) 34) (cfg.keep 7) 34 seqL blockL (sub (bodyOf Tryz.f7) [1, 1, 0, 1, 0, 0, 1]) (seqL (fun k al H => LPL cfg (cfg.keep 7) 34 (sub (bodyOf Tryz.f7) [1, 1, 0, 1, 0, 0]) k (trimL (cfg.keep 7) (sub (bodyOf Tryz.f7) [1, 1, 0, 1, 0, 0]) al) H) (blockL 0 (L21_few_K1 H0))) [(2, x2), (7, x7)] H
noncomputable def L21_few_L1 (x2 x7 : AV) (H0 H : Hp) : Res := LPL cfg (cfg.keep 7) 34 (sub (bodyOf Tryz.f7) [1, 1, 0, 1, 0, 0]) (blockL 0 (L21_few_K1 H0)) [(2, x2), (7, x7)] H
noncomputable def L21_few_J1 (x2 : AV) (H0 H : Hp) : Res := CXL cfg (callw cfg) (LPL cfg (cfg.keep 7) 34) (cfg.keep 7) 34 seqL blockL (sub (bodyOf Tryz.f7) [1, 1]) (retL cfg 34 7 Tryz.f7 H0) [(2, x2)] H
noncomputable def F_L21_few (p0 p1 p2 : AV) (H : Hp) : Res :=
  bnd (abox p0 H) fun r3_1 =>
  bnd (abox p1 r3_1.2) fun r4_2 =>
  bnd (alenD (.slice 9) p2) fun t9_10 =>
  bnd (ibin .gtr t9_10 (.int .i64 30)) fun t10_11 =>
  bnd (gdv t10_11 false (.tuple []) (afield 0 r4_2.1)) fun t12_12 =>
  bnd (gdv t10_11 false (.tuple []) (aload false 1 t12_12 r4_2.2)) fun t13_13 =>
  bnd (gdv t10_11 false (.tuple []) (alenD (.slice 58) t13_13)) fun t14_14 =>
  bnd (gdv t10_11 false (.tuple []) (ibin .gtr t14_14 (.int .i64 12))) fun t15_15 =>
  bnd (apick t10_11 (.bool true) t15_15) fun t16_16 =>
  bnd (gdv t16_16 false (.tuple []) (aload true 6 r3_1.1 r4_2.2)) fun t18_17 =>
  bnd (gdv t16_16 false ((.tuple []), r4_2.2) (flatC C_L07_Light [t18_17] r4_2.2)) fun r19_18 =>
  bnd (gdv t16_16 false (.tuple []) (aun .not r19_18.1)) fun t20_19 =>
  bnd (apick t16_16 (.bool true) t20_19) fun t21_20 =>
  cnd t21_20
    (some ((.bool false), r19_18.2))
    (L21_few_J1 p2 H r19_18.2)
theorem L21_few_J2_eq (H0 H : Hp) : L21_few_J2 H0 H =
    some ((.bool true), H) := (CXM_eq [3, 5, 6, 8] _ _ _ _).trans (by kernel_rfl)
theorem L21_few_J4_eq (x2 x7 : AV) (H0 H : Hp) : L21_few_J4 x2 x7 H0 H =
    bnd (ibin .add x7 (.int .i64 1)) fun t27_3 =>
    L21_few_L1 x2 t27_3 H0 H := (CXM_eq [3, 5, 6, 8] _ _ _ _).trans (by kernel_rfl)
theorem L21_few_J3_eq (x2 x7 : AV) (H0 H : Hp) : L21_few_J3 x2 x7 H0 H =
    bnd (aindexS 1 x2 x7) fun t30_4 =>
    bnd (aload false 1 t30_4 H) fun t31_5 =>
    bnd (alenD .string t31_5) fun t32_6 =>
    bnd (ibin .gtr t32_6 (.int .i64 40)) fun t33_7 =>
    cnd t33_7
      (some ((.bool false), H))
      (L21_few_J4 x2 x7 H0 H) := (CXM_eq [3, 5, 6, 8] _ _ _ _).trans (by kernel_rfl)
theorem L21_few_L1_eq (x2 x7 : AV) (H0 H : Hp) : L21_few_L1 x2 x7 H0 H =
    bnd (alenD (.slice 9) x2) fun t24_8 =>
    bnd (ibin .lss x7 t24_8) fun t25_9 =>
    cnd t25_9
      (L21_few_J3 x2 x7 H0 H)
      (L21_few_J2 H0 H) := (LPL_eqm (C := cfg) [3, 5, 6, 8] (tame_block 0 (L21_few_K1_tame H0)) _ _).trans (by kernel_rfl)
theorem L21_few_J1_eq (x2 : AV) (H0 H : Hp) : L21_few_J1 x2 H0 H =
    L21_few_L1 x2 (.int .i64 0) H0 H := (CXM_eq [3, 5, 6, 8] _ _ _ _).trans (by kernel_rfl)
theorem F_L21_few_eq (p0 p1 p2 : AV) (H : Hp) : C_L21_few [p0, p1, p2] H = F_L21_few p0 p1 p2 H := (callw_cxm (C := cfg) (fn := Tryz.f7) (c := bodyOf Tryz.f7) (n := 34) [3, 5, 6, 8] Tryz.func7 (by kernel_rfl) (by kernel_rfl) [p0, p1, p2] (by kernel_rfl) H).trans (by kernel_rfl)

noncomputable def F_L21_awake (H : Hp) : Res :=
  bnd ((setElems 1 [(0, (.str [98])), (1, (.str [97])), (2, (.str [66]))] [(.str []), (.str []), (.str [])]).map (.vs 1 .clip)) fun t7_1 =>
  bnd ((afill [(1, 1, (.int .i64 (-1)))] [.nils, (.int .i64 0), (.int .i64 0), (.bool false), (.bool false)]).map .agg) fun t8_2 =>
  bnd (some ((.ptr H.length 0), H ++ [.cells [.nils, (.int .i64 0), (.int .i64 0), (.bool false), (.bool false)]])) fun r2_3 =>
  bnd (astoreU 5 r2_3.1 t8_2 r2_3.2) fun r_4 =>
  bnd ((afill [(1, 1, (.int .i64 (-1))), (2, 1, (.int .i64 4)), (4, 1, (.bool true))] [.nils, (.int .i64 0), (.int .i64 0), (.bool false), (.bool false)]).map .agg) fun t9_5 =>
  bnd (some ((.ptr r_4.2.length 0), r_4.2 ++ [.cells [.nils, (.int .i64 0), (.int .i64 0), (.bool false), (.bool false)]])) fun r3_6 =>
  bnd (astoreU 5 r3_6.1 t9_5 r3_6.2) fun r_7 =>
  bnd (flatC C_R05_Default [] r_7.2) fun r10_8 =>
  bnd (aload true 5 r2_3.1 r10_8.2) fun t11_9 =>
  bnd (flatC C_memsort_Sort [r10_8.1, t11_9, t7_1] r10_8.2) fun r13_10 =>
  bnd (flatC C_R05_Default [] r13_10.2) fun r14_11 =>
  bnd (aload true 5 r3_6.1 r14_11.2) fun t15_12 =>
  bnd (flatC C_memsort_Sort [r14_11.1, t15_12, t7_1] r14_11.2) fun r17_13 =>
  bnd (flatC C_R05_Default [] r17_13.2) fun r18_14 =>
  bnd (aload true 5 r2_3.1 r18_14.2) fun t19_15 =>
  bnd ((setElems 1 [(0, (.str [97])), (1, (.str [98])), (2, (.str [98])), (3, (.str [97]))] [(.str []), (.str []), (.str []), (.str [])]).map (.vs 1 .clip)) fun t20_16 =>
  bnd (flatC C_memsort_Unsorted [r18_14.1, t19_15, t20_16] r18_14.2) fun r21_17 =>
  bnd ((setElems 1 [(0, (.str [66])), (1, (.str [97])), (2, (.str [98]))] [(.str []), (.str []), (.str [])]).map (.vs 1 .clip)) fun t23_18 =>
  bnd (flatC C_R21_Same [r13_10.1, t23_18] r21_17.2) fun r24_19 =>
  bnd (gdv r24_19.1 true (.tuple []) (some r17_13.1)) fun t26_20 =>
  bnd (gdv r24_19.1 true (.tuple []) ((setElems 1 [(0, (.str [97])), (1, (.str [98])), (2, (.str [66]))] [(.str []), (.str []), (.str [])]).map (.vs 1 .clip))) fun t27_21 =>
  bnd (gdv r24_19.1 true ((.tuple []), r24_19.2) (flatC C_R21_Same [t26_20, t27_21] r24_19.2)) fun r28_22 =>
  bnd (apick r24_19.1 r28_22.1 (.bool false)) fun t29_23 =>
  bnd (gdv t29_23 true (.tuple []) (some r21_17.1)) fun t31_24 =>
  bnd (gdv t29_23 true (.tuple []) (ibin .eql t31_24 (.int .i64 3))) fun t32_25 =>
  bnd (apick t29_23 t32_25 (.bool false)) fun t33_26 =>
  some (t33_26, r28_22.2)
theorem F_L21_awake_eq (H : Hp) : C_L21_awake [] H = F_L21_awake H := (callw_cxm (C := cfg) (fn := Tryz.f8) (c := bodyOf Tryz.f8) (n := 34) [] Tryz.func8 (by kernel_rfl) (by kernel_rfl) [] (by kernel_rfl) H).trans (by kernel_rfl)

noncomputable def R21_Same_J2 (H0 H : Hp) : Res := CXL cfg (callw cfg) (LPL cfg (cfg.keep 9) 26) (cfg.keep 9) 26 seqL blockL (sub (bodyOf Tryz.f9) [1, 1, 1]) (retL cfg 26 9 Tryz.f9 H0) [] H
noncomputable def R21_Same_K1 (H0 : Hp) : KL := seqL (fun k al H => CXL cfg (callw cfg) (LPL cfg (cfg.keep 9) 26) (cfg.keep 9) 26 seqL blockL (sub (bodyOf Tryz.f9) [1, 1, 1]) k (trimL (cfg.keep 9) (sub (bodyOf Tryz.f9) [1, 1, 1]) al) H) (retL cfg 26 9 Tryz.f9 H0)
theorem R21_Same_K1_tame (H0 : Hp) : Tame 26 (R21_Same_K1 H0) := tame_seq (C := cfg) (kp := cfg.keep 9) (sub (bodyOf Tryz.f9) [1, 1, 1]) (tame_ret 9 Tryz.f9 H0)
noncomputable def R21_Same_J4 (x0 x1 x5 : AV) (H0 H : Hp) : Res := CXL cfg (callw cfg) (LPL cfg (cfg.keep 9) 26) (cfg.keep 9) 26 seqL blockL (sub (bodyOf Tryz.f9) [1, 1, 0, 1, 0, 0, 1, 1]) (seqL (fun k al H => LPL cfg (cfg.keep 9) 26 (sub (bodyOf Tryz.f9) [1, 1, 0, 1, 0, 0]) k (trimL (cfg.keep 9) (sub (bodyOf Tryz.f9) [1, 1, 0, 1, 0, 0]) al) H) (blockL 0 (R21_Same_K1 H0))) [(0, x0), (1, x1), (5, x5)] H
noncomputable def R21_Same_J3 (x0 x1 x5 : AV) (H0 H : Hp) : Res := CXL cfg (callw cfg) (LPL cfg (cfg.keep 9) 26) (cfg.keep 9) 26 seqL blockL (sub (bodyOf Tryz.f9) [1, 1, 0, 1, 0, 0, 1]) (seqL (fun k al H => LPL cfg (cfg.keep 9) 26 (sub (bodyOf Tryz.f9) [1, 1, 0, 1, 0, 0]) k (trimL (cfg.keep 9) (sub (bodyOf Tryz.f9) [1, 1, 0, 1, 0, 0]) al) H) (blockL 0 (R21_Same_K1 H0))) [(0, x0), (1, x1), (5, x5)] H
noncomputable def R21_Same_L1 (x0 x1 x5 : AV) (H0 H : Hp) : Res := LPL cfg (cfg.keep 9) 26 (sub (bodyOf Tryz.f9) [1, 1, 0, 1, 0, 0]) (blockL 0 (R21_Same_K1 H0)) [(0, x0), (1, x1), (5, x5)] H
noncomputable def R21_Same_J1 (x0 x1 : AV) (H0 H : Hp) : Res := CXL cfg (callw cfg) (LPL cfg (cfg.keep 9) 26) (cfg.keep 9) 26 seqL blockL (sub (bodyOf Tryz.f9) [1, 1]) (retL cfg 26 9 Tryz.f9 H0) [(0, x0), (1, x1)] H
noncomputable def F_R21_Same (p0 p1 : AV) (H : Hp) : Res :=
  bnd (alenD (.slice 9) p0) fun t7_9 =>
  bnd (alenD (.slice 9) p1) fun t9_10 =>
  bnd (ibin .neq t7_9 t9_10) fun t10_11 =>
  cnd t10_11
    (some ((.bool false), H))
    (R21_Same_J1 p0 p1 H H)
theorem R21_Same_J2_eq (H0 H : Hp) : R21_Same_J2 H0 H =
    some ((.bool true), H) := (CXM_eq [3, 5, 6, 8] _ _ _ _).trans (by kernel_rfl)
theorem R21_Same_J4_eq (x0 x1 x5 : AV) (H0 H : Hp) : R21_Same_J4 x0 x1 x5 H0 H =
    bnd (ibin .add x5 (.int .i64 1)) fun t16_1 =>
    R21_Same_L1 x0 x1 t16_1 H0 H := (CXM_eq [3, 5, 6, 8] _ _ _ _).trans (by kernel_rfl)
theorem R21_Same_J3_eq (x0 x1 x5 : AV) (H0 H : Hp) : R21_Same_J3 x0 x1 x5 H0 H =
    bnd (aindexS 1 x0 x5) fun t19_2 =>
    bnd (aload false 1 t19_2 H) fun t20_3 =>
    bnd (aindexS 1 x1 x5) fun t23_4 =>
    bnd (aload false 1 t23_4 H) fun t24_5 =>
    bnd (sbin .neq t20_3 t24_5) fun t25_6 =>
    cnd t25_6
      (some ((.bool false), H))
      (R21_Same_J4 x0 x1 x5 H0 H) := (CXM_eq [3, 5, 6, 8] _ _ _ _).trans (by kernel_rfl)
theorem R21_Same_L1_eq (x0 x1 x5 : AV) (H0 H : Hp) : R21_Same_L1 x0 x1 x5 H0 H =
    bnd (alenD (.slice 9) x0) fun t13_7 =>
    bnd (ibin .lss x5 t13_7) fun t14_8 =>
    cnd t14_8
      (R21_Same_J3 x0 x1 x5 H0 H)
      (R21_Same_J2 H0 H) := (LPL_eqm (C := cfg) [3, 5, 6, 8] (tame_block 0 (R21_Same_K1_tame H0)) _ _).trans (by kernel_rfl)
theorem R21_Same_J1_eq (x0 x1 : AV) (H0 H : Hp) : R21_Same_J1 x0 x1 H0 H =
    R21_Same_L1 x0 x1 (.int .i64 0) H0 H := (CXM_eq [3, 5, 6, 8] _ _ _ _).trans (by kernel_rfl)
theorem F_R21_Same_eq (p0 p1 : AV) (H : Hp) : C_R21_Same [p0, p1] H = F_R21_Same p0 p1 H := (callw_cxm (C := cfg) (fn := Tryz.f9) (c := bodyOf Tryz.f9) (n := 26) [3, 5, 6, 8] Tryz.func9 (by kernel_rfl) (by kernel_rfl) [p0, p1] (by kernel_rfl) H).trans (by kernel_rfl)

noncomputable def memsort_Sort_J2 (x7 : AV) (H0 H : Hp) : Res := CXL cfg (callw cfg) (LPL cfg (cfg.keep 10) 22) (cfg.keep 10) 22 seqL blockL (sub (bodyOf Tryz.f10) [1, 1, 1, 1]) (retL cfg 22 10 Tryz.f10 H0) [(7, x7)] H
noncomputable def memsort_Sort_J1 (x2 x3 x4 : AV) (H0 H : Hp) : Res := CXL cfg (callw cfg) (LPL cfg (cfg.keep 10) 22) (cfg.keep 10) 22 seqL blockL (sub (bodyOf Tryz.f10) [1, 1]) (retL cfg 22 10 Tryz.f10 H0) [(2, x2), (3, x3), (4, x4)] H
noncomputable def F_memsort_Sort (p0 p1 p2 : AV) (H : Hp) : Res :=
  bnd (abox p0 H) fun r3_1 =>
  bnd (abox p1 r3_1.2) fun r4_2 =>
  bnd (aload true 5 r4_2.1 r4_2.2) fun t8_11 =>
  bnd (flatC C_sortkey_Check [t8_11] r4_2.2) fun r9_12 =>
  bnd (ibin .neq r9_12.1 (.int .i64 0)) fun t10_13 =>
  cnd t10_13
    (bnd (flatC C_slices_Clone_of_string_string [p2] r9_12.2) fun r12_14 =>
    some (r12_14.1, r12_14.2))
    (memsort_Sort_J1 p2 r3_1.1 r4_2.1 H r9_12.2)
theorem memsort_Sort_J2_eq (x7 : AV) (H0 H : Hp) : memsort_Sort_J2 x7 H0 H =
    some (x7, H) := (CXM_eq [3, 6] _ _ _ _).trans (by kernel_rfl)
theorem memsort_Sort_J1_eq (x2 x3 x4 : AV) (H0 H : Hp) : memsort_Sort_J1 x2 x3 x4 H0 H =
    frzK x3 H fun z3_3 z3_3H =>
    frzK x4 z3_3H fun z4_4 z4_4H =>
    bnd (some (.fn (.func 28) [] [z3_3, z4_4])) fun t14_5 =>
    bnd (flatC C_memsort_mergeSort_of_string [x2, t14_5] z4_4H) fun r15_6 =>
    bnd (afield 3 z4_4) fun t16_7 =>
    bnd (aload false 1 t16_7 r15_6.2) fun t17_8 =>
    cnd t17_8
      (bnd (some (.fn (.func 30) [] [z3_3, z4_4])) fun t19_9 =>
      bnd (flatC C_memsort_once_of_string [r15_6.1, t19_9] r15_6.2) fun r20_10 =>
      memsort_Sort_J2 r20_10.1 H0 r20_10.2)
      (memsort_Sort_J2 r15_6.1 H0 r15_6.2) := (CXM_eq [3, 6] _ _ _ _).trans (by kernel_rfl)
theorem F_memsort_Sort_eq (p0 p1 p2 : AV) (H : Hp) : C_memsort_Sort [p0, p1, p2] H = F_memsort_Sort p0 p1 p2 H := (callw_cxm (C := cfg) (fn := Tryz.f10) (c := bodyOf Tryz.f10) (n := 22) [3, 6] Tryz.func10 (by kernel_rfl) (by kernel_rfl) [p0, p1, p2] (by kernel_rfl) H).trans (by kernel_rfl)

noncomputable def R21_Sort_J2 (x3 x4 x7 : AV) (H0 H : Hp) : Res := CXL cfg (callw cfg) (LPL cfg (cfg.keep 11) 33) (cfg.keep 11) 33 seqL blockL (sub (bodyOf Tryz.f11) [1, 1, 1, 1]) (retL cfg 33 11 Tryz.f11 H0) [(3, x3), (4, x4), (7, x7)] H
noncomputable def R21_Sort_K1 (H0 : Hp) : KL := seqL (fun k al H => CXL cfg (callw cfg) (LPL cfg (cfg.keep 11) 33) (cfg.keep 11) 33 seqL blockL (sub (bodyOf Tryz.f11) [1, 1, 1, 1]) k (trimL (cfg.keep 11) (sub (bodyOf Tryz.f11) [1, 1, 1, 1]) al) H) (retL cfg 33 11 Tryz.f11 H0)
theorem R21_Sort_K1_tame (H0 : Hp) : Tame 33 (R21_Sort_K1 H0) := tame_seq (C := cfg) (kp := cfg.keep 11) (sub (bodyOf Tryz.f11) [1, 1, 1, 1]) (tame_ret 11 Tryz.f11 H0)
noncomputable def R21_Sort_J4 (x2 x3 x4 x7 x8 : AV) (H0 H : Hp) : Res := CXL cfg (callw cfg) (LPL cfg (cfg.keep 11) 33) (cfg.keep 11) 33 seqL blockL (sub (bodyOf Tryz.f11) [1, 1, 1, 0, 1, 0, 0, 1, 1]) (seqL (fun k al H => LPL cfg (cfg.keep 11) 33 (sub (bodyOf Tryz.f11) [1, 1, 1, 0, 1, 0, 0]) k (trimL (cfg.keep 11) (sub (bodyOf Tryz.f11) [1, 1, 1, 0, 1, 0, 0]) al) H) (blockL 0 (R21_Sort_K1 H0))) [(2, x2), (3, x3), (4, x4), (7, x7), (8, x8)] H
noncomputable def R21_Sort_J3 (x2 x3 x4 x7 x8 : AV) (H0 H : Hp) : Res := CXL cfg (callw cfg) (LPL cfg (cfg.keep 11) 33) (cfg.keep 11) 33 seqL blockL (sub (bodyOf Tryz.f11) [1, 1, 1, 0, 1, 0, 0, 1]) (seqL (fun k al H => LPL cfg (cfg.keep 11) 33 (sub (bodyOf Tryz.f11) [1, 1, 1, 0, 1, 0, 0]) k (trimL (cfg.keep 11) (sub (bodyOf Tryz.f11) [1, 1, 1, 0, 1, 0, 0]) al) H) (blockL 0 (R21_Sort_K1 H0))) [(2, x2), (3, x3), (4, x4), (7, x7), (8, x8)] H
noncomputable def R21_Sort_L1 (x2 x3 x4 x7 x8 : AV) (H0 H : Hp) : Res := LPL cfg (cfg.keep 11) 33 (sub (bodyOf Tryz.f11) [1, 1, 1, 0, 1, 0, 0]) (blockL 0 (R21_Sort_K1 H0)) [(2, x2), (3, x3), (4, x4), (7, x7), (8, x8)] H
noncomputable def R21_Sort_J1 (x2 x3 x4 x7 : AV) (H0 H : Hp) : Res := CXL cfg (callw cfg) (LPL cfg (cfg.keep 11) 33) (cfg.keep 11) 33 seqL blockL (sub (bodyOf Tryz.f11) [1, 1, 1]) (retL cfg 33 11 Tryz.f11 H0) [(2, x2), (3, x3), (4, x4), (7, x7)] H
noncomputable def F_R21_Sort (p0 p1 p2 : AV) (H : Hp) : Res :=
  bnd (abox p0 H) fun r3_1 =>
  bnd (abox p1 r3_1.2) fun r4_2 =>
  bnd (aload true 5 r4_2.1 r4_2.2) fun t9_14 =>
  bnd (flatC C_R20_Check [t9_14] r4_2.2) fun r10_15 =>
  bnd (ibin .neq r10_15.1 (.int .i64 0)) fun t11_16 =>
  cnd t11_16
    (bnd (aappE 1 16 .nils p2 r10_15.2) fun r14_17 =>
    some (r14_17.1, r14_17.2))
    (R21_Sort_J1 p2 r3_1.1 r4_2.1 .nils H r10_15.2)
theorem R21_Sort_J2_eq (x3 x4 x7 : AV) (H0 H : Hp) : R21_Sort_J2 x3 x4 x7 H0 H =
    bnd (aload true 6 x3 H) fun t29_3 =>
    bnd (aload true 5 x4 H) fun t30_4 =>
    bnd (flatC C_R21_once [t29_3, t30_4, x7] H) fun r32_5 =>
    some (r32_5.1, r32_5.2) := (CXM_eq [4, 6, 7, 8] _ _ _ _).trans (by kernel_rfl)
theorem R21_Sort_J4_eq (x2 x3 x4 x7 x8 : AV) (H0 H : Hp) : R21_Sort_J4 x2 x3 x4 x7 x8 H0 H =
    bnd (ibin .add x8 (.int .i64 1)) fun t20_6 =>
    R21_Sort_L1 x2 x3 x4 x7 t20_6 H0 H := (CXM_eq [4, 6, 7, 8] _ _ _ _).trans (by kernel_rfl)
theorem R21_Sort_J3_eq (x2 x3 x4 x7 x8 : AV) (H0 H : Hp) : R21_Sort_J3 x2 x3 x4 x7 x8 H0 H =
    bnd (aload true 6 x3 H) fun t21_7 =>
    bnd (aload true 5 x4 H) fun t22_8 =>
    bnd (aindexS 1 x2 x8) fun t26_9 =>
    bnd (aload false 1 t26_9 H) fun t27_10 =>
    bnd (flatC C_R21_insert [t21_7, t22_8, x7, t27_10] H) fun r28_11 =>
    R21_Sort_J4 x2 x3 x4 r28_11.1 x8 H0 r28_11.2 := (CXM_eq [4, 6, 7, 8] _ _ _ _).trans (by kernel_rfl)
theorem R21_Sort_L1_eq (x2 x3 x4 x7 x8 : AV) (H0 H : Hp) : R21_Sort_L1 x2 x3 x4 x7 x8 H0 H =
    bnd (alenD (.slice 9) x2) fun t17_12 =>
    bnd (ibin .lss x8 t17_12) fun t18_13 =>
    cnd t18_13
      (R21_Sort_J3 x2 x3 x4 x7 x8 H0 H)
      (R21_Sort_J2 x3 x4 x7 H0 H) := (LPL_eqm (C := cfg) [4, 6, 7, 8] (tame_block 0 (R21_Sort_K1_tame H0)) _ _).trans (by kernel_rfl)
theorem R21_Sort_J1_eq (x2 x3 x4 x7 : AV) (H0 H : Hp) : R21_Sort_J1 x2 x3 x4 x7 H0 H =
    R21_Sort_L1 x2 x3 x4 x7 (.int .i64 0) H0 H := (CXM_eq [4, 6, 7, 8] _ _ _ _).trans (by kernel_rfl)
theorem F_R21_Sort_eq (p0 p1 p2 : AV) (H : Hp) : C_R21_Sort [p0, p1, p2] H = F_R21_Sort p0 p1 p2 H := (callw_cxm (C := cfg) (fn := Tryz.f11) (c := bodyOf Tryz.f11) (n := 33) [4, 6, 7, 8] Tryz.func11 (by kernel_rfl) (by kernel_rfl) [p0, p1, p2] (by kernel_rfl) H).trans (by kernel_rfl)

noncomputable def memsort_Unsorted_J2 (H0 H : Hp) : Res := CXL cfg (callw cfg) (LPL cfg (cfg.keep 12) 41) (cfg.keep 12) 41 seqL blockL (sub (bodyOf Tryz.f12) [1, 1, 1]) (retL cfg 41 12 Tryz.f12 H0) [] H
noncomputable def memsort_Unsorted_K1 (H0 : Hp) : KL := seqL (fun k al H => CXL cfg (callw cfg) (LPL cfg (cfg.keep 12) 41) (cfg.keep 12) 41 seqL blockL (sub (bodyOf Tryz.f12) [1, 1, 1]) k (trimL (cfg.keep 12) (sub (bodyOf Tryz.f12) [1, 1, 1]) al) H) (retL cfg 41 12 Tryz.f12 H0)
theorem memsort_Unsorted_K1_tame (H0 : Hp) : Tame 41 (memsort_Unsorted_K1 H0) := tame_seq (C := cfg) (kp := cfg.keep 12) (sub (bodyOf Tryz.f12) [1, 1, 1]) (tame_ret 12 Tryz.f12 H0)
noncomputable def memsort_Unsorted_J4 (x2 x3 x4 x7 : AV) (H0 H : Hp) : Res := CXL cfg (callw cfg) (LPL cfg (cfg.keep 12) 41) (cfg.keep 12) 41 seqL blockL (sub (bodyOf Tryz.f12) [1, 1, 0, 1, 0, 0, 1, 1]) (seqL (fun k al H => LPL cfg (cfg.keep 12) 41 (sub (bodyOf Tryz.f12) [1, 1, 0, 1, 0, 0]) k (trimL (cfg.keep 12) (sub (bodyOf Tryz.f12) [1, 1, 0, 1, 0, 0]) al) H) (blockL 0 (memsort_Unsorted_K1 H0))) [(2, x2), (3, x3), (4, x4), (7, x7)] H
noncomputable def memsort_Unsorted_J3 (x2 x3 x4 x7 : AV) (H0 H : Hp) : Res := CXL cfg (callw cfg) (LPL cfg (cfg.keep 12) 41) (cfg.keep 12) 41 seqL blockL (sub (bodyOf Tryz.f12) [1, 1, 0, 1, 0, 0, 1]) (seqL (fun k al H => LPL cfg (cfg.keep 12) 41 (sub (bodyOf Tryz.f12) [1, 1, 0, 1, 0, 0]) k (trimL (cfg.keep 12) (sub (bodyOf Tryz.f12) [1, 1, 0, 1, 0, 0]) al) H) (blockL 0 (memsort_Unsorted_K1 H0))) [(2, x2), (3, x3), (4, x4), (7, x7)] H
noncomputable def memsort_Unsorted_L1 (x2 x3 x4 x7 : AV) (H0 H : Hp) : Res := LPL cfg (cfg.keep 12) 41 (sub (bodyOf Tryz.f12) [1, 1, 0, 1, 0, 0]) (blockL 0 (memsort_Unsorted_K1 H0)) [(2, x2), (3, x3), (4, x4), (7, x7)] H
noncomputable def memsort_Unsorted_J1 (x2 x3 x4 : AV) (H0 H : Hp) : Res := CXL cfg (callw cfg) (LPL cfg (cfg.keep 12) 41) (cfg.keep 12) 41 seqL blockL (sub (bodyOf Tryz.f12) [1, 1]) (retL cfg 41 12 Tryz.f12 H0) [(2, x2), (3, x3), (4, x4)] H
noncomputable def F_memsort_Unsorted (p0 p1 p2 : AV) (H : Hp) : Res :=
  bnd (abox p0 H) fun r3_1 =>
  bnd (abox p1 r3_1.2) fun r4_2 =>
  bnd (aload true 5 r4_2.1 r4_2.2) fun t9_22 =>
  bnd (flatC C_sortkey_Check [t9_22] r4_2.2) fun r10_23 =>
  bnd (ibin .neq r10_23.1 (.int .i64 0)) fun t11_24 =>
  cnd t11_24
    (some ((.int .i64 (-1)), r10_23.2))
    (memsort_Unsorted_J1 p2 r3_1.1 r4_2.1 H r10_23.2)
theorem memsort_Unsorted_J2_eq (H0 H : Hp) : memsort_Unsorted_J2 H0 H =
    some ((.int .i64 (-1)), H) := (CXM_eq [3, 5, 6, 9] _ _ _ _).trans (by kernel_rfl)
theorem memsort_Unsorted_J4_eq (x2 x3 x4 x7 : AV) (H0 H : Hp) : memsort_Unsorted_J4 x2 x3 x4 x7 H0 H =
    bnd (ibin .add x7 (.int .i64 1)) fun t17_3 =>
    memsort_Unsorted_L1 x2 x3 x4 t17_3 H0 H := (CXM_eq [3, 5, 6, 9] _ _ _ _).trans (by kernel_rfl)
theorem memsort_Unsorted_J3_eq (x2 x3 x4 x7 : AV) (H0 H : Hp) : memsort_Unsorted_J3 x2 x3 x4 x7 H0 H =
    bnd (aload true 6 x3 H) fun t18_4 =>
    bnd (aload true 5 x4 H) fun t19_5 =>
    bnd (ibin .sub x7 (.int .i64 1)) fun t22_6 =>
    bnd (aindexS 1 x2 t22_6) fun t23_7 =>
    bnd (aload false 1 t23_7 H) fun t24_8 =>
    bnd (aindexS 1 x2 x7) fun t27_9 =>
    bnd (aload false 1 t27_9 H) fun t28_10 =>
    bnd (flatC C_sortkey_Order [t18_4, t19_5, t24_8, t28_10] H) fun r29_11 =>
    bnd (ibin .gtr r29_11.1 (.int .i64 0)) fun t31_12 =>
    bnd (gdv t31_12 false (.tuple []) (afield 3 x4)) fun t33_13 =>
    bnd (gdv t31_12 false (.tuple []) (aload false 1 t33_13 r29_11.2)) fun t34_14 =>
    bnd (gdv t31_12 false (.tuple []) (some t34_14)) fun t35_15 =>
    bnd (gdv t35_15 true (.tuple []) (some r29_11.1)) fun t36_16 =>
    bnd (gdv t35_15 true (.tuple []) (ibin .eql t36_16 (.int .i64 0))) fun t37_17 =>
    bnd (gdv t31_12 false (.tuple []) (apick t35_15 t37_17 (.bool false))) fun t38_18 =>
    bnd (apick t31_12 (.bool true) t38_18) fun t39_19 =>
    cnd t39_19
      (some (x7, r29_11.2))
      (memsort_Unsorted_J4 x2 x3 x4 x7 H0 r29_11.2) := (CXM_eq [3, 5, 6, 9] _ _ _ _).trans (by kernel_rfl)
theorem memsort_Unsorted_L1_eq (x2 x3 x4 x7 : AV) (H0 H : Hp) : memsort_Unsorted_L1 x2 x3 x4 x7 H0 H =
    bnd (alenD (.slice 9) x2) fun t14_20 =>
    bnd (ibin .lss x7 t14_20) fun t15_21 =>
    cnd t15_21
      (memsort_Unsorted_J3 x2 x3 x4 x7 H0 H)
      (memsort_Unsorted_J2 H0 H) := (LPL_eqm (C := cfg) [3, 5, 6, 9] (tame_block 0 (memsort_Unsorted_K1_tame H0)) _ _).trans (by kernel_rfl)
theorem memsort_Unsorted_J1_eq (x2 x3 x4 : AV) (H0 H : Hp) : memsort_Unsorted_J1 x2 x3 x4 H0 H =
    memsort_Unsorted_L1 x2 x3 x4 (.int .i64 1) H0 H := (CXM_eq [3, 5, 6, 9] _ _ _ _).trans (by kernel_rfl)
theorem F_memsort_Unsorted_eq (p0 p1 p2 : AV) (H : Hp) : C_memsort_Unsorted [p0, p1, p2] H = F_memsort_Unsorted p0 p1 p2 H := (callw_cxm (C := cfg) (fn := Tryz.f12) (c := bodyOf Tryz.f12) (n := 41) [3, 5, 6, 9] Tryz.func12 (by kernel_rfl) (by kernel_rfl) [p0, p1, p2] (by kernel_rfl) H).trans (by kernel_rfl)

noncomputable def R21_Unsorted_J2 (H0 H : Hp) : Res := CXL cfg (callw cfg) (LPL cfg (cfg.keep 13) 41) (cfg.keep 13) 41 seqL blockL (sub (bodyOf Tryz.f13) [1, 1, 1]) (retL cfg 41 13 Tryz.f13 H0) [] H
noncomputable def R21_Unsorted_K1 (H0 : Hp) : KL := seqL (fun k al H => CXL cfg (callw cfg) (LPL cfg (cfg.keep 13) 41) (cfg.keep 13) 41 seqL blockL (sub (bodyOf Tryz.f13) [1, 1, 1]) k (trimL (cfg.keep 13) (sub (bodyOf Tryz.f13) [1, 1, 1]) al) H) (retL cfg 41 13 Tryz.f13 H0)
theorem R21_Unsorted_K1_tame (H0 : Hp) : Tame 41 (R21_Unsorted_K1 H0) := tame_seq (C := cfg) (kp := cfg.keep 13) (sub (bodyOf Tryz.f13) [1, 1, 1]) (tame_ret 13 Tryz.f13 H0)
noncomputable def R21_Unsorted_J4 (x2 x3 x4 x7 : AV) (H0 H : Hp) : Res := CXL cfg (callw cfg) (LPL cfg (cfg.keep 13) 41) (cfg.keep 13) 41 seqL blockL (sub (bodyOf Tryz.f13) [1, 1, 0, 1, 0, 0, 1, 1]) (seqL (fun k al H => LPL cfg (cfg.keep 13) 41 (sub (bodyOf Tryz.f13) [1, 1, 0, 1, 0, 0]) k (trimL (cfg.keep 13) (sub (bodyOf Tryz.f13) [1, 1, 0, 1, 0, 0]) al) H) (blockL 0 (R21_Unsorted_K1 H0))) [(2, x2), (3, x3), (4, x4), (7, x7)] H
noncomputable def R21_Unsorted_J3 (x2 x3 x4 x7 : AV) (H0 H : Hp) : Res := CXL cfg (callw cfg) (LPL cfg (cfg.keep 13) 41) (cfg.keep 13) 41 seqL blockL (sub (bodyOf Tryz.f13) [1, 1, 0, 1, 0, 0, 1]) (seqL (fun k al H => LPL cfg (cfg.keep 13) 41 (sub (bodyOf Tryz.f13) [1, 1, 0, 1, 0, 0]) k (trimL (cfg.keep 13) (sub (bodyOf Tryz.f13) [1, 1, 0, 1, 0, 0]) al) H) (blockL 0 (R21_Unsorted_K1 H0))) [(2, x2), (3, x3), (4, x4), (7, x7)] H
noncomputable def R21_Unsorted_L1 (x2 x3 x4 x7 : AV) (H0 H : Hp) : Res := LPL cfg (cfg.keep 13) 41 (sub (bodyOf Tryz.f13) [1, 1, 0, 1, 0, 0]) (blockL 0 (R21_Unsorted_K1 H0)) [(2, x2), (3, x3), (4, x4), (7, x7)] H
noncomputable def R21_Unsorted_J1 (x2 x3 x4 : AV) (H0 H : Hp) : Res := CXL cfg (callw cfg) (LPL cfg (cfg.keep 13) 41) (cfg.keep 13) 41 seqL blockL (sub (bodyOf Tryz.f13) [1, 1]) (retL cfg 41 13 Tryz.f13 H0) [(2, x2), (3, x3), (4, x4)] H
noncomputable def F_R21_Unsorted (p0 p1 p2 : AV) (H : Hp) : Res :=
  bnd (abox p0 H) fun r3_1 =>
  bnd (abox p1 r3_1.2) fun r4_2 =>
  bnd (aload true 5 r4_2.1 r4_2.2) fun t9_22 =>
  bnd (flatC C_R20_Check [t9_22] r4_2.2) fun r10_23 =>
  bnd (ibin .neq r10_23.1 (.int .i64 0)) fun t11_24 =>
  cnd t11_24
    (some ((.int .i64 (-1)), r10_23.2))
    (R21_Unsorted_J1 p2 r3_1.1 r4_2.1 H r10_23.2)
theorem R21_Unsorted_J2_eq (H0 H : Hp) : R21_Unsorted_J2 H0 H =
    some ((.int .i64 (-1)), H) := (CXM_eq [3, 5, 6, 9] _ _ _ _).trans (by kernel_rfl)
theorem R21_Unsorted_J4_eq (x2 x3 x4 x7 : AV) (H0 H : Hp) : R21_Unsorted_J4 x2 x3 x4 x7 H0 H =
    bnd (ibin .add x7 (.int .i64 1)) fun t17_3 =>
    R21_Unsorted_L1 x2 x3 x4 t17_3 H0 H := (CXM_eq [3, 5, 6, 9] _ _ _ _).trans (by kernel_rfl)
theorem R21_Unsorted_J3_eq (x2 x3 x4 x7 : AV) (H0 H : Hp) : R21_Unsorted_J3 x2 x3 x4 x7 H0 H =
    bnd (aload true 6 x3 H) fun t18_4 =>
    bnd (aload true 5 x4 H) fun t19_5 =>
    bnd (ibin .sub x7 (.int .i64 1)) fun t22_6 =>
    bnd (aindexS 1 x2 t22_6) fun t23_7 =>
    bnd (aload false 1 t23_7 H) fun t24_8 =>
    bnd (aindexS 1 x2 x7) fun t27_9 =>
    bnd (aload false 1 t27_9 H) fun t28_10 =>
    bnd (flatC C_R20_Order [t18_4, t19_5, t24_8, t28_10] H) fun r29_11 =>
    bnd (ibin .gtr r29_11.1 (.int .i64 0)) fun t31_12 =>
    bnd (gdv t31_12 false (.tuple []) (afield 3 x4)) fun t33_13 =>
    bnd (gdv t31_12 false (.tuple []) (aload false 1 t33_13 r29_11.2)) fun t34_14 =>
    bnd (gdv t31_12 false (.tuple []) (some t34_14)) fun t35_15 =>
    bnd (gdv t35_15 true (.tuple []) (some r29_11.1)) fun t36_16 =>
    bnd (gdv t35_15 true (.tuple []) (ibin .eql t36_16 (.int .i64 0))) fun t37_17 =>
    bnd (gdv t31_12 false (.tuple []) (apick t35_15 t37_17 (.bool false))) fun t38_18 =>
    bnd (apick t31_12 (.bool true) t38_18) fun t39_19 =>
    cnd t39_19
      (some (x7, r29_11.2))
      (R21_Unsorted_J4 x2 x3 x4 x7 H0 r29_11.2) := (CXM_eq [3, 5, 6, 9] _ _ _ _).trans (by kernel_rfl)
theorem R21_Unsorted_L1_eq (x2 x3 x4 x7 : AV) (H0 H : Hp) : R21_Unsorted_L1 x2 x3 x4 x7 H0 H =
    bnd (alenD (.slice 9) x2) fun t14_20 =>
    bnd (ibin .lss x7 t14_20) fun t15_21 =>
    cnd t15_21
      (R21_Unsorted_J3 x2 x3 x4 x7 H0 H)
      (R21_Unsorted_J2 H0 H) := (LPL_eqm (C := cfg) [3, 5, 6, 9] (tame_block 0 (R21_Unsorted_K1_tame H0)) _ _).trans (by kernel_rfl)
theorem R21_Unsorted_J1_eq (x2 x3 x4 : AV) (H0 H : Hp) : R21_Unsorted_J1 x2 x3 x4 H0 H =
    R21_Unsorted_L1 x2 x3 x4 (.int .i64 1) H0 H := (CXM_eq [3, 5, 6, 9] _ _ _ _).trans (by kernel_rfl)
theorem F_R21_Unsorted_eq (p0 p1 p2 : AV) (H : Hp) : C_R21_Unsorted [p0, p1, p2] H = F_R21_Unsorted p0 p1 p2 H := (callw_cxm (C := cfg) (fn := Tryz.f13) (c := bodyOf Tryz.f13) (n := 41) [3, 5, 6, 9] Tryz.func13 (by kernel_rfl) (by kernel_rfl) [p0, p1, p2] (by kernel_rfl) H).trans (by kernel_rfl)

noncomputable def F_L07_Light (p0 : AV) (H : Hp) : Res :=
  bnd (abox p0 H) fun r1_1 =>
  bnd (afield 1 r1_1.1) fun t3_2 =>
  bnd (aload false 1 t3_2 r1_1.2) fun t4_3 =>
  bnd (alenD (.slice 3) t4_3) fun t5_4 =>
  bnd (ibin .leq t5_4 (.int .i64 300)) fun t6_5 =>
  bnd (gdv t6_5 true (.tuple []) (afield 2 r1_1.1)) fun t8_6 =>
  bnd (gdv t6_5 true (.tuple []) (aload false 1 t8_6 r1_1.2)) fun t9_7 =>
  bnd (gdv t6_5 true (.tuple []) (alenD .string t9_7)) fun t10_8 =>
  bnd (gdv t6_5 true (.tuple []) (ibin .leq t10_8 (.int .i64 300))) fun t11_9 =>
  bnd (apick t6_5 t11_9 (.bool false)) fun t12_10 =>
  bnd (gdv t12_10 true (.tuple []) (afield 3 r1_1.1)) fun t14_11 =>
  bnd (gdv t12_10 true (.tuple []) (aload false 1 t14_11 r1_1.2)) fun t15_12 =>
  bnd (gdv t12_10 true (.tuple []) (alenD .string t15_12)) fun t16_13 =>
  bnd (gdv t12_10 true (.tuple []) (ibin .leq t16_13 (.int .i64 300))) fun t17_14 =>
  bnd (apick t12_10 t17_14 (.bool false)) fun t18_15 =>
  bnd (gdv t18_15 true (.tuple []) (afield 4 r1_1.1)) fun t20_16 =>
  bnd (gdv t18_15 true (.tuple []) (aload false 1 t20_16 r1_1.2)) fun t21_17 =>
  bnd (gdv t18_15 true (.tuple []) (alenD (.slice 146) t21_17)) fun t22_18 =>
  bnd (gdv t18_15 true (.tuple []) (ibin .leq t22_18 (.int .i64 30))) fun t23_19 =>
  bnd (apick t18_15 t23_19 (.bool false)) fun t24_20 =>
  bnd (gdv t24_20 true (.tuple []) (afield 5 r1_1.1)) fun t26_21 =>
  bnd (gdv t24_20 true (.tuple []) (aload false 1 t26_21 r1_1.2)) fun t27_22 =>
  bnd (gdv t24_20 true (.tuple []) (alenD (.slice 116) t27_22)) fun t28_23 =>
  bnd (gdv t24_20 true (.tuple []) (ibin .leq t28_23 (.int .i64 70))) fun t29_24 =>
  bnd (apick t24_20 t29_24 (.bool false)) fun t30_25 =>
  some (t30_25, r1_1.2)
theorem F_L07_Light_eq (p0 : AV) (H : Hp) : C_L07_Light [p0] H = F_L07_Light p0 H := (callw_cxm (C := cfg) (fn := Tryz.f24) (c := bodyOf Tryz.f24) (n := 31) [] Tryz.func24 (by kernel_rfl) (by kernel_rfl) [p0] (by kernel_rfl) H).trans (by kernel_rfl)

noncomputable def slices_Clone_of_string_string_J1 (x0 : AV) (H0 H : Hp) : Res := CXL cfg (callw cfg) (LPL cfg (cfg.keep 26) 8) (cfg.keep 26) 8 seqL blockL (sub (bodyOf Tryz.f26) [1, 1]) (retL cfg 8 26 Tryz.f26 H0) [(0, x0)] H
noncomputable def F_slices_Clone_of_string_string (p0 : AV) (H : Hp) : Res :=
  bnd (ebin (.slice 9) .eql p0 .nils) fun t4_3 =>
  cnd t4_3
    (some (.nils, H))
    (slices_Clone_of_string_string_J1 p0 H H)
theorem slices_Clone_of_string_string_J1_eq (x0 : AV) (H0 H : Hp) : slices_Clone_of_string_string_J1 x0 H0 H =
    bnd ((setElems 1 [] []).map (.vs 1 .clip)) fun t5_1 =>
    bnd (aappE 1 16 t5_1 x0 H) fun r7_2 =>
    some (r7_2.1, r7_2.2) := (CXM_eq [3] _ _ _ _).trans (by kernel_rfl)
theorem F_slices_Clone_of_string_string_eq (p0 : AV) (H : Hp) : C_slices_Clone_of_string_string [p0] H = F_slices_Clone_of_string_string p0 H := (callw_cxm (C := cfg) (fn := Tryz.f26) (c := bodyOf Tryz.f26) (n := 8) [3] Tryz.func26 (by kernel_rfl) (by kernel_rfl) [p0] (by kernel_rfl) H).trans (by kernel_rfl)

noncomputable def memsort_mergeSort_of_string_J2 (x6 x7 x8 : AV) (H0 H : Hp) : Res := CXL cfg (callw cfg) (LPL cfg (cfg.keep 27) 67) (cfg.keep 27) 67 seqL blockL (sub (bodyOf Tryz.f27) [1, 1, 1, 1, 1, 1]) (retL cfg 67 27 Tryz.f27 H0) [(6, x6), (7, x7), (8, x8)] H
noncomputable def memsort_mergeSort_of_string_K1 (H0 : Hp) : KL := seqL (fun k al H => CXL cfg (callw cfg) (LPL cfg (cfg.keep 27) 67) (cfg.keep 27) 67 seqL blockL (sub (bodyOf Tryz.f27) [1, 1, 1, 1, 1, 1]) k (trimL (cfg.keep 27) (sub (bodyOf Tryz.f27) [1, 1, 1, 1, 1, 1]) al) H) (retL cfg 67 27 Tryz.f27 H0)
theorem memsort_mergeSort_of_string_K1_tame (H0 : Hp) : Tame 67 (memsort_mergeSort_of_string_K1 H0) := tame_seq (C := cfg) (kp := cfg.keep 27) (sub (bodyOf Tryz.f27) [1, 1, 1, 1, 1, 1]) (tame_ret 27 Tryz.f27 H0)
noncomputable def memsort_mergeSort_of_string_J3 (x1 x6 x7 x8 : AV) (H0 H : Hp) : Res := CXL cfg (callw cfg) (LPL cfg (cfg.keep 27) 67) (cfg.keep 27) 67 seqL blockL (sub (bodyOf Tryz.f27) [1, 1, 1, 1, 1, 0, 0, 0, 1]) (seqL (fun k al H => LPL cfg (cfg.keep 27) 67 (sub (bodyOf Tryz.f27) [1, 1, 1, 1, 1, 0, 0, 0]) k (trimL (cfg.keep 27) (sub (bodyOf Tryz.f27) [1, 1, 1, 1, 1, 0, 0, 0]) al) H) (blockL 0 (memsort_mergeSort_of_string_K1 H0))) [(1, x1), (6, x6), (7, x7), (8, x8)] H
noncomputable def memsort_mergeSort_of_string_L1 (x1 x6 x7 x8 : AV) (H0 H : Hp) : Res := LPL cfg (cfg.keep 27) 67 (sub (bodyOf Tryz.f27) [1, 1, 1, 1, 1, 0, 0, 0]) (blockL 0 (memsort_mergeSort_of_string_K1 H0)) [(1, x1), (6, x6), (7, x7), (8, x8)] H
noncomputable def memsort_mergeSort_of_string_J1 (x0 x1 : AV) (H0 H : Hp) : Res := CXL cfg (callw cfg) (LPL cfg (cfg.keep 27) 67) (cfg.keep 27) 67 seqL blockL (sub (bodyOf Tryz.f27) [1, 1]) (retL cfg 67 27 Tryz.f27 H0) [(0, x0), (1, x1)] H
noncomputable def F_memsort_mergeSort_of_string (p0 p1 : AV) (H : Hp) : Res :=
  bnd (alenD (.slice 9) p0) fun t10_32 =>
  bnd (ibin .lss t10_32 (.int .i64 2)) fun t11_33 =>
  cnd t11_33
    (bnd (flatC C_slices_Clone_of_string_string [p0] H) fun r13_34 =>
    some (r13_34.1, r13_34.2))
    (memsort_mergeSort_of_string_J1 p0 p1 H H)
theorem memsort_mergeSort_of_string_J2_eq (x6 x7 x8 : AV) (H0 H : Hp) : memsort_mergeSort_of_string_J2 x6 x7 x8 H0 H =
    bnd (aappE 1 16 x8 x6 H) fun r64_9 =>
    bnd (aappE 1 16 r64_9.1 x7 r64_9.2) fun r66_10 =>
    some (r66_10.1, r66_10.2) := (CXM_eq [3, 7, 12] _ _ _ _).trans (by kernel_rfl)
theorem memsort_mergeSort_of_string_J3_eq (x1 x6 x7 x8 : AV) (H0 H : Hp) : memsort_mergeSort_of_string_J3 x1 x6 x7 x8 H0 H =
    bnd (aindexS 1 x6 (.int .i64 0)) fun t40_11 =>
    bnd (aload false 1 t40_11 H) fun t41_12 =>
    bnd (aindexS 1 x7 (.int .i64 0)) fun t43_13 =>
    bnd (aload false 1 t43_13 H) fun t44_14 =>
    bnd (acall cfg (callw cfg) x1 [t41_12, t44_14] H) fun r45_15 =>
    cnd r45_15.1
      (bnd (aindexS 1 x7 (.int .i64 0)) fun t48_16 =>
      bnd (aload false 1 t48_16 r45_15.2) fun t49_17 =>
      bnd ((setElems 1 [(0, t49_17)] [(.str [])]).map (.vs 1 .clip)) fun t50_18 =>
      bnd (aappE 1 16 x8 t50_18 r45_15.2) fun r51_19 =>
      bnd (asliceV 1 x7 (some (.int .i64 1)) none none) fun t53_20 =>
      memsort_mergeSort_of_string_L1 x1 x6 t53_20 r51_19.1 H0 r51_19.2)
      (bnd (aindexS 1 x6 (.int .i64 0)) fun t56_21 =>
      bnd (aload false 1 t56_21 r45_15.2) fun t57_22 =>
      bnd ((setElems 1 [(0, t57_22)] [(.str [])]).map (.vs 1 .clip)) fun t58_23 =>
      bnd (aappE 1 16 x8 t58_23 r45_15.2) fun r59_24 =>
      bnd (asliceV 1 x6 (some (.int .i64 1)) none none) fun t61_25 =>
      memsort_mergeSort_of_string_L1 x1 t61_25 x7 r59_24.1 H0 r59_24.2) := (CXM_eq [3, 7, 12] _ _ _ _).trans (by kernel_rfl)
theorem memsort_mergeSort_of_string_L1_eq (x1 x6 x7 x8 : AV) (H0 H : Hp) : memsort_mergeSort_of_string_L1 x1 x6 x7 x8 H0 H =
    bnd (alenD (.slice 9) x6) fun t31_26 =>
    bnd (ibin .gtr t31_26 (.int .i64 0)) fun t32_27 =>
    bnd (gdv t32_27 true (.tuple []) (some x7)) fun t34_28 =>
    bnd (gdv t32_27 true (.tuple []) (alenD (.slice 9) t34_28)) fun t35_29 =>
    bnd (gdv t32_27 true (.tuple []) (ibin .gtr t35_29 (.int .i64 0))) fun t36_30 =>
    bnd (apick t32_27 t36_30 (.bool false)) fun t37_31 =>
    cnd t37_31
      (memsort_mergeSort_of_string_J3 x1 x6 x7 x8 H0 H)
      (memsort_mergeSort_of_string_J2 x6 x7 x8 H0 H) := (LPL_eqm (C := cfg) [3, 7, 12] (tame_block 0 (memsort_mergeSort_of_string_K1_tame H0)) _ _).trans (by kernel_rfl)
theorem memsort_mergeSort_of_string_J1_eq (x0 x1 : AV) (H0 H : Hp) : memsort_mergeSort_of_string_J1 x0 x1 H0 H =
    bnd (alenD (.slice 9) x0) fun t15_1 =>
    bnd (ibin .quo t15_1 (.int .i64 2)) fun t16_2 =>
    bnd (asliceV 1 x0 none (some t16_2) none) fun t19_3 =>
    bnd (flatC C_memsort_mergeSort_of_string [t19_3, x1] H) fun r21_4 =>
    bnd (asliceV 1 x0 (some t16_2) none none) fun t24_5 =>
    bnd (flatC C_memsort_mergeSort_of_string [t24_5, x1] r21_4.2) fun r26_6 =>
    bnd (alenD (.slice 9) x0) fun t28_7 =>
    bnd (amake 1 16 false (.str []) (.int .i64 0) t28_7 r26_6.2) fun r29_8 =>
    memsort_mergeSort_of_string_L1 x1 r21_4.1 r26_6.1 r29_8.1 H0 r29_8.2 := (CXM_eq [3, 7, 12] _ _ _ _).trans (by kernel_rfl)
theorem F_memsort_mergeSort_of_string_eq (p0 p1 : AV) (H : Hp) : C_memsort_mergeSort_of_string [p0, p1] H = F_memsort_mergeSort_of_string p0 p1 H := (callw_cxm (C := cfg) (fn := Tryz.f27) (c := bodyOf Tryz.f27) (n := 67) [3, 7, 12] Tryz.func27 (by kernel_rfl) (by kernel_rfl) [p0, p1] (by kernel_rfl) H).trans (by kernel_rfl)

noncomputable def F_memsort_Sort_1 (p0 p1 p2 p3 : AV) (H : Hp) : Res :=
  bnd (aload true 6 p2 H) fun t7_1 =>
  bnd (aload true 5 p3 H) fun t8_2 =>
  bnd (flatC C_sortkey_Order [t7_1, t8_2, p0, p1] H) fun r11_3 =>
  bnd (ibin .gtr r11_3.1 (.int .i64 0)) fun t12_4 =>
  some (t12_4, r11_3.2)
theorem F_memsort_Sort_1_eq (p0 p1 p2 p3 : AV) (H : Hp) : C_memsort_Sort_1 [p0, p1, p2, p3] H = F_memsort_Sort_1 p0 p1 p2 p3 H := (callw_cxm (C := cfg) (fn := Tryz.f28) (c := bodyOf Tryz.f28) (n := 13) [] Tryz.func28 (by kernel_rfl) (by kernel_rfl) [p0, p1, p2, p3] (by kernel_rfl) H).trans (by kernel_rfl)

noncomputable def memsort_once_of_string_J1 (x5 : AV) (H0 H : Hp) : Res := CXL cfg (callw cfg) (LPL cfg (cfg.keep 29) 35) (cfg.keep 29) 35 seqL blockL (sub (bodyOf Tryz.f29) [1, 1, 1]) (retL cfg 35 29 Tryz.f29 H0) [(5, x5)] H
noncomputable def memsort_once_of_string_K1 (H0 : Hp) : KL := seqL (fun k al H => CXL cfg (callw cfg) (LPL cfg (cfg.keep 29) 35) (cfg.keep 29) 35 seqL blockL (sub (bodyOf Tryz.f29) [1, 1, 1]) k (trimL (cfg.keep 29) (sub (bodyOf Tryz.f29) [1, 1, 1]) al) H) (retL cfg 35 29 Tryz.f29 H0)
theorem memsort_once_of_string_K1_tame (H0 : Hp) : Tame 35 (memsort_once_of_string_K1 H0) := tame_seq (C := cfg) (kp := cfg.keep 29) (sub (bodyOf Tryz.f29) [1, 1, 1]) (tame_ret 29 Tryz.f29 H0)
noncomputable def memsort_once_of_string_J3 (x1 x5 x8 x9 x10 : AV) (H0 H : Hp) : Res := CXL cfg (callw cfg) (LPL cfg (cfg.keep 29) 35) (cfg.keep 29) 35 seqL blockL (sub (bodyOf Tryz.f29) [1, 1, 0, 1, 0, 0, 1, 1, 1]) (seqL (fun k al H => LPL cfg (cfg.keep 29) 35 (sub (bodyOf Tryz.f29) [1, 1, 0, 1, 0, 0]) k (trimL (cfg.keep 29) (sub (bodyOf Tryz.f29) [1, 1, 0, 1, 0, 0]) al) H) (blockL 0 (memsort_once_of_string_K1 H0))) [(1, x1), (5, x5), (8, x8), (9, x9), (10, x10)] H
noncomputable def memsort_once_of_string_J2 (x1 x5 x8 x9 x10 x11 : AV) (H0 H : Hp) : Res := CXL cfg (callw cfg) (LPL cfg (cfg.keep 29) 35) (cfg.keep 29) 35 seqL blockL (sub (bodyOf Tryz.f29) [1, 1, 0, 1, 0, 0, 1, 1]) (seqL (fun k al H => LPL cfg (cfg.keep 29) 35 (sub (bodyOf Tryz.f29) [1, 1, 0, 1, 0, 0]) k (trimL (cfg.keep 29) (sub (bodyOf Tryz.f29) [1, 1, 0, 1, 0, 0]) al) H) (blockL 0 (memsort_once_of_string_K1 H0))) [(1, x1), (5, x5), (8, x8), (9, x9), (10, x10), (11, x11)] H
noncomputable def memsort_once_of_string_L1 (x1 x5 x8 x9 x10 : AV) (H0 H : Hp) : Res := LPL cfg (cfg.keep 29) 35 (sub (bodyOf Tryz.f29) [1, 1, 0, 1, 0, 0]) (blockL 0 (memsort_once_of_string_K1 H0)) [(1, x1), (5, x5), (8, x8), (9, x9), (10, x10)] H
noncomputable def F_memsort_once_of_string (p0 p1 : AV) (H : Hp) : Res :=
  bnd (alenD (.slice 9) p0) fun t9_1 =>
  memsort_once_of_string_L1 p1 .nils p0 t9_1 (.int .i64 0) H H
theorem memsort_once_of_string_J1_eq (x5 : AV) (H0 H : Hp) : memsort_once_of_string_J1 x5 H0 H =
    some (x5, H) := (CXM_eq [4, 7, 8] _ _ _ _).trans (by kernel_rfl)
theorem memsort_once_of_string_J3_eq (x1 x5 x8 x9 x10 : AV) (H0 H : Hp) : memsort_once_of_string_J3 x1 x5 x8 x9 x10 H0 H =
    bnd (ibin .add x10 (.int .i64 1)) fun t33_3 =>
    memsort_once_of_string_L1 x1 x5 x8 x9 t33_3 H0 H := (CXM_eq [4, 7, 8] _ _ _ _).trans (by kernel_rfl)
theorem memsort_once_of_string_J2_eq (x1 x5 x8 x9 x10 x11 : AV) (H0 H : Hp) : memsort_once_of_string_J2 x1 x5 x8 x9 x10 x11 H0 H =
    bnd (aindexS 1 x8 x10) fun t12_4 =>
    bnd (aload false 1 t12_4 H) fun t13_5 =>
    bnd (alenD (.slice 9) x5) fun t15_6 =>
    bnd (ibin .eql t15_6 (.int .i64 0)) fun t16_7 =>
    bnd (gdv t16_7 false (.tuple []) (some x1)) fun t18_8 =>
    bnd (gdv t16_7 false (.tuple []) (some x5)) fun t19_9 =>
    bnd (gdv t16_7 false (.tuple []) (some x5)) fun t20_10 =>
    bnd (gdv t16_7 false (.tuple []) (alenD (.slice 9) t20_10)) fun t21_11 =>
    bnd (gdv t16_7 false (.tuple []) (ibin .sub t21_11 (.int .i64 1))) fun t22_12 =>
    bnd (gdv t16_7 false (.tuple []) (aindexS 1 t19_9 t22_12)) fun t23_13 =>
    bnd (gdv t16_7 false (.tuple []) (aload false 1 t23_13 H)) fun t24_14 =>
    bnd (gdv t16_7 false (.tuple []) (some t13_5)) fun t25_15 =>
    bnd (gdv t16_7 false ((.tuple []), H) (acall cfg (callw cfg) t18_8 [t24_14, t25_15] H)) fun r26_16 =>
    bnd (gdv t16_7 false (.tuple []) (aun .not r26_16.1)) fun t27_17 =>
    bnd (apick t16_7 (.bool true) t27_17) fun t28_18 =>
    cnd t28_18
      (bnd ((setElems 1 [(0, t13_5)] [(.str [])]).map (.vs 1 .clip)) fun t31_19 =>
      bnd (aappE 1 16 x5 t31_19 r26_16.2) fun r32_20 =>
      memsort_once_of_string_J3 x1 r32_20.1 x8 x9 x10 H0 r32_20.2)
      (memsort_once_of_string_J3 x1 x5 x8 x9 x10 H0 r26_16.2) := (CXM_eq [4, 7, 8] _ _ _ _).trans (by kernel_rfl)
theorem memsort_once_of_string_L1_eq (x1 x5 x8 x9 x10 : AV) (H0 H : Hp) : memsort_once_of_string_L1 x1 x5 x8 x9 x10 H0 H =
    bnd (ibin .lss x10 x9) fun t11_2 =>
    cnd t11_2
      (memsort_once_of_string_J2 x1 x5 x8 x9 x10 t11_2 H0 H)
      (memsort_once_of_string_J1 x5 H0 H) := (LPL_eqm (C := cfg) [4, 7, 8] (tame_block 0 (memsort_once_of_string_K1_tame H0)) _ _).trans (by kernel_rfl)
theorem F_memsort_once_of_string_eq (p0 p1 : AV) (H : Hp) : C_memsort_once_of_string [p0, p1] H = F_memsort_once_of_string p0 p1 H := (callw_cxm (C := cfg) (fn := Tryz.f29) (c := bodyOf Tryz.f29) (n := 35) [4, 7, 8] Tryz.func29 (by kernel_rfl) (by kernel_rfl) [p0, p1] (by kernel_rfl) H).trans (by kernel_rfl)

noncomputable def F_memsort_Sort_2 (p0 p1 p2 p3 : AV) (H : Hp) : Res :=
  bnd (aload true 6 p2 H) fun t7_1 =>
  bnd (aload true 5 p3 H) fun t8_2 =>
  bnd (flatC C_sortkey_Compare [t7_1, t8_2, p0, p1] H) fun r11_3 =>
  bnd (ibin .eql r11_3.1 (.int .i64 0)) fun t12_4 =>
  some (t12_4, r11_3.2)
theorem F_memsort_Sort_2_eq (p0 p1 p2 p3 : AV) (H : Hp) : C_memsort_Sort_2 [p0, p1, p2, p3] H = F_memsort_Sort_2 p0 p1 p2 p3 H := (callw_cxm (C := cfg) (fn := Tryz.f30) (c := bodyOf Tryz.f30) (n := 13) [] Tryz.func30 (by kernel_rfl) (by kernel_rfl) [p0, p1, p2, p3] (by kernel_rfl) H).trans (by kernel_rfl)

noncomputable def R21_insert_J1 (x2 x3 x9 : AV) (H0 H : Hp) : Res := CXL cfg (callw cfg) (LPL cfg (cfg.keep 32) 43) (cfg.keep 32) 43 seqL blockL (sub (bodyOf Tryz.f32) [1, 1, 1]) (retL cfg 43 32 Tryz.f32 H0) [(2, x2), (3, x3), (9, x9)] H
noncomputable def R21_insert_K1 (H0 : Hp) : KL := seqL (fun k al H => CXL cfg (callw cfg) (LPL cfg (cfg.keep 32) 43) (cfg.keep 32) 43 seqL blockL (sub (bodyOf Tryz.f32) [1, 1, 1]) k (trimL (cfg.keep 32) (sub (bodyOf Tryz.f32) [1, 1, 1]) al) H) (retL cfg 43 32 Tryz.f32 H0)
theorem R21_insert_K1_tame (H0 : Hp) : Tame 43 (R21_insert_K1 H0) := tame_seq (C := cfg) (kp := cfg.keep 32) (sub (bodyOf Tryz.f32) [1, 1, 1]) (tame_ret 32 Tryz.f32 H0)
noncomputable def R21_insert_J2 (x2 x3 x4 x5 x9 : AV) (H0 H : Hp) : Res := CXL cfg (callw cfg) (LPL cfg (cfg.keep 32) 43) (cfg.keep 32) 43 seqL blockL (sub (bodyOf Tryz.f32) [1, 1, 0, 0, 0, 1]) (seqL (fun k al H => LPL cfg (cfg.keep 32) 43 (sub (bodyOf Tryz.f32) [1, 1, 0, 0, 0]) k (trimL (cfg.keep 32) (sub (bodyOf Tryz.f32) [1, 1, 0, 0, 0]) al) H) (blockL 0 (R21_insert_K1 H0))) [(2, x2), (3, x3), (4, x4), (5, x5), (9, x9)] H
noncomputable def R21_insert_L1 (x2 x3 x4 x5 x9 : AV) (H0 H : Hp) : Res := LPL cfg (cfg.keep 32) 43 (sub (bodyOf Tryz.f32) [1, 1, 0, 0, 0]) (blockL 0 (R21_insert_K1 H0)) [(2, x2), (3, x3), (4, x4), (5, x5), (9, x9)] H
noncomputable def F_R21_insert (p0 p1 p2 p3 : AV) (H : Hp) : Res :=
  bnd (abox p0 H) fun r4_1 =>
  bnd (abox p1 r4_1.2) fun r5_2 =>
  bnd (alenD (.slice 9) p2) fun t12_3 =>
  R21_insert_L1 p2 p3 r4_1.1 r5_2.1 t12_3 H r5_2.2
theorem R21_insert_J1_eq (x2 x3 x9 : AV) (H0 H : Hp) : R21_insert_J1 x2 x3 x9 H0 H =
    bnd (asliceV 1 x2 none (some x9) none) fun t32_4 =>
    bnd (aappE 1 16 .nils t32_4 H) fun r33_5 =>
    bnd ((setElems 1 [(0, x3)] [(.str [])]).map (.vs 1 .clip)) fun t36_6 =>
    bnd (aappE 1 16 r33_5.1 t36_6 r33_5.2) fun r37_7 =>
    bnd (asliceV 1 x2 (some x9) none none) fun t41_8 =>
    bnd (aappE 1 16 r37_7.1 t41_8 r37_7.2) fun r42_9 =>
    some (r42_9.1, r42_9.2) := (CXM_eq [3, 4] _ _ _ _).trans (by kernel_rfl)
theorem R21_insert_J2_eq (x2 x3 x4 x5 x9 : AV) (H0 H : Hp) : R21_insert_J2 x2 x3 x4 x5 x9 H0 H =
    bnd (ibin .sub x9 (.int .i64 1)) fun t28_10 =>
    R21_insert_L1 x2 x3 x4 x5 t28_10 H0 H := (CXM_eq [3, 4] _ _ _ _).trans (by kernel_rfl)
theorem R21_insert_L1_eq (x2 x3 x4 x5 x9 : AV) (H0 H : Hp) : R21_insert_L1 x2 x3 x4 x5 x9 H0 H =
    bnd (ibin .gtr x9 (.int .i64 0)) fun t14_11 =>
    bnd (gdv t14_11 true (.tuple []) (aload true 6 x4 H)) fun t16_12 =>
    bnd (gdv t14_11 true (.tuple []) (aload true 5 x5 H)) fun t17_13 =>
    bnd (gdv t14_11 true (.tuple []) (some x2)) fun t18_14 =>
    bnd (gdv t14_11 true (.tuple []) (some x9)) fun t19_15 =>
    bnd (gdv t14_11 true (.tuple []) (ibin .sub t19_15 (.int .i64 1))) fun t20_16 =>
    bnd (gdv t14_11 true (.tuple []) (aindexS 1 t18_14 t20_16)) fun t21_17 =>
    bnd (gdv t14_11 true (.tuple []) (aload false 1 t21_17 H)) fun t22_18 =>
    bnd (gdv t14_11 true (.tuple []) (some x3)) fun t23_19 =>
    bnd (gdv t14_11 true ((.tuple []), H) (flatC C_R20_Order [t16_12, t17_13, t22_18, t23_19] H)) fun r24_20 =>
    bnd (gdv t14_11 true (.tuple []) (ibin .gtr r24_20.1 (.int .i64 0))) fun t25_21 =>
    bnd (apick t14_11 t25_21 (.bool false)) fun t26_22 =>
    cnd t26_22
      (R21_insert_J2 x2 x3 x4 x5 x9 H0 r24_20.2)
      (R21_insert_J1 x2 x3 x9 H0 r24_20.2) := (LPL_eqm (C := cfg) [3, 4] (tame_block 0 (R21_insert_K1_tame H0)) _ _).trans (by kernel_rfl)
theorem F_R21_insert_eq (p0 p1 p2 p3 : AV) (H : Hp) : C_R21_insert [p0, p1, p2, p3] H = F_R21_insert p0 p1 p2 p3 H := (callw_cxm (C := cfg) (fn := Tryz.f32) (c := bodyOf Tryz.f32) (n := 43) [3, 4] Tryz.func32 (by kernel_rfl) (by kernel_rfl) [p0, p1, p2, p3] (by kernel_rfl) H).trans (by kernel_rfl)

noncomputable def R21_once_J1 (x7 : AV) (H0 H : Hp) : Res := CXL cfg (callw cfg) (LPL cfg (cfg.keep 33) 47) (cfg.keep 33) 47 seqL blockL (sub (bodyOf Tryz.f33) [1, 1, 1]) (retL cfg 47 33 Tryz.f33 H0) [(7, x7)] H
noncomputable def R21_once_K1 (H0 : Hp) : KL := seqL (fun k al H => CXL cfg (callw cfg) (LPL cfg (cfg.keep 33) 47) (cfg.keep 33) 47 seqL blockL (sub (bodyOf Tryz.f33) [1, 1, 1]) k (trimL (cfg.keep 33) (sub (bodyOf Tryz.f33) [1, 1, 1]) al) H) (retL cfg 47 33 Tryz.f33 H0)
theorem R21_once_K1_tame (H0 : Hp) : Tame 47 (R21_once_K1 H0) := tame_seq (C := cfg) (kp := cfg.keep 33) (sub (bodyOf Tryz.f33) [1, 1, 1]) (tame_ret 33 Tryz.f33 H0)
noncomputable def R21_once_J3 (x2 x3 x4 x7 x8 : AV) (H0 H : Hp) : Res := CXL cfg (callw cfg) (LPL cfg (cfg.keep 33) 47) (cfg.keep 33) 47 seqL blockL (sub (bodyOf Tryz.f33) [1, 1, 0, 1, 0, 0, 1, 1]) (seqL (fun k al H => LPL cfg (cfg.keep 33) 47 (sub (bodyOf Tryz.f33) [1, 1, 0, 1, 0, 0]) k (trimL (cfg.keep 33) (sub (bodyOf Tryz.f33) [1, 1, 0, 1, 0, 0]) al) H) (blockL 0 (R21_once_K1 H0))) [(2, x2), (3, x3), (4, x4), (7, x7), (8, x8)] H
noncomputable def R21_once_J2 (x2 x3 x4 x7 x8 : AV) (H0 H : Hp) : Res := CXL cfg (callw cfg) (LPL cfg (cfg.keep 33) 47) (cfg.keep 33) 47 seqL blockL (sub (bodyOf Tryz.f33) [1, 1, 0, 1, 0, 0, 1]) (seqL (fun k al H => LPL cfg (cfg.keep 33) 47 (sub (bodyOf Tryz.f33) [1, 1, 0, 1, 0, 0]) k (trimL (cfg.keep 33) (sub (bodyOf Tryz.f33) [1, 1, 0, 1, 0, 0]) al) H) (blockL 0 (R21_once_K1 H0))) [(2, x2), (3, x3), (4, x4), (7, x7), (8, x8)] H
noncomputable def R21_once_L1 (x2 x3 x4 x7 x8 : AV) (H0 H : Hp) : Res := LPL cfg (cfg.keep 33) 47 (sub (bodyOf Tryz.f33) [1, 1, 0, 1, 0, 0]) (blockL 0 (R21_once_K1 H0)) [(2, x2), (3, x3), (4, x4), (7, x7), (8, x8)] H
noncomputable def F_R21_once (p0 p1 p2 : AV) (H : Hp) : Res :=
  bnd (abox p0 H) fun r3_1 =>
  bnd (abox p1 r3_1.2) fun r4_2 =>
  R21_once_L1 p2 r3_1.1 r4_2.1 .nils (.int .i64 0) H r4_2.2
theorem R21_once_J1_eq (x7 : AV) (H0 H : Hp) : R21_once_J1 x7 H0 H =
    some (x7, H) := (CXM_eq [4, 5, 7] _ _ _ _).trans (by kernel_rfl)
theorem R21_once_J3_eq (x2 x3 x4 x7 x8 : AV) (H0 H : Hp) : R21_once_J3 x2 x3 x4 x7 x8 H0 H =
    bnd (ibin .add x8 (.int .i64 1)) fun t14_3 =>
    R21_once_L1 x2 x3 x4 x7 t14_3 H0 H := (CXM_eq [4, 5, 7] _ _ _ _).trans (by kernel_rfl)
theorem R21_once_J2_eq (x2 x3 x4 x7 x8 : AV) (H0 H : Hp) : R21_once_J2 x2 x3 x4 x7 x8 H0 H =
    bnd (afield 3 x4) fun t15_4 =>
    bnd (aload false 1 t15_4 H) fun t16_5 =>
    bnd (aun .not t16_5) fun t17_6 =>
    bnd (gdv t17_6 false (.tuple []) (some x7)) fun t19_7 =>
    bnd (gdv t17_6 false (.tuple []) (alenD (.slice 9) t19_7)) fun t20_8 =>
    bnd (gdv t17_6 false (.tuple []) (ibin .eql t20_8 (.int .i64 0))) fun t21_9 =>
    bnd (apick t17_6 (.bool true) t21_9) fun t22_10 =>
    bnd (gdv t22_10 false (.tuple []) (aload true 6 x3 H)) fun t24_11 =>
    bnd (gdv t22_10 false (.tuple []) (aload true 5 x4 H)) fun t25_12 =>
    bnd (gdv t22_10 false (.tuple []) (some x7)) fun t26_13 =>
    bnd (gdv t22_10 false (.tuple []) (some x7)) fun t27_14 =>
    bnd (gdv t22_10 false (.tuple []) (alenD (.slice 9) t27_14)) fun t28_15 =>
    bnd (gdv t22_10 false (.tuple []) (ibin .sub t28_15 (.int .i64 1))) fun t29_16 =>
    bnd (gdv t22_10 false (.tuple []) (aindexS 1 t26_13 t29_16)) fun t30_17 =>
    bnd (gdv t22_10 false (.tuple []) (aload false 1 t30_17 H)) fun t31_18 =>
    bnd (gdv t22_10 false (.tuple []) (some x2)) fun t32_19 =>
    bnd (gdv t22_10 false (.tuple []) (some x8)) fun t33_20 =>
    bnd (gdv t22_10 false (.tuple []) (aindexS 1 t32_19 t33_20)) fun t34_21 =>
    bnd (gdv t22_10 false (.tuple []) (aload false 1 t34_21 H)) fun t35_22 =>
    bnd (gdv t22_10 false ((.tuple []), H) (flatC C_R20_Compare [t24_11, t25_12, t31_18, t35_22] H)) fun r36_23 =>
    bnd (gdv t22_10 false (.tuple []) (ibin .neq r36_23.1 (.int .i64 0))) fun t37_24 =>
    bnd (apick t22_10 (.bool true) t37_24) fun t38_25 =>
    cnd t38_25
      (bnd (aindexS 1 x2 x8) fun t42_26 =>
      bnd (aload false 1 t42_26 r36_23.2) fun t43_27 =>
      bnd ((setElems 1 [(0, t43_27)] [(.str [])]).map (.vs 1 .clip)) fun t44_28 =>
      bnd (aappE 1 16 x7 t44_28 r36_23.2) fun r45_29 =>
      R21_once_J3 x2 x3 x4 r45_29.1 x8 H0 r45_29.2)
      (R21_once_J3 x2 x3 x4 x7 x8 H0 r36_23.2) := (CXM_eq [4, 5, 7] _ _ _ _).trans (by kernel_rfl)
theorem R21_once_L1_eq (x2 x3 x4 x7 x8 : AV) (H0 H : Hp) : R21_once_L1 x2 x3 x4 x7 x8 H0 H =
    bnd (alenD (.slice 9) x2) fun t11_30 =>
    bnd (ibin .lss x8 t11_30) fun t12_31 =>
    cnd t12_31
      (R21_once_J2 x2 x3 x4 x7 x8 H0 H)
      (R21_once_J1 x7 H0 H) := (LPL_eqm (C := cfg) [4, 5, 7] (tame_block 0 (R21_once_K1_tame H0)) _ _).trans (by kernel_rfl)
theorem F_R21_once_eq (p0 p1 p2 : AV) (H : Hp) : C_R21_once [p0, p1, p2] H = F_R21_once p0 p1 p2 H := (callw_cxm (C := cfg) (fn := Tryz.f33) (c := bodyOf Tryz.f33) (n := 47) [4, 5, 7] Tryz.func33 (by kernel_rfl) (by kernel_rfl) [p0, p1, p2] (by kernel_rfl) H).trans (by kernel_rfl)

end Go.Am
