/-
  The functions of the translation over the abstract machine, a further part: written by program (wip/gen.py).
-/
import Derived.Test.YtomfadecfjephaaDoorWkGx
namespace Go.Am
open Go.Proofs
set_option maxRecDepth 100000
set_option linter.unusedVariables false
set_option linter.unusedSimpArgs false

noncomputable def L21_MemsortParts_J2 (x2 x3 x4 x7 : AV) (H0 H : Hp) : Res := CXL cfg (callw cfg) (LPL cfg (cfg.keep 5) 55) (cfg.keep 5) 55 seqL blockL (sub (bodyOf Tryd.f5) [1, 1, 1, 1]) (retL cfg 55 5 Tryd.f5 H0) [(2, x2), (3, x3), (4, x4), (7, x7)] H
noncomputable def L21_MemsortParts_K1 (H0 : Hp) : KL := seqL (fun k al H => CXL cfg (callw cfg) (LPL cfg (cfg.keep 5) 55) (cfg.keep 5) 55 seqL blockL (sub (bodyOf Tryd.f5) [1, 1, 1, 1]) k (trimL (cfg.keep 5) (sub (bodyOf Tryd.f5) [1, 1, 1, 1]) al) H) (retL cfg 55 5 Tryd.f5 H0)
theorem L21_MemsortParts_K1_tame (H0 : Hp) : Tame 55 (L21_MemsortParts_K1 H0) := tame_seq (C := cfg) (kp := cfg.keep 5) (sub (bodyOf Tryd.f5) [1, 1, 1, 1]) (tame_ret 5 Tryd.f5 H0)
noncomputable def L21_MemsortParts_J4 (x2 x3 x4 x7 x8 : AV) (H0 H : Hp) : Res := CXL cfg (callw cfg) (LPL cfg (cfg.keep 5) 55) (cfg.keep 5) 55 seqL blockL (sub (bodyOf Tryd.f5) [1, 1, 1, 0, 1, 0, 0, 1, 1]) (seqL (fun k al H => LPL cfg (cfg.keep 5) 55 (sub (bodyOf Tryd.f5) [1, 1, 1, 0, 1, 0, 0]) k (trimL (cfg.keep 5) (sub (bodyOf Tryd.f5) [1, 1, 1, 0, 1, 0, 0]) al) H) (blockL 0 (L21_MemsortParts_K1 H0))) [(2, x2), (3, x3), (4, x4), (7, x7), (8, x8)] H
noncomputable def L21_MemsortParts_J3 (x2 x3 x4 x7 x8 : AV) (H0 H : Hp) : Res := CXL cfg (callw cfg) (LPL cfg (cfg.keep 5) 55) (cfg.keep 5) 55 seqL blockL (sub (bodyOf Tryd.f5) [1, 1, 1, 0, 1, 0, 0, 1]) (seqL (fun k al H => LPL cfg (cfg.keep 5) 55 (sub (bodyOf Tryd.f5) [1, 1, 1, 0, 1, 0, 0]) k (trimL (cfg.keep 5) (sub (bodyOf Tryd.f5) [1, 1, 1, 0, 1, 0, 0]) al) H) (blockL 0 (L21_MemsortParts_K1 H0))) [(2, x2), (3, x3), (4, x4), (7, x7), (8, x8)] H
noncomputable def L21_MemsortParts_L1 (x2 x3 x4 x7 x8 : AV) (H0 H : Hp) : Res := LPL cfg (cfg.keep 5) 55 (sub (bodyOf Tryd.f5) [1, 1, 1, 0, 1, 0, 0]) (blockL 0 (L21_MemsortParts_K1 H0)) [(2, x2), (3, x3), (4, x4), (7, x7), (8, x8)] H
noncomputable def L21_MemsortParts_J1 (x2 x3 x4 : AV) (H0 H : Hp) : Res := CXL cfg (callw cfg) (LPL cfg (cfg.keep 5) 55) (cfg.keep 5) 55 seqL blockL (sub (bodyOf Tryd.f5) [1, 1]) (retL cfg 55 5 Tryd.f5 H0) [(2, x2), (3, x3), (4, x4)] H
noncomputable def F_L21_MemsortParts (p0 p1 p2 : AV) (H : Hp) : Res :=
  bnd (abox p0 H) fun r3 =>
  bnd (abox p1 r3.2) fun r4 =>
  bnd (alenD (.slice 30) p2) fun t10 =>
  bnd (ibin .gtr t10 (.int .i64 8)) fun t11 =>
  bnd (gdv t11 false (.tuple []) (aload true 6 r3.1 r4.2)) fun t13 =>
  bnd (gdv t11 false (.tuple []) (aload true 5 r4.1 r4.2)) fun t14 =>
  bnd (gdv t11 false (.tuple []) (some p2)) fun t15 =>
  bnd (gdv t11 false ((.tuple []), r4.2) (flatC C_L21_all [t15] r4.2)) fun r16 =>
  bnd (gdv t11 false ((.tuple []), r16.2) (flatC C_L21_few [t13, t14, r16.1] r16.2)) fun r17 =>
  bnd (gdv t11 false (.tuple []) (aun .not r17.1)) fun t18 =>
  bnd (apick t11 (.bool true) t18) fun t19 =>
  bnd (gdv t19 false (.tuple []) (aload true 5 r4.1 r17.2)) fun t21 =>
  bnd (gdv t19 false ((.tuple []), r17.2) (flatC C_R20_Check [t21] r17.2)) fun r22 =>
  bnd (gdv t19 false (.tuple []) (ibin .neq r22.1 (.int .i64 0))) fun t23 =>
  bnd (apick t19 (.bool true) t23) fun t24 =>
  cnd t24
    (bnd (flatC C_L21_awake [] r22.2) fun r25 =>
    some (r25.1, r25.2))
    (L21_MemsortParts_J1 p2 r3.1 r4.1 H r22.2)
theorem L21_MemsortParts_J2_eq (x2 x3 x4 x7 : AV) (H0 H : Hp) : L21_MemsortParts_J2 x2 x3 x4 x7 H0 H =
    frzK x3 H fun z3 z3H =>
    frzK x4 z3H fun z4 z4H =>
    bnd (aload true 6 z3 z4H) fun t42 =>
    bnd (aload true 5 z4 z4H) fun t43 =>
    bnd (C_memsort_Merge [t42, t43, x7] z4H) fun r45 =>
    bnd (aloadv true 6 z3) fun t46 =>
    bnd (aloadv true 5 z4) fun t47 =>
    bnd (flatC C_L21_all [x2] r45.2) fun r49 =>
    bnd (flatC C_memsort_Sort [t46, t47, r49.1] r49.2) fun r50 =>
    bnd (flatC C_R21_Same [r45.1, r50.1] r50.2) fun r51 =>
    bnd (gdv r51.1 true ((.tuple []), r51.2) (flatC C_L21_awake [] r51.2)) fun r53 =>
    bnd (apick r51.1 r53.1 (.bool false)) fun t54 =>
    some (t54, r53.2) := (CXM_eq [3, 6, 7, 8] _ _ _ _).trans (by kernel_rfl)
theorem L21_MemsortParts_J4_eq (x2 x3 x4 x7 x8 : AV) (H0 H : Hp) : L21_MemsortParts_J4 x2 x3 x4 x7 x8 H0 H =
    bnd (ibin .add x8 (.int .i64 1)) fun t31 =>
    L21_MemsortParts_L1 x2 x3 x4 x7 t31 H0 H := (CXM_eq [3, 6, 7, 8] _ _ _ _).trans (by kernel_rfl)
theorem L21_MemsortParts_J3_eq (x2 x3 x4 x7 x8 : AV) (H0 H : Hp) : L21_MemsortParts_J3 x2 x3 x4 x7 x8 H0 H =
    bnd (aload true 6 x3 H) fun t33 =>
    bnd (aload true 5 x4 H) fun t34 =>
    bnd (aindexS 1 x2 x8) fun t37 =>
    bnd (aload false 1 t37 H) fun t38 =>
    bnd (flatC C_memsort_Sort [t33, t34, t38] H) fun r39 =>
    bnd ((setElems 1 [(0, r39.1)] [.nils]).map (.vs 1 .clip)) fun t40 =>
    bnd (aappEL false 1 24 x7 t40 r39.2) fun r41 =>
    L21_MemsortParts_J4 x2 x3 x4 r41.1 x8 H0 r41.2 := (CXM_eq [3, 6, 7, 8] _ _ _ _).trans (by kernel_rfl)
theorem L21_MemsortParts_L1_eq (x2 x3 x4 x7 x8 : AV) (H0 H : Hp) : L21_MemsortParts_L1 x2 x3 x4 x7 x8 H0 H =
    bnd (alenD (.slice 30) x2) fun t28 =>
    bnd (ibin .lss x8 t28) fun t29 =>
    cnd t29
      (L21_MemsortParts_J3 x2 x3 x4 x7 x8 H0 H)
      (L21_MemsortParts_J2 x2 x3 x4 x7 H0 H) := (LPL_eqm (C := cfg) [3, 6, 7, 8] (tame_block 0 (L21_MemsortParts_K1_tame H0)) _ _).trans (by kernel_rfl)
theorem L21_MemsortParts_J1_eq (x2 x3 x4 : AV) (H0 H : Hp) : L21_MemsortParts_J1 x2 x3 x4 H0 H =
    L21_MemsortParts_L1 x2 x3 x4 .nils (.int .i64 0) H0 H := (CXM_eq [3, 6, 7, 8] _ _ _ _).trans (by kernel_rfl)
theorem F_L21_MemsortParts_eq (p0 p1 p2 : AV) (H : Hp) : C_L21_MemsortParts [p0, p1, p2] H = F_L21_MemsortParts p0 p1 p2 H := (callw_cxm (C := cfg) (fn := Tryd.f5) (c := bodyOf Tryd.f5) (n := 55) [3, 6, 7, 8] Tryd.func5 (by kernel_rfl) (by kernel_rfl) [p0, p1, p2] (by kernel_rfl) H).trans (by kernel_rfl)

noncomputable def L21_few_J2 (H0 H : Hp) : Res := CXL cfg (callw cfg) (LPL cfg (cfg.keep 6) 34) (cfg.keep 6) 34 seqL blockL (sub (bodyOf Tryd.f6) [1, 1, 1]) (retL cfg 34 6 Tryd.f6 H0) [] H
noncomputable def L21_few_K1 (H0 : Hp) : KL := seqL (fun k al H => CXL cfg (callw cfg) (LPL cfg (cfg.keep 6) 34) (cfg.keep 6) 34 seqL blockL (sub (bodyOf Tryd.f6) [1, 1, 1]) k (trimL (cfg.keep 6) (sub (bodyOf Tryd.f6) [1, 1, 1]) al) H) (retL cfg 34 6 Tryd.f6 H0)
theorem L21_few_K1_tame (H0 : Hp) : Tame 34 (L21_few_K1 H0) := tame_seq (C := cfg) (kp := cfg.keep 6) (sub (bodyOf Tryd.f6) [1, 1, 1]) (tame_ret 6 Tryd.f6 H0)
noncomputable def L21_few_J4 (x2 x7 : AV) (H0 H : Hp) : Res := CXL cfg (callw cfg) (LPL cfg (cfg.keep 6) 34) (cfg.keep 6) 34 seqL blockL (sub (bodyOf Tryd.f6) [1, 1, 0, 1, 0, 0, 1, 1]) (seqL (fun k al H => LPL cfg (cfg.keep 6) 34 (sub (bodyOf Tryd.f6) [1, 1, 0, 1, 0, 0]) k (trimL (cfg.keep 6) (sub (bodyOf Tryd.f6) [1, 1, 0, 1, 0, 0]) al) H) (blockL 0 (L21_few_K1 H0))) [(2, x2), (7, x7)] H
noncomputable def L21_few_J3 (x2 x7 : AV) (H0 H : Hp) : Res := CXL cfg (callw cfg) (LPL cfg (cfg.keep 6) 34) (cfg.keep 6) 34 seqL blockL (sub (bodyOf Tryd.f6) [1, 1, 0, 1, 0, 0, 1]) (seqL (fun k al H => LPL cfg (cfg.keep 6) 34 (sub (bodyOf Tryd.f6) [1, 1, 0, 1, 0, 0]) k (trimL (cfg.keep 6) (sub (bodyOf Tryd.f6) [1, 1, 0, 1, 0, 0]) al) H) (blockL 0 (L21_few_K1 H0))) [(2, x2), (7, x7)] H
noncomputable def L21_few_L1 (x2 x7 : AV) (H0 H : Hp) : Res := LPL cfg (cfg.keep 6) 34 (sub (bodyOf Tryd.f6) [1, 1, 0, 1, 0, 0]) (blockL 0 (L21_few_K1 H0)) [(2, x2), (7, x7)] H
noncomputable def L21_few_J1 (x2 : AV) (H0 H : Hp) : Res := CXL cfg (callw cfg) (LPL cfg (cfg.keep 6) 34) (cfg.keep 6) 34 seqL blockL (sub (bodyOf Tryd.f6) [1, 1]) (retL cfg 34 6 Tryd.f6 H0) [(2, x2)] H
noncomputable def F_L21_few (p0 p1 p2 : AV) (H : Hp) : Res :=
  bnd (abox p0 H) fun r3 =>
  bnd (abox p1 r3.2) fun r4 =>
  bnd (alenD (.slice 9) p2) fun t9 =>
  bnd (ibin .gtr t9 (.int .i64 30)) fun t10 =>
  bnd (gdv t10 false (.tuple []) (afield 0 r4.1)) fun t12 =>
  bnd (gdv t10 false (.tuple []) (aload false 1 t12 r4.2)) fun t13 =>
  bnd (gdv t10 false (.tuple []) (alenD (.slice 49) t13)) fun t14 =>
  bnd (gdv t10 false (.tuple []) (ibin .gtr t14 (.int .i64 12))) fun t15 =>
  bnd (apick t10 (.bool true) t15) fun t16 =>
  bnd (gdv t16 false (.tuple []) (aload true 6 r3.1 r4.2)) fun t18 =>
  bnd (gdv t16 false ((.tuple []), r4.2) (flatC C_L07_Light [t18] r4.2)) fun r19 =>
  bnd (gdv t16 false (.tuple []) (aun .not r19.1)) fun t20 =>
  bnd (apick t16 (.bool true) t20) fun t21 =>
  cnd t21
    (some ((.bool false), r19.2))
    (L21_few_J1 p2 H r19.2)
theorem L21_few_J2_eq (H0 H : Hp) : L21_few_J2 H0 H =
    some ((.bool true), H) := (CXM_eq [3, 5, 6, 8] _ _ _ _).trans (by kernel_rfl)
theorem L21_few_J4_eq (x2 x7 : AV) (H0 H : Hp) : L21_few_J4 x2 x7 H0 H =
    bnd (ibin .add x7 (.int .i64 1)) fun t27 =>
    L21_few_L1 x2 t27 H0 H := (CXM_eq [3, 5, 6, 8] _ _ _ _).trans (by kernel_rfl)
theorem L21_few_J3_eq (x2 x7 : AV) (H0 H : Hp) : L21_few_J3 x2 x7 H0 H =
    bnd (aindexS 1 x2 x7) fun t30 =>
    bnd (aload false 1 t30 H) fun t31 =>
    bnd (alenD .string t31) fun t32 =>
    bnd (ibin .gtr t32 (.int .i64 40)) fun t33 =>
    cnd t33
      (some ((.bool false), H))
      (L21_few_J4 x2 x7 H0 H) := (CXM_eq [3, 5, 6, 8] _ _ _ _).trans (by kernel_rfl)
theorem L21_few_L1_eq (x2 x7 : AV) (H0 H : Hp) : L21_few_L1 x2 x7 H0 H =
    bnd (alenD (.slice 9) x2) fun t24 =>
    bnd (ibin .lss x7 t24) fun t25 =>
    cnd t25
      (L21_few_J3 x2 x7 H0 H)
      (L21_few_J2 H0 H) := (LPL_eqm (C := cfg) [3, 5, 6, 8] (tame_block 0 (L21_few_K1_tame H0)) _ _).trans (by kernel_rfl)
theorem L21_few_J1_eq (x2 : AV) (H0 H : Hp) : L21_few_J1 x2 H0 H =
    L21_few_L1 x2 (.int .i64 0) H0 H := (CXM_eq [3, 5, 6, 8] _ _ _ _).trans (by kernel_rfl)
theorem F_L21_few_eq (p0 p1 p2 : AV) (H : Hp) : C_L21_few [p0, p1, p2] H = F_L21_few p0 p1 p2 H := (callw_cxm (C := cfg) (fn := Tryd.f6) (c := bodyOf Tryd.f6) (n := 34) [3, 5, 6, 8] Tryd.func6 (by kernel_rfl) (by kernel_rfl) [p0, p1, p2] (by kernel_rfl) H).trans (by kernel_rfl)

noncomputable def F_L21_awake (H : Hp) : Res :=
  bnd ((setElems 1 [(0, (.str [98])), (1, (.str [97])), (2, (.str [66]))] [(.str []), (.str []), (.str [])]).map (.vs 1 .clip)) fun t7 =>
  bnd ((afill [(1, 1, (.int .i64 (-1)))] [.nils, (.int .i64 0), (.int .i64 0), (.bool false), (.bool false)]).map .agg) fun t8 =>
  bnd (some ((.ptr H.length 0), H ++ [.cells [.nils, (.int .i64 0), (.int .i64 0), (.bool false), (.bool false)]])) fun r2 =>
  bnd (astoreU 5 r2.1 t8 r2.2) fun r_4 =>
  bnd ((afill [(1, 1, (.int .i64 (-1))), (2, 1, (.int .i64 4)), (4, 1, (.bool true))] [.nils, (.int .i64 0), (.int .i64 0), (.bool false), (.bool false)]).map .agg) fun t9 =>
  bnd (some ((.ptr r_4.2.length 0), r_4.2 ++ [.cells [.nils, (.int .i64 0), (.int .i64 0), (.bool false), (.bool false)]])) fun r3 =>
  bnd (astoreU 5 r3.1 t9 r3.2) fun r_7 =>
  bnd (flatC C_R05_Default [] r_7.2) fun r10 =>
  bnd (aload true 5 r2.1 r10.2) fun t11 =>
  bnd (flatC C_memsort_Sort [r10.1, t11, t7] r10.2) fun r13 =>
  bnd (flatC C_R05_Default [] r13.2) fun r14 =>
  bnd (aload true 5 r3.1 r14.2) fun t15 =>
  bnd (flatC C_memsort_Sort [r14.1, t15, t7] r14.2) fun r17 =>
  bnd (flatC C_R05_Default [] r17.2) fun r18 =>
  bnd (aload true 5 r2.1 r18.2) fun t19 =>
  bnd ((setElems 1 [(0, (.str [97])), (1, (.str [98])), (2, (.str [98])), (3, (.str [97]))] [(.str []), (.str []), (.str []), (.str [])]).map (.vs 1 .clip)) fun t20 =>
  bnd (flatC C_memsort_Unsorted [r18.1, t19, t20] r18.2) fun r21 =>
  bnd ((setElems 1 [(0, (.str [66])), (1, (.str [97])), (2, (.str [98]))] [(.str []), (.str []), (.str [])]).map (.vs 1 .clip)) fun t23 =>
  bnd (flatC C_R21_Same [r13.1, t23] r21.2) fun r24 =>
  bnd (gdv r24.1 true (.tuple []) (some r17.1)) fun t26 =>
  bnd (gdv r24.1 true (.tuple []) ((setElems 1 [(0, (.str [97])), (1, (.str [98])), (2, (.str [66]))] [(.str []), (.str []), (.str [])]).map (.vs 1 .clip))) fun t27 =>
  bnd (gdv r24.1 true ((.tuple []), r24.2) (flatC C_R21_Same [t26, t27] r24.2)) fun r28 =>
  bnd (apick r24.1 r28.1 (.bool false)) fun t29 =>
  bnd (gdv t29 true (.tuple []) (some r21.1)) fun t31 =>
  bnd (gdv t29 true (.tuple []) (ibin .eql t31 (.int .i64 3))) fun t32 =>
  bnd (apick t29 t32 (.bool false)) fun t33 =>
  some (t33, r28.2)
theorem F_L21_awake_eq (H : Hp) : C_L21_awake [] H = F_L21_awake H := (callw_cxm (C := cfg) (fn := Tryd.f8) (c := bodyOf Tryd.f8) (n := 34) [] Tryd.func8 (by kernel_rfl) (by kernel_rfl) [] (by kernel_rfl) H).trans (by kernel_rfl)

noncomputable def memsort_Sort_J2 (x7 : AV) (H0 H : Hp) : Res := CXL cfg (callw cfg) (LPL cfg (cfg.keep 9) 22) (cfg.keep 9) 22 seqL blockL (sub (bodyOf Tryd.f9) [1, 1, 1, 1]) (retL cfg 22 9 Tryd.f9 H0) [(7, x7)] H
noncomputable def memsort_Sort_J1 (x2 x3 x4 : AV) (H0 H : Hp) : Res := CXL cfg (callw cfg) (LPL cfg (cfg.keep 9) 22) (cfg.keep 9) 22 seqL blockL (sub (bodyOf Tryd.f9) [1, 1]) (retL cfg 22 9 Tryd.f9 H0) [(2, x2), (3, x3), (4, x4)] H
noncomputable def F_memsort_Sort (p0 p1 p2 : AV) (H : Hp) : Res :=
  bnd (abox p0 H) fun r3 =>
  bnd (abox p1 r3.2) fun r4 =>
  bnd (aload true 5 r4.1 r4.2) fun t8 =>
  bnd (flatC C_sortkey_Check [t8] r4.2) fun r9 =>
  bnd (ibin .neq r9.1 (.int .i64 0)) fun t10 =>
  cnd t10
    (bnd (flatC C_slices_Clone_of_string_string [p2] r9.2) fun r12 =>
    some (r12.1, r12.2))
    (memsort_Sort_J1 p2 r3.1 r4.1 H r9.2)
theorem memsort_Sort_J2_eq (x7 : AV) (H0 H : Hp) : memsort_Sort_J2 x7 H0 H =
    some (x7, H) := (CXM_eq [3, 6] _ _ _ _).trans (by kernel_rfl)
theorem memsort_Sort_J1_eq (x2 x3 x4 : AV) (H0 H : Hp) : memsort_Sort_J1 x2 x3 x4 H0 H =
    frzK x3 H fun z3 z3H =>
    frzK x4 z3H fun z4 z4H =>
    bnd (some (.fn (.func 22) [] [z3, z4])) fun t14 =>
    bnd (flatC C_memsort_mergeSort_of_string [x2, t14] z4H) fun r15 =>
    bnd (afield 3 z4) fun t16 =>
    bnd (aload false 1 t16 r15.2) fun t17 =>
    cnd t17
      (bnd (some (.fn (.func 25) [] [z3, z4])) fun t19 =>
      bnd (flatC C_memsort_once_of_string [r15.1, t19] r15.2) fun r20 =>
      memsort_Sort_J2 r20.1 H0 r20.2)
      (memsort_Sort_J2 r15.1 H0 r15.2) := (CXM_eq [3, 6] _ _ _ _).trans (by kernel_rfl)
theorem F_memsort_Sort_eq (p0 p1 p2 : AV) (H : Hp) : C_memsort_Sort [p0, p1, p2] H = F_memsort_Sort p0 p1 p2 H := (callw_cxm (C := cfg) (fn := Tryd.f9) (c := bodyOf Tryd.f9) (n := 22) [3, 6] Tryd.func9 (by kernel_rfl) (by kernel_rfl) [p0, p1, p2] (by kernel_rfl) H).trans (by kernel_rfl)

noncomputable def memsort_Unsorted_J2 (H0 H : Hp) : Res := CXL cfg (callw cfg) (LPL cfg (cfg.keep 10) 41) (cfg.keep 10) 41 seqL blockL (sub (bodyOf Tryd.f10) [1, 1, 1]) (retL cfg 41 10 Tryd.f10 H0) [] H
noncomputable def memsort_Unsorted_K1 (H0 : Hp) : KL := seqL (fun k al H => CXL cfg (callw cfg) (LPL cfg (cfg.keep 10) 41) (cfg.keep 10) 41 seqL blockL (sub (bodyOf Tryd.f10) [1, 1, 1]) k (trimL (cfg.keep 10) (sub (bodyOf Tryd.f10) [1, 1, 1]) al) H) (retL cfg 41 10 Tryd.f10 H0)
theorem memsort_Unsorted_K1_tame (H0 : Hp) : Tame 41 (memsort_Unsorted_K1 H0) := tame_seq (C := cfg) (kp := cfg.keep 10) (sub (bodyOf Tryd.f10) [1, 1, 1]) (tame_ret 10 Tryd.f10 H0)
noncomputable def memsort_Unsorted_J4 (x2 x3 x4 x7 : AV) (H0 H : Hp) : Res := CXL cfg (callw cfg) (LPL cfg (cfg.keep 10) 41) (cfg.keep 10) 41 seqL blockL (sub (bodyOf Tryd.f10) [1, 1, 0, 1, 0, 0, 1, 1]) (seqL (fun k al H => LPL cfg (cfg.keep 10) 41 (sub (bodyOf Tryd.f10) [1, 1, 0, 1, 0, 0]) k (trimL (cfg.keep 10) (sub (bodyOf Tryd.f10) [1, 1, 0, 1, 0, 0]) al) H) (blockL 0 (memsort_Unsorted_K1 H0))) [(2, x2), (3, x3), (4, x4), (7, x7)] H
noncomputable def memsort_Unsorted_J3 (x2 x3 x4 x7 : AV) (H0 H : Hp) : Res := CXL cfg (callw cfg) (LPL cfg (cfg.keep 10) 41) (cfg.keep 10) 41 seqL blockL (sub (bodyOf Tryd.f10) [1, 1, 0, 1, 0, 0, 1]) (seqL (fun k al H => LPL cfg (cfg.keep 10) 41 (sub (bodyOf Tryd.f10) [1, 1, 0, 1, 0, 0]) k (trimL (cfg.keep 10) (sub (bodyOf Tryd.f10) [1, 1, 0, 1, 0, 0]) al) H) (blockL 0 (memsort_Unsorted_K1 H0))) [(2, x2), (3, x3), (4, x4), (7, x7)] H
noncomputable def memsort_Unsorted_L1 (x2 x3 x4 x7 : AV) (H0 H : Hp) : Res := LPL cfg (cfg.keep 10) 41 (sub (bodyOf Tryd.f10) [1, 1, 0, 1, 0, 0]) (blockL 0 (memsort_Unsorted_K1 H0)) [(2, x2), (3, x3), (4, x4), (7, x7)] H
noncomputable def memsort_Unsorted_J1 (x2 x3 x4 : AV) (H0 H : Hp) : Res := CXL cfg (callw cfg) (LPL cfg (cfg.keep 10) 41) (cfg.keep 10) 41 seqL blockL (sub (bodyOf Tryd.f10) [1, 1]) (retL cfg 41 10 Tryd.f10 H0) [(2, x2), (3, x3), (4, x4)] H
noncomputable def F_memsort_Unsorted (p0 p1 p2 : AV) (H : Hp) : Res :=
  bnd (abox p0 H) fun r3 =>
  bnd (abox p1 r3.2) fun r4 =>
  bnd (aload true 5 r4.1 r4.2) fun t9 =>
  bnd (flatC C_sortkey_Check [t9] r4.2) fun r10 =>
  bnd (ibin .neq r10.1 (.int .i64 0)) fun t11 =>
  cnd t11
    (some ((.int .i64 (-1)), r10.2))
    (memsort_Unsorted_J1 p2 r3.1 r4.1 H r10.2)
theorem memsort_Unsorted_J2_eq (H0 H : Hp) : memsort_Unsorted_J2 H0 H =
    some ((.int .i64 (-1)), H) := (CXM_eq [3, 5, 6, 9] _ _ _ _).trans (by kernel_rfl)
theorem memsort_Unsorted_J4_eq (x2 x3 x4 x7 : AV) (H0 H : Hp) : memsort_Unsorted_J4 x2 x3 x4 x7 H0 H =
    bnd (ibin .add x7 (.int .i64 1)) fun t17 =>
    memsort_Unsorted_L1 x2 x3 x4 t17 H0 H := (CXM_eq [3, 5, 6, 9] _ _ _ _).trans (by kernel_rfl)
theorem memsort_Unsorted_J3_eq (x2 x3 x4 x7 : AV) (H0 H : Hp) : memsort_Unsorted_J3 x2 x3 x4 x7 H0 H =
    bnd (aload true 6 x3 H) fun t18 =>
    bnd (aload true 5 x4 H) fun t19 =>
    bnd (ibin .sub x7 (.int .i64 1)) fun t22 =>
    bnd (aindexS 1 x2 t22) fun t23 =>
    bnd (aload false 1 t23 H) fun t24 =>
    bnd (aindexS 1 x2 x7) fun t27 =>
    bnd (aload false 1 t27 H) fun t28 =>
    bnd (flatC C_sortkey_Order [t18, t19, t24, t28] H) fun r29 =>
    bnd (ibin .gtr r29.1 (.int .i64 0)) fun t31 =>
    bnd (gdv t31 false (.tuple []) (afield 3 x4)) fun t33 =>
    bnd (gdv t31 false (.tuple []) (aload false 1 t33 r29.2)) fun t34 =>
    bnd (gdv t31 false (.tuple []) (some t34)) fun t35 =>
    bnd (gdv t35 true (.tuple []) (some r29.1)) fun t36 =>
    bnd (gdv t35 true (.tuple []) (ibin .eql t36 (.int .i64 0))) fun t37 =>
    bnd (gdv t31 false (.tuple []) (apick t35 t37 (.bool false))) fun t38 =>
    bnd (apick t31 (.bool true) t38) fun t39 =>
    cnd t39
      (some (x7, r29.2))
      (memsort_Unsorted_J4 x2 x3 x4 x7 H0 r29.2) := (CXM_eq [3, 5, 6, 9] _ _ _ _).trans (by kernel_rfl)
theorem memsort_Unsorted_L1_eq (x2 x3 x4 x7 : AV) (H0 H : Hp) : memsort_Unsorted_L1 x2 x3 x4 x7 H0 H =
    bnd (alenD (.slice 9) x2) fun t14 =>
    bnd (ibin .lss x7 t14) fun t15 =>
    cnd t15
      (memsort_Unsorted_J3 x2 x3 x4 x7 H0 H)
      (memsort_Unsorted_J2 H0 H) := (LPL_eqm (C := cfg) [3, 5, 6, 9] (tame_block 0 (memsort_Unsorted_K1_tame H0)) _ _).trans (by kernel_rfl)
theorem memsort_Unsorted_J1_eq (x2 x3 x4 : AV) (H0 H : Hp) : memsort_Unsorted_J1 x2 x3 x4 H0 H =
    memsort_Unsorted_L1 x2 x3 x4 (.int .i64 1) H0 H := (CXM_eq [3, 5, 6, 9] _ _ _ _).trans (by kernel_rfl)
theorem F_memsort_Unsorted_eq (p0 p1 p2 : AV) (H : Hp) : C_memsort_Unsorted [p0, p1, p2] H = F_memsort_Unsorted p0 p1 p2 H := (callw_cxm (C := cfg) (fn := Tryd.f10) (c := bodyOf Tryd.f10) (n := 41) [3, 5, 6, 9] Tryd.func10 (by kernel_rfl) (by kernel_rfl) [p0, p1, p2] (by kernel_rfl) H).trans (by kernel_rfl)

noncomputable def R21_Same_J2 (H0 H : Hp) : Res := CXL cfg (callw cfg) (LPL cfg (cfg.keep 11) 26) (cfg.keep 11) 26 seqL blockL (sub (bodyOf Tryd.f11) [1, 1, 1]) (retL cfg 26 11 Tryd.f11 H0) [] H
noncomputable def R21_Same_K1 (H0 : Hp) : KL := seqL (fun k al H => CXL cfg (callw cfg) (LPL cfg (cfg.keep 11) 26) (cfg.keep 11) 26 seqL blockL (sub (bodyOf Tryd.f11) [1, 1, 1]) k (trimL (cfg.keep 11) (sub (bodyOf Tryd.f11) [1, 1, 1]) al) H) (retL cfg 26 11 Tryd.f11 H0)
theorem R21_Same_K1_tame (H0 : Hp) : Tame 26 (R21_Same_K1 H0) := tame_seq (C := cfg) (kp := cfg.keep 11) (sub (bodyOf Tryd.f11) [1, 1, 1]) (tame_ret 11 Tryd.f11 H0)
noncomputable def R21_Same_J4 (x0 x1 x5 : AV) (H0 H : Hp) : Res := CXL cfg (callw cfg) (LPL cfg (cfg.keep 11) 26) (cfg.keep 11) 26 seqL blockL (sub (bodyOf Tryd.f11) [1, 1, 0, 1, 0, 0, 1, 1]) (seqL (fun k al H => LPL cfg (cfg.keep 11) 26 (sub (bodyOf Tryd.f11) [1, 1, 0, 1, 0, 0]) k (trimL (cfg.keep 11) (sub (bodyOf Tryd.f11) [1, 1, 0, 1, 0, 0]) al) H) (blockL 0 (R21_Same_K1 H0))) [(0, x0), (1, x1), (5, x5)] H
noncomputable def R21_Same_J3 (x0 x1 x5 : AV) (H0 H : Hp) : Res := CXL cfg (callw cfg) (LPL cfg (cfg.keep 11) 26) (cfg.keep 11) 26 seqL blockL (sub (bodyOf Tryd.f11) [1, 1, 0, 1, 0, 0, 1]) (seqL (fun k al H => LPL cfg (cfg.keep 11) 26 (sub (bodyOf Tryd.f11) [1, 1, 0, 1, 0, 0]) k (trimL (cfg.keep 11) (sub (bodyOf Tryd.f11) [1, 1, 0, 1, 0, 0]) al) H) (blockL 0 (R21_Same_K1 H0))) [(0, x0), (1, x1), (5, x5)] H
noncomputable def R21_Same_L1 (x0 x1 x5 : AV) (H0 H : Hp) : Res := LPL cfg (cfg.keep 11) 26 (sub (bodyOf Tryd.f11) [1, 1, 0, 1, 0, 0]) (blockL 0 (R21_Same_K1 H0)) [(0, x0), (1, x1), (5, x5)] H
noncomputable def R21_Same_J1 (x0 x1 : AV) (H0 H : Hp) : Res := CXL cfg (callw cfg) (LPL cfg (cfg.keep 11) 26) (cfg.keep 11) 26 seqL blockL (sub (bodyOf Tryd.f11) [1, 1]) (retL cfg 26 11 Tryd.f11 H0) [(0, x0), (1, x1)] H
noncomputable def F_R21_Same (p0 p1 : AV) (H : Hp) : Res :=
  bnd (alenD (.slice 9) p0) fun t7 =>
  bnd (alenD (.slice 9) p1) fun t9 =>
  bnd (ibin .neq t7 t9) fun t10 =>
  cnd t10
    (some ((.bool false), H))
    (R21_Same_J1 p0 p1 H H)
theorem R21_Same_J2_eq (H0 H : Hp) : R21_Same_J2 H0 H =
    some ((.bool true), H) := (CXM_eq [3, 5, 6, 8] _ _ _ _).trans (by kernel_rfl)
theorem R21_Same_J4_eq (x0 x1 x5 : AV) (H0 H : Hp) : R21_Same_J4 x0 x1 x5 H0 H =
    bnd (ibin .add x5 (.int .i64 1)) fun t16 =>
    R21_Same_L1 x0 x1 t16 H0 H := (CXM_eq [3, 5, 6, 8] _ _ _ _).trans (by kernel_rfl)
theorem R21_Same_J3_eq (x0 x1 x5 : AV) (H0 H : Hp) : R21_Same_J3 x0 x1 x5 H0 H =
    bnd (aindexS 1 x0 x5) fun t19 =>
    bnd (aload false 1 t19 H) fun t20 =>
    bnd (aindexS 1 x1 x5) fun t23 =>
    bnd (aload false 1 t23 H) fun t24 =>
    bnd (sbin .neq t20 t24) fun t25 =>
    cnd t25
      (some ((.bool false), H))
      (R21_Same_J4 x0 x1 x5 H0 H) := (CXM_eq [3, 5, 6, 8] _ _ _ _).trans (by kernel_rfl)
theorem R21_Same_L1_eq (x0 x1 x5 : AV) (H0 H : Hp) : R21_Same_L1 x0 x1 x5 H0 H =
    bnd (alenD (.slice 9) x0) fun t13 =>
    bnd (ibin .lss x5 t13) fun t14 =>
    cnd t14
      (R21_Same_J3 x0 x1 x5 H0 H)
      (R21_Same_J2 H0 H) := (LPL_eqm (C := cfg) [3, 5, 6, 8] (tame_block 0 (R21_Same_K1_tame H0)) _ _).trans (by kernel_rfl)
theorem R21_Same_J1_eq (x0 x1 : AV) (H0 H : Hp) : R21_Same_J1 x0 x1 H0 H =
    R21_Same_L1 x0 x1 (.int .i64 0) H0 H := (CXM_eq [3, 5, 6, 8] _ _ _ _).trans (by kernel_rfl)
theorem F_R21_Same_eq (p0 p1 : AV) (H : Hp) : C_R21_Same [p0, p1] H = F_R21_Same p0 p1 H := (callw_cxm (C := cfg) (fn := Tryd.f11) (c := bodyOf Tryd.f11) (n := 26) [3, 5, 6, 8] Tryd.func11 (by kernel_rfl) (by kernel_rfl) [p0, p1] (by kernel_rfl) H).trans (by kernel_rfl)

noncomputable def L21_all_J1 (x3 : AV) (H0 H : Hp) : Res := CXL cfg (callw cfg) (LPL cfg (cfg.keep 15) 18) (cfg.keep 15) 18 seqL blockL (sub (bodyOf Tryd.f15) [1, 1, 1]) (retL cfg 18 15 Tryd.f15 H0) [(3, x3)] H
noncomputable def L21_all_K1 (H0 : Hp) : KL := seqL (fun k al H => CXL cfg (callw cfg) (LPL cfg (cfg.keep 15) 18) (cfg.keep 15) 18 seqL blockL (sub (bodyOf Tryd.f15) [1, 1, 1]) k (trimL (cfg.keep 15) (sub (bodyOf Tryd.f15) [1, 1, 1]) al) H) (retL cfg 18 15 Tryd.f15 H0)
theorem L21_all_K1_tame (H0 : Hp) : Tame 18 (L21_all_K1 H0) := tame_seq (C := cfg) (kp := cfg.keep 15) (sub (bodyOf Tryd.f15) [1, 1, 1]) (tame_ret 15 Tryd.f15 H0)
noncomputable def L21_all_J3 (x0 x3 x4 : AV) (H0 H : Hp) : Res := CXL cfg (callw cfg) (LPL cfg (cfg.keep 15) 18) (cfg.keep 15) 18 seqL blockL (sub (bodyOf Tryd.f15) [1, 1, 0, 1, 0, 0, 1, 1]) (seqL (fun k al H => LPL cfg (cfg.keep 15) 18 (sub (bodyOf Tryd.f15) [1, 1, 0, 1, 0, 0]) k (trimL (cfg.keep 15) (sub (bodyOf Tryd.f15) [1, 1, 0, 1, 0, 0]) al) H) (blockL 0 (L21_all_K1 H0))) [(0, x0), (3, x3), (4, x4)] H
noncomputable def L21_all_J2 (x0 x3 x4 : AV) (H0 H : Hp) : Res := CXL cfg (callw cfg) (LPL cfg (cfg.keep 15) 18) (cfg.keep 15) 18 seqL blockL (sub (bodyOf Tryd.f15) [1, 1, 0, 1, 0, 0, 1]) (seqL (fun k al H => LPL cfg (cfg.keep 15) 18 (sub (bodyOf Tryd.f15) [1, 1, 0, 1, 0, 0]) k (trimL (cfg.keep 15) (sub (bodyOf Tryd.f15) [1, 1, 0, 1, 0, 0]) al) H) (blockL 0 (L21_all_K1 H0))) [(0, x0), (3, x3), (4, x4)] H
noncomputable def L21_all_L1 (x0 x3 x4 : AV) (H0 H : Hp) : Res := LPL cfg (cfg.keep 15) 18 (sub (bodyOf Tryd.f15) [1, 1, 0, 1, 0, 0]) (blockL 0 (L21_all_K1 H0)) [(0, x0), (3, x3), (4, x4)] H
noncomputable def F_L21_all (p0 : AV) (H : Hp) : Res :=
  L21_all_L1 p0 .nils (.int .i64 0) H H
theorem L21_all_J1_eq (x3 : AV) (H0 H : Hp) : L21_all_J1 x3 H0 H =
    some (x3, H) := (CXM_eq [4, 5, 6] _ _ _ _).trans (by kernel_rfl)
theorem L21_all_J3_eq (x0 x3 x4 : AV) (H0 H : Hp) : L21_all_J3 x0 x3 x4 H0 H =
    bnd (ibin .add x4 (.int .i64 1)) fun t10 =>
    L21_all_L1 x0 x3 t10 H0 H := (CXM_eq [4, 5, 6] _ _ _ _).trans (by kernel_rfl)
theorem L21_all_J2_eq (x0 x3 x4 : AV) (H0 H : Hp) : L21_all_J2 x0 x3 x4 H0 H =
    bnd (aindexS 1 x0 x4) fun t14 =>
    bnd (aload false 1 t14 H) fun t15 =>
    bnd (aappE 1 16 x3 t15 H) fun r16 =>
    L21_all_J3 x0 r16.1 x4 H0 r16.2 := (CXM_eq [4, 5, 6] _ _ _ _).trans (by kernel_rfl)
theorem L21_all_L1_eq (x0 x3 x4 : AV) (H0 H : Hp) : L21_all_L1 x0 x3 x4 H0 H =
    bnd (alenD (.slice 30) x0) fun t7 =>
    bnd (ibin .lss x4 t7) fun t8 =>
    cnd t8
      (L21_all_J2 x0 x3 x4 H0 H)
      (L21_all_J1 x3 H0 H) := (LPL_eqm (C := cfg) [4, 5, 6] (tame_block 0 (L21_all_K1_tame H0)) _ _).trans (by kernel_rfl)
theorem F_L21_all_eq (p0 : AV) (H : Hp) : C_L21_all [p0] H = F_L21_all p0 H := (callw_cxm (C := cfg) (fn := Tryd.f15) (c := bodyOf Tryd.f15) (n := 18) [4, 5, 6] Tryd.func15 (by kernel_rfl) (by kernel_rfl) [p0] (by kernel_rfl) H).trans (by kernel_rfl)

noncomputable def memsort_Merge_J3 (x9 : AV) (H0 H : Hp) : Res := CXL cfg (callw cfg) (LPL cfg (cfg.keep 16) 50) (cfg.keep 16) 50 seqL blockL (sub (bodyOf Tryd.f16) [1, 1, 1, 1, 1, 1, 1]) (retL cfg 50 16 Tryd.f16 H0) [(9, x9)] H
noncomputable def memsort_Merge_J2 (x3 x4 x9 : AV) (H0 H : Hp) : Res := CXL cfg (callw cfg) (LPL cfg (cfg.keep 16) 50) (cfg.keep 16) 50 seqL blockL (sub (bodyOf Tryd.f16) [1, 1, 1, 1, 1, 1]) (retL cfg 50 16 Tryd.f16 H0) [(3, x3), (4, x4), (9, x9)] H
noncomputable def memsort_Merge_K1 (H0 : Hp) : KL := seqL (fun k al H => CXL cfg (callw cfg) (LPL cfg (cfg.keep 16) 50) (cfg.keep 16) 50 seqL blockL (sub (bodyOf Tryd.f16) [1, 1, 1, 1, 1, 1]) k (trimL (cfg.keep 16) (sub (bodyOf Tryd.f16) [1, 1, 1, 1, 1, 1]) al) H) (retL cfg 50 16 Tryd.f16 H0)
theorem memsort_Merge_K1_tame (H0 : Hp) : Tame 50 (memsort_Merge_K1 H0) := tame_seq (C := cfg) (kp := cfg.keep 16) (sub (bodyOf Tryd.f16) [1, 1, 1, 1, 1, 1]) (tame_ret 16 Tryd.f16 H0)
noncomputable def memsort_Merge_J5 (x3 x4 x7 x8 x9 : AV) (H0 H : Hp) : Res := CXL cfg (callw cfg) (LPL cfg (cfg.keep 16) 50) (cfg.keep 16) 50 seqL blockL (sub (bodyOf Tryd.f16) [1, 1, 1, 1, 1, 0, 1, 0, 0, 1, 1]) (seqL (fun k al H => LPL cfg (cfg.keep 16) 50 (sub (bodyOf Tryd.f16) [1, 1, 1, 1, 1, 0, 1, 0, 0]) k (trimL (cfg.keep 16) (sub (bodyOf Tryd.f16) [1, 1, 1, 1, 1, 0, 1, 0, 0]) al) H) (blockL 0 (memsort_Merge_K1 H0))) [(3, x3), (4, x4), (7, x7), (8, x8), (9, x9)] H
noncomputable def memsort_Merge_J4 (x3 x4 x7 x8 x9 x10 : AV) (H0 H : Hp) : Res := CXL cfg (callw cfg) (LPL cfg (cfg.keep 16) 50) (cfg.keep 16) 50 seqL blockL (sub (bodyOf Tryd.f16) [1, 1, 1, 1, 1, 0, 1, 0, 0, 1]) (seqL (fun k al H => LPL cfg (cfg.keep 16) 50 (sub (bodyOf Tryd.f16) [1, 1, 1, 1, 1, 0, 1, 0, 0]) k (trimL (cfg.keep 16) (sub (bodyOf Tryd.f16) [1, 1, 1, 1, 1, 0, 1, 0, 0]) al) H) (blockL 0 (memsort_Merge_K1 H0))) [(3, x3), (4, x4), (7, x7), (8, x8), (9, x9), (10, x10)] H
noncomputable def memsort_Merge_L1 (x3 x4 x7 x8 x9 x10 : AV) (H0 H : Hp) : Res := LPL cfg (cfg.keep 16) 50 (sub (bodyOf Tryd.f16) [1, 1, 1, 1, 1, 0, 1, 0, 0]) (blockL 0 (memsort_Merge_K1 H0)) [(3, x3), (4, x4), (7, x7), (8, x8), (9, x9), (10, x10)] H
noncomputable def memsort_Merge_J1 (x2 x3 x4 : AV) (H0 H : Hp) : Res := CXL cfg (callw cfg) (LPL cfg (cfg.keep 16) 50) (cfg.keep 16) 50 seqL blockL (sub (bodyOf Tryd.f16) [1, 1]) (retL cfg 50 16 Tryd.f16 H0) [(2, x2), (3, x3), (4, x4)] H
noncomputable def F_memsort_Merge (p0 p1 p2 : AV) (H : Hp) : Res :=
  bnd (abox p0 H) fun r3 =>
  bnd (abox p1 r3.2) fun r4 =>
  bnd (aload true 5 r4.1 r4.2) fun t11 =>
  bnd (flatC C_sortkey_Check [t11] r4.2) fun r12 =>
  bnd (ibin .neq r12.1 (.int .i64 0)) fun t13 =>
  cnd t13
    (bnd (C_slices_Concat_of_string_string [p2] r12.2) fun r15 =>
    leaveP H r15.1 r15.2)
    (memsort_Merge_J1 p2 r3.1 r4.1 H r12.2)
theorem memsort_Merge_J3_eq (x9 : AV) (H0 H : Hp) : memsort_Merge_J3 x9 H0 H =
    leaveP H0 x9 H := (CXM_eq [3, 8, 9, 11, 13] _ _ _ _).trans (by kernel_rfl)
theorem memsort_Merge_J2_eq (x3 x4 x9 : AV) (H0 H : Hp) : memsort_Merge_J2 x3 x4 x9 H0 H =
    bnd (afield 3 x4) fun t44 =>
    bnd (aload false 1 t44 H) fun t45 =>
    cnd t45
      (bnd (some (.fn (.func 35) [] [x3, x4])) fun t47 =>
      bnd (flatC C_memsort_once_of_string [x9, t47] H) fun r48 =>
      memsort_Merge_J3 r48.1 H0 r48.2)
      (memsort_Merge_J3 x9 H0 H) := (CXM_eq [3, 8, 9, 11, 13] _ _ _ _).trans (by kernel_rfl)
theorem memsort_Merge_J5_eq (x3 x4 x7 x8 x9 : AV) (H0 H : Hp) : memsort_Merge_J5 x3 x4 x7 x8 x9 H0 H =
    bnd (C_memsort_least [x8, x7] H) fun r26 =>
    memsort_Merge_L1 x3 x4 x7 x8 x9 r26.1 H0 r26.2 := (CXM_eq [3, 8, 9, 11, 13] _ _ _ _).trans (by kernel_rfl)
theorem memsort_Merge_J4_eq (x3 x4 x7 x8 x9 x10 : AV) (H0 H : Hp) : memsort_Merge_J4 x3 x4 x7 x8 x9 x10 H0 H =
    bnd (aindexS 1 x8 x10) fun t30 =>
    bnd (aload false 1 t30 H) fun t31 =>
    bnd (aindexS 1 t31 (.int .i64 0)) fun t32 =>
    bnd (aload false 1 t32 H) fun t33 =>
    bnd ((setElems 1 [(0, t33)] [(.str [])]).map (.vs 1 .clip)) fun t34 =>
    bnd (aappE 1 16 x9 t34 H) fun r35 =>
    bnd (aindexS 1 x8 x10) fun t40 =>
    bnd (aload false 1 t40 r35.2) fun t41 =>
    bnd (asliceV 1 t41 (some (.int .i64 1)) none none) fun t42 =>
    bnd (aindexS 1 x8 x10) fun t43 =>
    bnd (astoreU 1 t43 t42 r35.2) fun r_23 =>
    memsort_Merge_J5 x3 x4 x7 x8 r35.1 H0 r_23.2 := (CXM_eq [3, 8, 9, 11, 13] _ _ _ _).trans (by kernel_rfl)
theorem memsort_Merge_L1_eq (x3 x4 x7 x8 x9 x10 : AV) (H0 H : Hp) : memsort_Merge_L1 x3 x4 x7 x8 x9 x10 H0 H =
    bnd (ibin .geq x10 (.int .i64 0)) fun t23 =>
    cnd t23
      (memsort_Merge_J4 x3 x4 x7 x8 x9 x10 H0 H)
      (memsort_Merge_J2 x3 x4 x9 H0 H) := (LPL_eqm (C := cfg) [3, 8, 9, 11, 13] (tame_block 0 (memsort_Merge_K1_tame H0)) _ _).trans (by kernel_rfl)
theorem memsort_Merge_J1_eq (x2 x3 x4 : AV) (H0 H : Hp) : memsort_Merge_J1 x2 x3 x4 H0 H =
    frzK x3 H fun z3 z3H =>
    frzK x4 z3H fun z4 z4H =>
    bnd (some (.fn (.func 32) [] [z3, z4])) fun t16 =>
    bnd (C_slices_Clone_of_string_string_ [x2] z4H) fun r18 =>
    bnd (C_memsort_least [r18.1, t16] r18.2) fun r21 =>
    memsort_Merge_L1 z3 z4 t16 r18.1 .nils r21.1 H0 r21.2 := (CXM_eq [3, 8, 9, 11, 13] _ _ _ _).trans (by kernel_rfl)
theorem F_memsort_Merge_eq (p0 p1 p2 : AV) (H : Hp) : C_memsort_Merge [p0, p1, p2] H = F_memsort_Merge p0 p1 p2 H := (callw_cxm (C := cfg) (fn := Tryd.f16) (c := bodyOf Tryd.f16) (n := 50) [3, 8, 9, 11, 13] Tryd.func16 (by kernel_rfl) (by kernel_rfl) [p0, p1, p2] (by kernel_rfl) H).trans (by kernel_rfl)

noncomputable def F_L07_Light (p0 : AV) (H : Hp) : Res :=
  bnd (abox p0 H) fun r1 =>
  bnd (afield 1 r1.1) fun t3 =>
  bnd (aload false 1 t3 r1.2) fun t4 =>
  bnd (alenD (.slice 3) t4) fun t5 =>
  bnd (ibin .leq t5 (.int .i64 300)) fun t6 =>
  bnd (gdv t6 true (.tuple []) (afield 2 r1.1)) fun t8 =>
  bnd (gdv t6 true (.tuple []) (aload false 1 t8 r1.2)) fun t9 =>
  bnd (gdv t6 true (.tuple []) (alenD .string t9)) fun t10 =>
  bnd (gdv t6 true (.tuple []) (ibin .leq t10 (.int .i64 300))) fun t11 =>
  bnd (apick t6 t11 (.bool false)) fun t12 =>
  bnd (gdv t12 true (.tuple []) (afield 3 r1.1)) fun t14 =>
  bnd (gdv t12 true (.tuple []) (aload false 1 t14 r1.2)) fun t15 =>
  bnd (gdv t12 true (.tuple []) (alenD .string t15)) fun t16 =>
  bnd (gdv t12 true (.tuple []) (ibin .leq t16 (.int .i64 300))) fun t17 =>
  bnd (apick t12 t17 (.bool false)) fun t18 =>
  bnd (gdv t18 true (.tuple []) (afield 4 r1.1)) fun t20 =>
  bnd (gdv t18 true (.tuple []) (aload false 1 t20 r1.2)) fun t21 =>
  bnd (gdv t18 true (.tuple []) (alenD (.slice 129) t21)) fun t22 =>
  bnd (gdv t18 true (.tuple []) (ibin .leq t22 (.int .i64 30))) fun t23 =>
  bnd (apick t18 t23 (.bool false)) fun t24 =>
  bnd (gdv t24 true (.tuple []) (afield 5 r1.1)) fun t26 =>
  bnd (gdv t24 true (.tuple []) (aload false 1 t26 r1.2)) fun t27 =>
  bnd (gdv t24 true (.tuple []) (alenD (.slice 90) t27)) fun t28 =>
  bnd (gdv t24 true (.tuple []) (ibin .leq t28 (.int .i64 70))) fun t29 =>
  bnd (apick t24 t29 (.bool false)) fun t30 =>
  some (t30, r1.2)
theorem F_L07_Light_eq (p0 : AV) (H : Hp) : C_L07_Light [p0] H = F_L07_Light p0 H := (callw_cxm (C := cfg) (fn := Tryd.f17) (c := bodyOf Tryd.f17) (n := 31) [] Tryd.func17 (by kernel_rfl) (by kernel_rfl) [p0] (by kernel_rfl) H).trans (by kernel_rfl)

noncomputable def slices_Clone_of_string_string_J1 (x0 : AV) (H0 H : Hp) : Res := CXL cfg (callw cfg) (LPL cfg (cfg.keep 20) 8) (cfg.keep 20) 8 seqL blockL (sub (bodyOf Tryd.f20) [1, 1]) (retL cfg 8 20 Tryd.f20 H0) [(0, x0)] H
noncomputable def F_slices_Clone_of_string_string (p0 : AV) (H : Hp) : Res :=
  bnd (ebin (.slice 9) .eql p0 .nils) fun t4 =>
  cnd t4
    (some (.nils, H))
    (slices_Clone_of_string_string_J1 p0 H H)
theorem slices_Clone_of_string_string_J1_eq (x0 : AV) (H0 H : Hp) : slices_Clone_of_string_string_J1 x0 H0 H =
    bnd ((setElems 1 [] []).map (.vs 1 .clip)) fun t5 =>
    bnd (aappE 1 16 t5 x0 H) fun r7 =>
    some (r7.1, r7.2) := (CXM_eq [3] _ _ _ _).trans (by kernel_rfl)
theorem F_slices_Clone_of_string_string_eq (p0 : AV) (H : Hp) : C_slices_Clone_of_string_string [p0] H = F_slices_Clone_of_string_string p0 H := (callw_cxm (C := cfg) (fn := Tryd.f20) (c := bodyOf Tryd.f20) (n := 8) [3] Tryd.func20 (by kernel_rfl) (by kernel_rfl) [p0] (by kernel_rfl) H).trans (by kernel_rfl)

noncomputable def memsort_mergeSort_of_string_J2 (x6 x7 x8 : AV) (H0 H : Hp) : Res := CXL cfg (callw cfg) (LPL cfg (cfg.keep 21) 67) (cfg.keep 21) 67 seqL blockL (sub (bodyOf Tryd.f21) [1, 1, 1, 1, 1, 1]) (retL cfg 67 21 Tryd.f21 H0) [(6, x6), (7, x7), (8, x8)] H
noncomputable def memsort_mergeSort_of_string_K1 (H0 : Hp) : KL := seqL (fun k al H => CXL cfg (callw cfg) (LPL cfg (cfg.keep 21) 67) (cfg.keep 21) 67 seqL blockL (sub (bodyOf Tryd.f21) [1, 1, 1, 1, 1, 1]) k (trimL (cfg.keep 21) (sub (bodyOf Tryd.f21) [1, 1, 1, 1, 1, 1]) al) H) (retL cfg 67 21 Tryd.f21 H0)
theorem memsort_mergeSort_of_string_K1_tame (H0 : Hp) : Tame 67 (memsort_mergeSort_of_string_K1 H0) := tame_seq (C := cfg) (kp := cfg.keep 21) (sub (bodyOf Tryd.f21) [1, 1, 1, 1, 1, 1]) (tame_ret 21 Tryd.f21 H0)
noncomputable def memsort_mergeSort_of_string_J3 (x1 x6 x7 x8 : AV) (H0 H : Hp) : Res := CXL cfg (callw cfg) (LPL cfg (cfg.keep 21) 67) (cfg.keep 21) 67 seqL blockL (sub (bodyOf Tryd.f21) [1, 1, 1, 1, 1, 0, 0, 0, 1]) (seqL (fun k al H => LPL cfg (cfg.keep 21) 67 (sub (bodyOf Tryd.f21) [1, 1, 1, 1, 1, 0, 0, 0]) k (trimL (cfg.keep 21) (sub (bodyOf Tryd.f21) [1, 1, 1, 1, 1, 0, 0, 0]) al) H) (blockL 0 (memsort_mergeSort_of_string_K1 H0))) [(1, x1), (6, x6), (7, x7), (8, x8)] H
noncomputable def memsort_mergeSort_of_string_L1 (x1 x6 x7 x8 : AV) (H0 H : Hp) : Res := LPL cfg (cfg.keep 21) 67 (sub (bodyOf Tryd.f21) [1, 1, 1, 1, 1, 0, 0, 0]) (blockL 0 (memsort_mergeSort_of_string_K1 H0)) [(1, x1), (6, x6), (7, x7), (8, x8)] H
noncomputable def memsort_mergeSort_of_string_J1 (x0 x1 : AV) (H0 H : Hp) : Res := CXL cfg (callw cfg) (LPL cfg (cfg.keep 21) 67) (cfg.keep 21) 67 seqL blockL (sub (bodyOf Tryd.f21) [1, 1]) (retL cfg 67 21 Tryd.f21 H0) [(0, x0), (1, x1)] H
noncomputable def F_memsort_mergeSort_of_string (p0 p1 : AV) (H : Hp) : Res :=
  bnd (alenD (.slice 9) p0) fun t10 =>
  bnd (ibin .lss t10 (.int .i64 2)) fun t11 =>
  cnd t11
    (bnd (flatC C_slices_Clone_of_string_string [p0] H) fun r13 =>
    some (r13.1, r13.2))
    (memsort_mergeSort_of_string_J1 p0 p1 H H)
theorem memsort_mergeSort_of_string_J2_eq (x6 x7 x8 : AV) (H0 H : Hp) : memsort_mergeSort_of_string_J2 x6 x7 x8 H0 H =
    bnd (aappE 1 16 x8 x6 H) fun r64 =>
    bnd (aappE 1 16 r64.1 x7 r64.2) fun r66 =>
    some (r66.1, r66.2) := (CXM_eq [3, 7, 12] _ _ _ _).trans (by kernel_rfl)
theorem memsort_mergeSort_of_string_J3_eq (x1 x6 x7 x8 : AV) (H0 H : Hp) : memsort_mergeSort_of_string_J3 x1 x6 x7 x8 H0 H =
    bnd (aindexS 1 x6 (.int .i64 0)) fun t40 =>
    bnd (aload false 1 t40 H) fun t41 =>
    bnd (aindexS 1 x7 (.int .i64 0)) fun t43 =>
    bnd (aload false 1 t43 H) fun t44 =>
    bnd (acall cfg (callw cfg) x1 [t41, t44] H) fun r45 =>
    cnd r45.1
      (bnd (aindexS 1 x7 (.int .i64 0)) fun t48 =>
      bnd (aload false 1 t48 r45.2) fun t49 =>
      bnd ((setElems 1 [(0, t49)] [(.str [])]).map (.vs 1 .clip)) fun t50 =>
      bnd (aappE 1 16 x8 t50 r45.2) fun r51 =>
      bnd (asliceV 1 x7 (some (.int .i64 1)) none none) fun t53 =>
      memsort_mergeSort_of_string_L1 x1 x6 t53 r51.1 H0 r51.2)
      (bnd (aindexS 1 x6 (.int .i64 0)) fun t56 =>
      bnd (aload false 1 t56 r45.2) fun t57 =>
      bnd ((setElems 1 [(0, t57)] [(.str [])]).map (.vs 1 .clip)) fun t58 =>
      bnd (aappE 1 16 x8 t58 r45.2) fun r59 =>
      bnd (asliceV 1 x6 (some (.int .i64 1)) none none) fun t61 =>
      memsort_mergeSort_of_string_L1 x1 t61 x7 r59.1 H0 r59.2) := (CXM_eq [3, 7, 12] _ _ _ _).trans (by kernel_rfl)
theorem memsort_mergeSort_of_string_L1_eq (x1 x6 x7 x8 : AV) (H0 H : Hp) : memsort_mergeSort_of_string_L1 x1 x6 x7 x8 H0 H =
    bnd (alenD (.slice 9) x6) fun t31 =>
    bnd (ibin .gtr t31 (.int .i64 0)) fun t32 =>
    bnd (gdv t32 true (.tuple []) (some x7)) fun t34 =>
    bnd (gdv t32 true (.tuple []) (alenD (.slice 9) t34)) fun t35 =>
    bnd (gdv t32 true (.tuple []) (ibin .gtr t35 (.int .i64 0))) fun t36 =>
    bnd (apick t32 t36 (.bool false)) fun t37 =>
    cnd t37
      (memsort_mergeSort_of_string_J3 x1 x6 x7 x8 H0 H)
      (memsort_mergeSort_of_string_J2 x6 x7 x8 H0 H) := (LPL_eqm (C := cfg) [3, 7, 12] (tame_block 0 (memsort_mergeSort_of_string_K1_tame H0)) _ _).trans (by kernel_rfl)
theorem memsort_mergeSort_of_string_J1_eq (x0 x1 : AV) (H0 H : Hp) : memsort_mergeSort_of_string_J1 x0 x1 H0 H =
    bnd (alenD (.slice 9) x0) fun t15 =>
    bnd (ibin .quo t15 (.int .i64 2)) fun t16 =>
    bnd (asliceV 1 x0 none (some t16) none) fun t19 =>
    bnd (flatC C_memsort_mergeSort_of_string [t19, x1] H) fun r21 =>
    bnd (asliceV 1 x0 (some t16) none none) fun t24 =>
    bnd (flatC C_memsort_mergeSort_of_string [t24, x1] r21.2) fun r26 =>
    bnd (alenD (.slice 9) x0) fun t28 =>
    bnd (amake 1 16 false (.str []) (.int .i64 0) t28 r26.2) fun r29 =>
    memsort_mergeSort_of_string_L1 x1 r21.1 r26.1 r29.1 H0 r29.2 := (CXM_eq [3, 7, 12] _ _ _ _).trans (by kernel_rfl)
theorem F_memsort_mergeSort_of_string_eq (p0 p1 : AV) (H : Hp) : C_memsort_mergeSort_of_string [p0, p1] H = F_memsort_mergeSort_of_string p0 p1 H := (callw_cxm (C := cfg) (fn := Tryd.f21) (c := bodyOf Tryd.f21) (n := 67) [3, 7, 12] Tryd.func21 (by kernel_rfl) (by kernel_rfl) [p0, p1] (by kernel_rfl) H).trans (by kernel_rfl)

noncomputable def F_memsort_Sort_1 (p0 p1 p2 p3 : AV) (H : Hp) : Res :=
  bnd (aload true 6 p2 H) fun t7 =>
  bnd (aload true 5 p3 H) fun t8 =>
  bnd (flatC C_sortkey_Order [t7, t8, p0, p1] H) fun r11 =>
  bnd (ibin .gtr r11.1 (.int .i64 0)) fun t12 =>
  some (t12, r11.2)
theorem F_memsort_Sort_1_eq (p0 p1 p2 p3 : AV) (H : Hp) : C_memsort_Sort_1 [p0, p1, p2, p3] H = F_memsort_Sort_1 p0 p1 p2 p3 H := (callw_cxm (C := cfg) (fn := Tryd.f22) (c := bodyOf Tryd.f22) (n := 13) [] Tryd.func22 (by kernel_rfl) (by kernel_rfl) [p0, p1, p2, p3] (by kernel_rfl) H).trans (by kernel_rfl)

noncomputable def memsort_once_of_string_J1 (x5 : AV) (H0 H : Hp) : Res := CXL cfg (callw cfg) (LPL cfg (cfg.keep 24) 35) (cfg.keep 24) 35 seqL blockL (sub (bodyOf Tryd.f24) [1, 1, 1]) (retL cfg 35 24 Tryd.f24 H0) [(5, x5)] H
noncomputable def memsort_once_of_string_K1 (H0 : Hp) : KL := seqL (fun k al H => CXL cfg (callw cfg) (LPL cfg (cfg.keep 24) 35) (cfg.keep 24) 35 seqL blockL (sub (bodyOf Tryd.f24) [1, 1, 1]) k (trimL (cfg.keep 24) (sub (bodyOf Tryd.f24) [1, 1, 1]) al) H) (retL cfg 35 24 Tryd.f24 H0)
theorem memsort_once_of_string_K1_tame (H0 : Hp) : Tame 35 (memsort_once_of_string_K1 H0) := tame_seq (C := cfg) (kp := cfg.keep 24) (sub (bodyOf Tryd.f24) [1, 1, 1]) (tame_ret 24 Tryd.f24 H0)
noncomputable def memsort_once_of_string_J3 (x1 x5 x8 x9 x10 : AV) (H0 H : Hp) : Res := CXL cfg (callw cfg) (LPL cfg (cfg.keep 24) 35) (cfg.keep 24) 35 seqL blockL (sub (bodyOf Tryd.f24) [1, 1, 0, 1, 0, 0, 1, 1, 1]) (seqL (fun k al H => LPL cfg (cfg.keep 24) 35 (sub (bodyOf Tryd.f24) [1, 1, 0, 1, 0, 0]) k (trimL (cfg.keep 24) (sub (bodyOf Tryd.f24) [1, 1, 0, 1, 0, 0]) al) H) (blockL 0 (memsort_once_of_string_K1 H0))) [(1, x1), (5, x5), (8, x8), (9, x9), (10, x10)] H
noncomputable def memsort_once_of_string_J2 (x1 x5 x8 x9 x10 x11 : AV) (H0 H : Hp) : Res := CXL cfg (callw cfg) (LPL cfg (cfg.keep 24) 35) (cfg.keep 24) 35 seqL blockL (sub (bodyOf Tryd.f24) [1, 1, 0, 1, 0, 0, 1, 1]) (seqL (fun k al H => LPL cfg (cfg.keep 24) 35 (sub (bodyOf Tryd.f24) [1, 1, 0, 1, 0, 0]) k (trimL (cfg.keep 24) (sub (bodyOf Tryd.f24) [1, 1, 0, 1, 0, 0]) al) H) (blockL 0 (memsort_once_of_string_K1 H0))) [(1, x1), (5, x5), (8, x8), (9, x9), (10, x10), (11, x11)] H
noncomputable def memsort_once_of_string_L1 (x1 x5 x8 x9 x10 : AV) (H0 H : Hp) : Res := LPL cfg (cfg.keep 24) 35 (sub (bodyOf Tryd.f24) [1, 1, 0, 1, 0, 0]) (blockL 0 (memsort_once_of_string_K1 H0)) [(1, x1), (5, x5), (8, x8), (9, x9), (10, x10)] H
noncomputable def F_memsort_once_of_string (p0 p1 : AV) (H : Hp) : Res :=
  bnd (alenD (.slice 9) p0) fun t9 =>
  memsort_once_of_string_L1 p1 .nils p0 t9 (.int .i64 0) H H
theorem memsort_once_of_string_J1_eq (x5 : AV) (H0 H : Hp) : memsort_once_of_string_J1 x5 H0 H =
    some (x5, H) := (CXM_eq [4, 7, 8] _ _ _ _).trans (by kernel_rfl)
theorem memsort_once_of_string_J3_eq (x1 x5 x8 x9 x10 : AV) (H0 H : Hp) : memsort_once_of_string_J3 x1 x5 x8 x9 x10 H0 H =
    bnd (ibin .add x10 (.int .i64 1)) fun t33 =>
    memsort_once_of_string_L1 x1 x5 x8 x9 t33 H0 H := (CXM_eq [4, 7, 8] _ _ _ _).trans (by kernel_rfl)
theorem memsort_once_of_string_J2_eq (x1 x5 x8 x9 x10 x11 : AV) (H0 H : Hp) : memsort_once_of_string_J2 x1 x5 x8 x9 x10 x11 H0 H =
    bnd (aindexS 1 x8 x10) fun t12 =>
    bnd (aload false 1 t12 H) fun t13 =>
    bnd (alenD (.slice 9) x5) fun t15 =>
    bnd (ibin .eql t15 (.int .i64 0)) fun t16 =>
    bnd (gdv t16 false (.tuple []) (some x1)) fun t18 =>
    bnd (gdv t16 false (.tuple []) (some x5)) fun t19 =>
    bnd (gdv t16 false (.tuple []) (some x5)) fun t20 =>
    bnd (gdv t16 false (.tuple []) (alenD (.slice 9) t20)) fun t21 =>
    bnd (gdv t16 false (.tuple []) (ibin .sub t21 (.int .i64 1))) fun t22 =>
    bnd (gdv t16 false (.tuple []) (aindexS 1 t19 t22)) fun t23 =>
    bnd (gdv t16 false (.tuple []) (aload false 1 t23 H)) fun t24 =>
    bnd (gdv t16 false (.tuple []) (some t13)) fun t25 =>
    bnd (gdv t16 false ((.tuple []), H) (acall cfg (callw cfg) t18 [t24, t25] H)) fun r26 =>
    bnd (gdv t16 false (.tuple []) (aun .not r26.1)) fun t27 =>
    bnd (apick t16 (.bool true) t27) fun t28 =>
    cnd t28
      (bnd ((setElems 1 [(0, t13)] [(.str [])]).map (.vs 1 .clip)) fun t31 =>
      bnd (aappE 1 16 x5 t31 r26.2) fun r32 =>
      memsort_once_of_string_J3 x1 r32.1 x8 x9 x10 H0 r32.2)
      (memsort_once_of_string_J3 x1 x5 x8 x9 x10 H0 r26.2) := (CXM_eq [4, 7, 8] _ _ _ _).trans (by kernel_rfl)
theorem memsort_once_of_string_L1_eq (x1 x5 x8 x9 x10 : AV) (H0 H : Hp) : memsort_once_of_string_L1 x1 x5 x8 x9 x10 H0 H =
    bnd (ibin .lss x10 x9) fun t11 =>
    cnd t11
      (memsort_once_of_string_J2 x1 x5 x8 x9 x10 t11 H0 H)
      (memsort_once_of_string_J1 x5 H0 H) := (LPL_eqm (C := cfg) [4, 7, 8] (tame_block 0 (memsort_once_of_string_K1_tame H0)) _ _).trans (by kernel_rfl)
theorem F_memsort_once_of_string_eq (p0 p1 : AV) (H : Hp) : C_memsort_once_of_string [p0, p1] H = F_memsort_once_of_string p0 p1 H := (callw_cxm (C := cfg) (fn := Tryd.f24) (c := bodyOf Tryd.f24) (n := 35) [4, 7, 8] Tryd.func24 (by kernel_rfl) (by kernel_rfl) [p0, p1] (by kernel_rfl) H).trans (by kernel_rfl)

noncomputable def F_memsort_Sort_2 (p0 p1 p2 p3 : AV) (H : Hp) : Res :=
  bnd (aload true 6 p2 H) fun t7 =>
  bnd (aload true 5 p3 H) fun t8 =>
  bnd (flatC C_sortkey_Compare [t7, t8, p0, p1] H) fun r11 =>
  bnd (ibin .eql r11.1 (.int .i64 0)) fun t12 =>
  some (t12, r11.2)
theorem F_memsort_Sort_2_eq (p0 p1 p2 p3 : AV) (H : Hp) : C_memsort_Sort_2 [p0, p1, p2, p3] H = F_memsort_Sort_2 p0 p1 p2 p3 H := (callw_cxm (C := cfg) (fn := Tryd.f25) (c := bodyOf Tryd.f25) (n := 13) [] Tryd.func25 (by kernel_rfl) (by kernel_rfl) [p0, p1, p2, p3] (by kernel_rfl) H).trans (by kernel_rfl)

noncomputable def F_memsort_Merge_1 (p0 p1 p2 p3 : AV) (H : Hp) : Res :=
  bnd (aload true 6 p2 H) fun t7 =>
  bnd (aload true 5 p3 H) fun t8 =>
  bnd (flatC C_sortkey_Order [t7, t8, p0, p1] H) fun r11 =>
  bnd (ibin .gtr r11.1 (.int .i64 0)) fun t12 =>
  some (t12, r11.2)
theorem F_memsort_Merge_1_eq (p0 p1 p2 p3 : AV) (H : Hp) : C_memsort_Merge_1 [p0, p1, p2, p3] H = F_memsort_Merge_1 p0 p1 p2 p3 H := (callw_cxm (C := cfg) (fn := Tryd.f32) (c := bodyOf Tryd.f32) (n := 13) [] Tryd.func32 (by kernel_rfl) (by kernel_rfl) [p0, p1, p2, p3] (by kernel_rfl) H).trans (by kernel_rfl)

noncomputable def slices_Clone_of_string_string__J1 (x0 : AV) (H0 H : Hp) : Res := CXL cfg (callw cfg) (LPL cfg (cfg.keep 33) 8) (cfg.keep 33) 8 seqL blockL (sub (bodyOf Tryd.f33) [1, 1]) (retL cfg 8 33 Tryd.f33 H0) [(0, x0)] H
noncomputable def F_slices_Clone_of_string_string_ (p0 : AV) (H : Hp) : Res :=
  bnd (ebin (.slice 30) .eql p0 .nils) fun t4 =>
  cnd t4
    (some (.nils, H))
    (slices_Clone_of_string_string__J1 p0 H H)
theorem slices_Clone_of_string_string__J1_eq (x0 : AV) (H0 H : Hp) : slices_Clone_of_string_string__J1 x0 H0 H =
    bnd ((setElems 1 [] []).map (.vs 1 .clip)) fun t5 =>
    bnd (aappEL false 1 24 t5 x0 H) fun r7 =>
    some (r7.1, r7.2) := (CXM_eq [3] _ _ _ _).trans (by kernel_rfl)
theorem F_slices_Clone_of_string_string__eq (p0 : AV) (H : Hp) : C_slices_Clone_of_string_string_ [p0] H = F_slices_Clone_of_string_string_ p0 H := (callw_cxm (C := cfg) (fn := Tryd.f33) (c := bodyOf Tryd.f33) (n := 8) [3] Tryd.func33 (by kernel_rfl) (by kernel_rfl) [p0] (by kernel_rfl) H).trans (by kernel_rfl)

noncomputable def memsort_least_J1 (x5 : AV) (H0 H : Hp) : Res := CXL cfg (callw cfg) (LPL cfg (cfg.keep 34) 38) (cfg.keep 34) 38 seqL blockL (sub (bodyOf Tryd.f34) [1, 1, 1]) (retL cfg 38 34 Tryd.f34 H0) [(5, x5)] H
noncomputable def memsort_least_K1 (H0 : Hp) : KL := seqL (fun k al H => CXL cfg (callw cfg) (LPL cfg (cfg.keep 34) 38) (cfg.keep 34) 38 seqL blockL (sub (bodyOf Tryd.f34) [1, 1, 1]) k (trimL (cfg.keep 34) (sub (bodyOf Tryd.f34) [1, 1, 1]) al) H) (retL cfg 38 34 Tryd.f34 H0)
theorem memsort_least_K1_tame (H0 : Hp) : Tame 38 (memsort_least_K1 H0) := tame_seq (C := cfg) (kp := cfg.keep 34) (sub (bodyOf Tryd.f34) [1, 1, 1]) (tame_ret 34 Tryd.f34 H0)
noncomputable def memsort_least_J3 (x0 x1 x5 x8 x9 x10 : AV) (H0 H : Hp) : Res := CXL cfg (callw cfg) (LPL cfg (cfg.keep 34) 38) (cfg.keep 34) 38 seqL blockL (sub (bodyOf Tryd.f34) [1, 1, 0, 1, 0, 0, 1, 1, 1]) (seqL (fun k al H => LPL cfg (cfg.keep 34) 38 (sub (bodyOf Tryd.f34) [1, 1, 0, 1, 0, 0]) k (trimL (cfg.keep 34) (sub (bodyOf Tryd.f34) [1, 1, 0, 1, 0, 0]) al) H) (blockL 0 (memsort_least_K1 H0))) [(0, x0), (1, x1), (5, x5), (8, x8), (9, x9), (10, x10)] H
noncomputable def memsort_least_J2 (x0 x1 x5 x8 x9 x10 x11 : AV) (H0 H : Hp) : Res := CXL cfg (callw cfg) (LPL cfg (cfg.keep 34) 38) (cfg.keep 34) 38 seqL blockL (sub (bodyOf Tryd.f34) [1, 1, 0, 1, 0, 0, 1, 1]) (seqL (fun k al H => LPL cfg (cfg.keep 34) 38 (sub (bodyOf Tryd.f34) [1, 1, 0, 1, 0, 0]) k (trimL (cfg.keep 34) (sub (bodyOf Tryd.f34) [1, 1, 0, 1, 0, 0]) al) H) (blockL 0 (memsort_least_K1 H0))) [(0, x0), (1, x1), (5, x5), (8, x8), (9, x9), (10, x10), (11, x11)] H
noncomputable def memsort_least_L1 (x0 x1 x5 x8 x9 x10 : AV) (H0 H : Hp) : Res := LPL cfg (cfg.keep 34) 38 (sub (bodyOf Tryd.f34) [1, 1, 0, 1, 0, 0]) (blockL 0 (memsort_least_K1 H0)) [(0, x0), (1, x1), (5, x5), (8, x8), (9, x9), (10, x10)] H
noncomputable def F_memsort_least (p0 p1 : AV) (H : Hp) : Res :=
  bnd (alenD (.slice 30) p0) fun t9 =>
  memsort_least_L1 p0 p1 (.int .i64 (-1)) p0 t9 (.int .i64 0) H H
theorem memsort_least_J1_eq (x5 : AV) (H0 H : Hp) : memsort_least_J1 x5 H0 H =
    some (x5, H) := (CXM_eq [4, 7, 8] _ _ _ _).trans (by kernel_rfl)
theorem memsort_least_J3_eq (x0 x1 x5 x8 x9 x10 : AV) (H0 H : Hp) : memsort_least_J3 x0 x1 x5 x8 x9 x10 H0 H =
    bnd (ibin .add x10 (.int .i64 1)) fun t36 =>
    memsort_least_L1 x0 x1 x5 x8 x9 t36 H0 H := (CXM_eq [4, 7, 8] _ _ _ _).trans (by kernel_rfl)
theorem memsort_least_J2_eq (x0 x1 x5 x8 x9 x10 x11 : AV) (H0 H : Hp) : memsort_least_J2 x0 x1 x5 x8 x9 x10 x11 H0 H =
    bnd (aindexS 1 x8 x10) fun t13 =>
    bnd (aload false 1 t13 H) fun t14 =>
    bnd (alenD (.slice 9) t14) fun t16 =>
    bnd (ibin .gtr t16 (.int .i64 0)) fun t17 =>
    bnd (gdv t17 true (.tuple []) (some x5)) fun t19 =>
    bnd (gdv t17 true (.tuple []) (ibin .lss t19 (.int .i64 0))) fun t20 =>
    bnd (gdv t17 true (.tuple []) (some t20)) fun t21 =>
    bnd (gdv t21 false (.tuple []) (some x1)) fun t22 =>
    bnd (gdv t21 false (.tuple []) (some x0)) fun t23 =>
    bnd (gdv t21 false (.tuple []) (some x5)) fun t24 =>
    bnd (gdv t21 false (.tuple []) (aindexS 1 t23 t24)) fun t25 =>
    bnd (gdv t21 false (.tuple []) (aload false 1 t25 H)) fun t26 =>
    bnd (gdv t21 false (.tuple []) (aindexS 1 t26 (.int .i64 0))) fun t27 =>
    bnd (gdv t21 false (.tuple []) (aload false 1 t27 H)) fun t28 =>
    bnd (gdv t21 false (.tuple []) (some t14)) fun t29 =>
    bnd (gdv t21 false (.tuple []) (aindexS 1 t29 (.int .i64 0))) fun t30 =>
    bnd (gdv t21 false (.tuple []) (aload false 1 t30 H)) fun t31 =>
    bnd (gdv t21 false ((.tuple []), H) (acall cfg (callw cfg) t22 [t28, t31] H)) fun r32 =>
    bnd (gdv t17 true (.tuple []) (apick t21 (.bool true) r32.1)) fun t33 =>
    bnd (apick t17 t33 (.bool false)) fun t34 =>
    cnd t34
      (memsort_least_J3 x0 x1 x10 x8 x9 x10 H0 r32.2)
      (memsort_least_J3 x0 x1 x5 x8 x9 x10 H0 r32.2) := (CXM_eq [4, 7, 8] _ _ _ _).trans (by kernel_rfl)
theorem memsort_least_L1_eq (x0 x1 x5 x8 x9 x10 : AV) (H0 H : Hp) : memsort_least_L1 x0 x1 x5 x8 x9 x10 H0 H =
    bnd (ibin .lss x10 x9) fun t11 =>
    cnd t11
      (memsort_least_J2 x0 x1 x5 x8 x9 x10 t11 H0 H)
      (memsort_least_J1 x5 H0 H) := (LPL_eqm (C := cfg) [4, 7, 8] (tame_block 0 (memsort_least_K1_tame H0)) _ _).trans (by kernel_rfl)
theorem F_memsort_least_eq (p0 p1 : AV) (H : Hp) : C_memsort_least [p0, p1] H = F_memsort_least p0 p1 H := (callw_cxm (C := cfg) (fn := Tryd.f34) (c := bodyOf Tryd.f34) (n := 38) [4, 7, 8] Tryd.func34 (by kernel_rfl) (by kernel_rfl) [p0, p1] (by kernel_rfl) H).trans (by kernel_rfl)

noncomputable def F_memsort_Merge_2 (p0 p1 p2 p3 : AV) (H : Hp) : Res :=
  bnd (aload true 6 p2 H) fun t7 =>
  bnd (aload true 5 p3 H) fun t8 =>
  bnd (flatC C_sortkey_Compare [t7, t8, p0, p1] H) fun r11 =>
  bnd (ibin .eql r11.1 (.int .i64 0)) fun t12 =>
  some (t12, r11.2)
theorem F_memsort_Merge_2_eq (p0 p1 p2 p3 : AV) (H : Hp) : C_memsort_Merge_2 [p0, p1, p2, p3] H = F_memsort_Merge_2 p0 p1 p2 p3 H := (callw_cxm (C := cfg) (fn := Tryd.f35) (c := bodyOf Tryd.f35) (n := 13) [] Tryd.func35 (by kernel_rfl) (by kernel_rfl) [p0, p1, p2, p3] (by kernel_rfl) H).trans (by kernel_rfl)

end Go.Am
