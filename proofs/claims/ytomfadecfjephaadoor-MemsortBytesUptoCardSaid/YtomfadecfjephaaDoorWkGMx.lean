/-
  The functions of the translation over the abstract machine, a further part: written by program (wip/gen.py).
-/
import Derived.Test.YtomfadecfjephaaDoorWkGx
namespace Go.Am
open Go.Proofs
set_option maxRecDepth 100000
set_option linter.unusedVariables false
set_option linter.unusedSimpArgs false

noncomputable def L21_MemsortBytes_J3 (x0 x1 x6 : AV) (H0 H : Hp) : Res := CXL cfg (callw cfg) (LPL cfg (cfg.keep 4) 76) (cfg.keep 4) 76 seqL blockL (sub (bodyOf Tryd.f4) [1, 1, 1, 1, 1, 1]) (retL cfg 76 4 Tryd.f4 H0) [(0, x0), (1, x1), (6, x6)] H
noncomputable def L21_MemsortBytes_K1 (H0 : Hp) : KL := seqL (fun k al H => CXL cfg (callw cfg) (LPL cfg (cfg.keep 4) 76) (cfg.keep 4) 76 seqL blockL (sub (bodyOf Tryd.f4) [1, 1, 1, 1, 1, 1]) k (trimL (cfg.keep 4) (sub (bodyOf Tryd.f4) [1, 1, 1, 1, 1, 1]) al) H) (retL cfg 76 4 Tryd.f4 H0)
theorem L21_MemsortBytes_K1_tame (H0 : Hp) : Tame 76 (L21_MemsortBytes_K1 H0) := tame_seq (C := cfg) (kp := cfg.keep 4) (sub (bodyOf Tryd.f4) [1, 1, 1, 1, 1, 1]) (tame_ret 4 Tryd.f4 H0)
noncomputable def L21_MemsortBytes_J5 (x0 x1 x6 x8 : AV) (H0 H : Hp) : Res := CXL cfg (callw cfg) (LPL cfg (cfg.keep 4) 76) (cfg.keep 4) 76 seqL blockL (sub (bodyOf Tryd.f4) [1, 1, 1, 1, 1, 0, 1, 0, 0, 1, 1]) (seqL (fun k al H => LPL cfg (cfg.keep 4) 76 (sub (bodyOf Tryd.f4) [1, 1, 1, 1, 1, 0, 1, 0, 0]) k (trimL (cfg.keep 4) (sub (bodyOf Tryd.f4) [1, 1, 1, 1, 1, 0, 1, 0, 0]) al) H) (blockL 2 (L21_MemsortBytes_K1 H0))) [(0, x0), (1, x1), (6, x6), (8, x8)] H
noncomputable def L21_MemsortBytes_J4 (x0 x1 x6 x8 : AV) (H0 H : Hp) : Res := CXL cfg (callw cfg) (LPL cfg (cfg.keep 4) 76) (cfg.keep 4) 76 seqL blockL (sub (bodyOf Tryd.f4) [1, 1, 1, 1, 1, 0, 1, 0, 0, 1]) (seqL (fun k al H => LPL cfg (cfg.keep 4) 76 (sub (bodyOf Tryd.f4) [1, 1, 1, 1, 1, 0, 1, 0, 0]) k (trimL (cfg.keep 4) (sub (bodyOf Tryd.f4) [1, 1, 1, 1, 1, 0, 1, 0, 0]) al) H) (blockL 2 (L21_MemsortBytes_K1 H0))) [(0, x0), (1, x1), (6, x6), (8, x8)] H
noncomputable def L21_MemsortBytes_L1 (x0 x1 x6 x8 : AV) (H0 H : Hp) : Res := LPL cfg (cfg.keep 4) 76 (sub (bodyOf Tryd.f4) [1, 1, 1, 1, 1, 0, 1, 0, 0]) (blockL 2 (L21_MemsortBytes_K1 H0)) [(0, x0), (1, x1), (6, x6), (8, x8)] H
noncomputable def L21_MemsortBytes_J2 (x0 x1 x6 : AV) (H0 H : Hp) : Res := CXL cfg (callw cfg) (LPL cfg (cfg.keep 4) 76) (cfg.keep 4) 76 seqL blockL (sub (bodyOf Tryd.f4) [1, 1, 1, 1, 1]) (retL cfg 76 4 Tryd.f4 H0) [(0, x0), (1, x1), (6, x6)] H
noncomputable def L21_MemsortBytes_K2 (H0 : Hp) : KL := seqL (fun k al H => CXL cfg (callw cfg) (LPL cfg (cfg.keep 4) 76) (cfg.keep 4) 76 seqL blockL (sub (bodyOf Tryd.f4) [1, 1, 1, 1, 1]) k (trimL (cfg.keep 4) (sub (bodyOf Tryd.f4) [1, 1, 1, 1, 1]) al) H) (retL cfg 76 4 Tryd.f4 H0)
theorem L21_MemsortBytes_K2_tame (H0 : Hp) : Tame 76 (L21_MemsortBytes_K2 H0) := tame_seq (C := cfg) (kp := cfg.keep 4) (sub (bodyOf Tryd.f4) [1, 1, 1, 1, 1]) (tame_ret 4 Tryd.f4 H0)
noncomputable def L21_MemsortBytes_J7 (x0 x1 x6 x7 : AV) (H0 H : Hp) : Res := CXL cfg (callw cfg) (LPL cfg (cfg.keep 4) 76) (cfg.keep 4) 76 seqL blockL (sub (bodyOf Tryd.f4) [1, 1, 1, 1, 0, 1, 0, 0, 1, 1]) (seqL (fun k al H => LPL cfg (cfg.keep 4) 76 (sub (bodyOf Tryd.f4) [1, 1, 1, 1, 0, 1, 0, 0]) k (trimL (cfg.keep 4) (sub (bodyOf Tryd.f4) [1, 1, 1, 1, 0, 1, 0, 0]) al) H) (blockL 0 (L21_MemsortBytes_K2 H0))) [(0, x0), (1, x1), (6, x6), (7, x7)] H
noncomputable def L21_MemsortBytes_J6 (x0 x1 x6 x7 : AV) (H0 H : Hp) : Res := CXL cfg (callw cfg) (LPL cfg (cfg.keep 4) 76) (cfg.keep 4) 76 seqL blockL (sub (bodyOf Tryd.f4) [1, 1, 1, 1, 0, 1, 0, 0, 1]) (seqL (fun k al H => LPL cfg (cfg.keep 4) 76 (sub (bodyOf Tryd.f4) [1, 1, 1, 1, 0, 1, 0, 0]) k (trimL (cfg.keep 4) (sub (bodyOf Tryd.f4) [1, 1, 1, 1, 0, 1, 0, 0]) al) H) (blockL 0 (L21_MemsortBytes_K2 H0))) [(0, x0), (1, x1), (6, x6), (7, x7)] H
noncomputable def L21_MemsortBytes_L2 (x0 x1 x6 x7 : AV) (H0 H : Hp) : Res := LPL cfg (cfg.keep 4) 76 (sub (bodyOf Tryd.f4) [1, 1, 1, 1, 0, 1, 0, 0]) (blockL 0 (L21_MemsortBytes_K2 H0)) [(0, x0), (1, x1), (6, x6), (7, x7)] H
noncomputable def L21_MemsortBytes_J1 (x0 x1 x5 : AV) (H0 H : Hp) : Res := CXL cfg (callw cfg) (LPL cfg (cfg.keep 4) 76) (cfg.keep 4) 76 seqL blockL (sub (bodyOf Tryd.f4) [1, 1, 1]) (retL cfg 76 4 Tryd.f4 H0) [(0, x0), (1, x1), (5, x5)] H
noncomputable def F_L21_MemsortBytes (p0 p1 : AV) (H : Hp) : Res :=
  bnd ((afill [(1, 1, (.int .i64 (-1))), (3, 1, p1)] [.nils, (.int .i64 0), (.int .i64 0), (.bool false), (.bool false)]).map .agg) fun t10 =>
  bnd (some ((.ptr H.length 0), H ++ [.cells [.nils, (.int .i64 0), (.int .i64 0), (.bool false), (.bool false)]])) fun r5 =>
  bnd (astoreU 5 r5.1 t10 r5.2) fun r_3 =>
  bnd (flatC C_R05_Default [] r_3.2) fun r11 =>
  bnd (aload true 5 r5.1 r11.2) fun t12 =>
  bnd (flatC C_L21_few [r11.1, t12, p0] r11.2) fun r14 =>
  bnd (aun .not r14.1) fun t15 =>
  cnd t15
    (bnd (flatC C_L21_awake [] r14.2) fun r16 =>
    some (r16.1, r16.2))
    (L21_MemsortBytes_J1 p0 p1 r5.1 H r14.2)
theorem L21_MemsortBytes_J3_eq (x0 x1 x6 : AV) (H0 H : Hp) : L21_MemsortBytes_J3 x0 x1 x6 H0 H =
    bnd (gdv x1 false (.tuple []) (some x6)) fun t67 =>
    bnd (gdv x1 false (.tuple []) (alenD (.slice 9) t67)) fun t68 =>
    bnd (gdv x1 false (.tuple []) (some x0)) fun t69 =>
    bnd (gdv x1 false (.tuple []) (alenD (.slice 9) t69)) fun t70 =>
    bnd (gdv x1 false (.tuple []) (ibin .eql t68 t70)) fun t71 =>
    bnd (apick x1 (.bool true) t71) fun t72 =>
    bnd (gdv t72 true ((.tuple []), H) (flatC C_L21_awake [] H)) fun r74 =>
    bnd (apick t72 r74.1 (.bool false)) fun t75 =>
    some (t75, r74.2) := (CXM_eq [4, 7, 8, 10, 12, 13, 15] _ _ _ _).trans (by kernel_rfl)
theorem L21_MemsortBytes_J5_eq (x0 x1 x6 x8 : AV) (H0 H : Hp) : L21_MemsortBytes_J5 x0 x1 x6 x8 H0 H =
    bnd (ibin .add x8 (.int .i64 1)) fun t57 =>
    L21_MemsortBytes_L1 x0 x1 x6 t57 H0 H := (CXM_eq [4, 7, 8, 10, 12, 13, 15] _ _ _ _).trans (by kernel_rfl)
theorem L21_MemsortBytes_J4_eq (x0 x1 x6 x8 : AV) (H0 H : Hp) : L21_MemsortBytes_J4 x0 x1 x6 x8 H0 H =
    bnd (aindexS 1 x0 x8) fun t61 =>
    bnd (aload false 1 t61 H) fun t62 =>
    bnd (flatC C_L21_times [x6, t62] H) fun r63 =>
    bnd (ibin .eql r63.1 (.int .i64 0)) fun t64 =>
    cnd t64
      (some ((.bool false), r63.2))
      (L21_MemsortBytes_J5 x0 x1 x6 x8 H0 r63.2) := (CXM_eq [4, 7, 8, 10, 12, 13, 15] _ _ _ _).trans (by kernel_rfl)
theorem L21_MemsortBytes_L1_eq (x0 x1 x6 x8 : AV) (H0 H : Hp) : L21_MemsortBytes_L1 x0 x1 x6 x8 H0 H =
    bnd (alenD (.slice 9) x0) fun t54 =>
    bnd (ibin .lss x8 t54) fun t55 =>
    cnd t55
      (L21_MemsortBytes_J4 x0 x1 x6 x8 H0 H)
      (L21_MemsortBytes_J3 x0 x1 x6 H0 H) := (LPL_eqm (C := cfg) [4, 7, 8, 10, 12, 13, 15] (tame_block 2 (L21_MemsortBytes_K1_tame H0)) _ _).trans (by kernel_rfl)
theorem L21_MemsortBytes_J2_eq (x0 x1 x6 : AV) (H0 H : Hp) : L21_MemsortBytes_J2 x0 x1 x6 H0 H =
    L21_MemsortBytes_L1 x0 x1 x6 (.int .i64 0) H0 H := (CXM_eq [4, 7, 8, 10, 12, 13, 15] _ _ _ _).trans (by kernel_rfl)
theorem L21_MemsortBytes_J7_eq (x0 x1 x6 x7 : AV) (H0 H : Hp) : L21_MemsortBytes_J7 x0 x1 x6 x7 H0 H =
    bnd (ibin .add x7 (.int .i64 1)) fun t26 =>
    L21_MemsortBytes_L2 x0 x1 x6 t26 H0 H := (CXM_eq [4, 7, 8, 10, 12, 13, 15] _ _ _ _).trans (by kernel_rfl)
theorem L21_MemsortBytes_J6_eq (x0 x1 x6 x7 : AV) (H0 H : Hp) : L21_MemsortBytes_J6 x0 x1 x6 x7 H0 H =
    bnd (ibin .sub x7 (.int .i64 1)) fun t29 =>
    bnd (aindexS 1 x6 t29) fun t30 =>
    bnd (aload false 1 t30 H) fun t31 =>
    bnd (aindexS 1 x6 x7) fun t34 =>
    bnd (aload false 1 t34 H) fun t35 =>
    bnd (sbin .gtr t31 t35) fun t36 =>
    bnd (gdv t36 false (.tuple []) (some x1)) fun t38 =>
    bnd (gdv t36 false (.tuple []) (some t38)) fun t39 =>
    bnd (gdv t39 true (.tuple []) (some x6)) fun t40 =>
    bnd (gdv t39 true (.tuple []) (some x7)) fun t41 =>
    bnd (gdv t39 true (.tuple []) (ibin .sub t41 (.int .i64 1))) fun t42 =>
    bnd (gdv t39 true (.tuple []) (aindexS 1 t40 t42)) fun t43 =>
    bnd (gdv t39 true (.tuple []) (aload false 1 t43 H)) fun t44 =>
    bnd (gdv t39 true (.tuple []) (some x6)) fun t45 =>
    bnd (gdv t39 true (.tuple []) (some x7)) fun t46 =>
    bnd (gdv t39 true (.tuple []) (aindexS 1 t45 t46)) fun t47 =>
    bnd (gdv t39 true (.tuple []) (aload false 1 t47 H)) fun t48 =>
    bnd (gdv t39 true (.tuple []) (sbin .eql t44 t48)) fun t49 =>
    bnd (gdv t36 false (.tuple []) (apick t39 t49 (.bool false))) fun t50 =>
    bnd (apick t36 (.bool true) t50) fun t51 =>
    cnd t51
      (some ((.bool false), H))
      (L21_MemsortBytes_J7 x0 x1 x6 x7 H0 H) := (CXM_eq [4, 7, 8, 10, 12, 13, 15] _ _ _ _).trans (by kernel_rfl)
theorem L21_MemsortBytes_L2_eq (x0 x1 x6 x7 : AV) (H0 H : Hp) : L21_MemsortBytes_L2 x0 x1 x6 x7 H0 H =
    bnd (alenD (.slice 9) x6) fun t23 =>
    bnd (ibin .lss x7 t23) fun t24 =>
    cnd t24
      (L21_MemsortBytes_J6 x0 x1 x6 x7 H0 H)
      (L21_MemsortBytes_J2 x0 x1 x6 H0 H) := (LPL_eqm (C := cfg) [4, 7, 8, 10, 12, 13, 15] (tame_block 0 (L21_MemsortBytes_K2_tame H0)) _ _).trans (by kernel_rfl)
theorem L21_MemsortBytes_J1_eq (x0 x1 x5 : AV) (H0 H : Hp) : L21_MemsortBytes_J1 x0 x1 x5 H0 H =
    bnd (flatC C_R05_Default [] H) fun r17 =>
    bnd (aload true 5 x5 r17.2) fun t18 =>
    bnd (flatC C_memsort_Sort [r17.1, t18, x0] r17.2) fun r20 =>
    L21_MemsortBytes_L2 x0 x1 r20.1 (.int .i64 1) H0 r20.2 := (CXM_eq [4, 7, 8, 10, 12, 13, 15] _ _ _ _).trans (by kernel_rfl)
theorem F_L21_MemsortBytes_eq (p0 p1 : AV) (H : Hp) : C_L21_MemsortBytes [p0, p1] H = F_L21_MemsortBytes p0 p1 H := (callw_cxm (C := cfg) (fn := Tryd.f4) (c := bodyOf Tryd.f4) (n := 76) [4, 7, 8, 10, 12, 13, 15] Tryd.func4 (by kernel_rfl) (by kernel_rfl) [p0, p1] (by kernel_rfl) H).trans (by kernel_rfl)

noncomputable def L21_few_J2 (H0 H : Hp) : Res := CXL cfg (callw cfg) (LPL cfg (cfg.keep 6) 34) (cfg.keep 6) 34 seqL blockL (sub (bodyOf Tryd.f6) [1, 1, 1]) (retL cfg 34 6 Tryd.f6 H0) [] H
noncomputable def L21_few_K1 (H0 : Hp) : KL := seqL (fun k al H => CXL cfg (callw cfg) (LPL cfg (cfg.keep 6) 34) (cfg.keep 6) 34 seqL blockL (sub (bodyOf Tryd.f6) [1, 1, 1]) k (trimL (cfg.keep 6) (sub (bodyOf Tryd.f6) [1, 1, 1]) al) H) (retL cfg 34 6 Tryd.f6 H0)
theorem L21_few_K1_tame (H0 : Hp) : Tame 34 (L21_few_K1 H0) := tame_seq (C := cfg) (kp := cfg.keep 6) (sub (bodyOf Tryd.f6) [1, 1, 1]) (tame_ret 6 Tryd.f6 H0)
noncomputable def L21_few_J4 (x2 x7 : AV) (H0 H : Hp) : Res := CXL cfg (callw cfg) (LPL cfg (cfg.keep 6) 34) (cfg.keep 6) 34 seqL blockL (sub (bodyOf Tryd.f6) [1, 1, 0, 1, 0, 0, 1, 1]) (seqL (fun k al H => LPL cfg (cfg.keep 6) 34 (sub (bodyOf Tryd.f6) [1, 1, 0, 1, 0, 0]) k (trimL (cfg.keep 6) (sub (bodyOf Tryd.f6) [1, 1, 0, 1, 0, 0]) al) H) (blockL 0 (L21_few_K1 H0))) [(2, x2), (7, x7)] H
noncomputable def L21_few_J3 (x2 x7 : AV) (H0 H : Hp) : Res := CXL cfg (callw cfg) (LPL cfg (cfg.keep 6) 34) (cfg.keep 6) 34 seqL blockL (sub (bodyOf Tryd.f6) [1, 1, 0, 1, 0, 0, 1]) (seqL (fun k al H => LPL cfg (cfg.keep 6) 34 (sub (bodyOf Tryd.f6) [1, 1, 0, 1, 0, 0]) k (trimL (cfg.keep 6) (sub (bodyOf Tryd.f6) [1, 1, 0, 1, 0, 0]) al) H) (blockL 0 (L21_few_K1 H0))) [(2, x2), (7, x7)] H
noncomputable def L21_few_L1 (x2 x7 : AV) (H0 H : Hp) : Res := LPL cfg (cfg.keep 6) 34 (sub (bodyOf Tryd.f6) [1, 1, 0, 1, 0, 0]) (blockL 0 (L21_few_K1 H0)) [(2, x2), (7, x7)] H
noncomputable def L21_few_J1 (x2 : AV) (H0 H : Hp) : Res := CXL cfg (callw cfg) (LPL cfg (cfg.keep 6) 34) (cfg.keep 6) 34 seqL blockL (sub (bodyOf Tryd.f6) [1, 1]) (retL cfg 34 6 Tryd.f6 H0) [(2, x2)] H
noncomputable def F_L21_few (p0 p1 p2 : AV) (H : Hp) : Res :=
  bnd (abox p0 H) fun r3 =>
  bnd (abox p1 r3.2) fun r4 =>
  bnd (alenD (.slice 9) p2) fun t9 =>
  bnd (ibin .gtr t9 (.int .i64 30)) fun t10 =>
  bnd (gdv t10 false (.tuple []) (afield 0 r4.1)) fun t12 =>
  bnd (gdv t10 false (.tuple []) (aload false 1 t12 r4.2)) fun t13 =>
  bnd (gdv t10 false (.tuple []) (alenD (.slice 49) t13)) fun t14 =>
  bnd (gdv t10 false (.tuple []) (ibin .gtr t14 (.int .i64 12))) fun t15 =>
  bnd (apick t10 (.bool true) t15) fun t16 =>
  bnd (gdv t16 false (.tuple []) (aload true 6 r3.1 r4.2)) fun t18 =>
  bnd (gdv t16 false ((.tuple []), r4.2) (flatC C_L07_Light [t18] r4.2)) fun r19 =>
  bnd (gdv t16 false (.tuple []) (aun .not r19.1)) fun t20 =>
  bnd (apick t16 (.bool true) t20) fun t21 =>
  cnd t21
    (some ((.bool false), r19.2))
    (L21_few_J1 p2 H r19.2)
theorem L21_few_J2_eq (H0 H : Hp) : L21_few_J2 H0 H =
    some ((.bool true), H) := (CXM_eq [3, 5, 6, 8] _ _ _ _).trans (by kernel_rfl)
theorem L21_few_J4_eq (x2 x7 : AV) (H0 H : Hp) : L21_few_J4 x2 x7 H0 H =
    bnd (ibin .add x7 (.int .i64 1)) fun t27 =>
    L21_few_L1 x2 t27 H0 H := (CXM_eq [3, 5, 6, 8] _ _ _ _).trans (by kernel_rfl)
theorem L21_few_J3_eq (x2 x7 : AV) (H0 H : Hp) : L21_few_J3 x2 x7 H0 H =
    bnd (aindexS 1 x2 x7) fun t30 =>
    bnd (aload false 1 t30 H) fun t31 =>
    bnd (alenD .string t31) fun t32 =>
    bnd (ibin .gtr t32 (.int .i64 40)) fun t33 =>
    cnd t33
      (some ((.bool false), H))
      (L21_few_J4 x2 x7 H0 H) := (CXM_eq [3, 5, 6, 8] _ _ _ _).trans (by kernel_rfl)
theorem L21_few_L1_eq (x2 x7 : AV) (H0 H : Hp) : L21_few_L1 x2 x7 H0 H =
    bnd (alenD (.slice 9) x2) fun t24 =>
    bnd (ibin .lss x7 t24) fun t25 =>
    cnd t25
      (L21_few_J3 x2 x7 H0 H)
      (L21_few_J2 H0 H) := (LPL_eqm (C := cfg) [3, 5, 6, 8] (tame_block 0 (L21_few_K1_tame H0)) _ _).trans (by kernel_rfl)
theorem L21_few_J1_eq (x2 : AV) (H0 H : Hp) : L21_few_J1 x2 H0 H =
    L21_few_L1 x2 (.int .i64 0) H0 H := (CXM_eq [3, 5, 6, 8] _ _ _ _).trans (by kernel_rfl)
theorem F_L21_few_eq (p0 p1 p2 : AV) (H : Hp) : C_L21_few [p0, p1, p2] H = F_L21_few p0 p1 p2 H := (callw_cxm (C := cfg) (fn := Tryd.f6) (c := bodyOf Tryd.f6) (n := 34) [3, 5, 6, 8] Tryd.func6 (by kernel_rfl) (by kernel_rfl) [p0, p1, p2] (by kernel_rfl) H).trans (by kernel_rfl)

noncomputable def F_L21_awake (H : Hp) : Res :=
  bnd ((setElems 1 [(0, (.str [98])), (1, (.str [97])), (2, (.str [66]))] [(.str []), (.str []), (.str [])]).map (.vs 1 .clip)) fun t7 =>
  bnd ((afill [(1, 1, (.int .i64 (-1)))] [.nils, (.int .i64 0), (.int .i64 0), (.bool false), (.bool false)]).map .agg) fun t8 =>
  bnd (some ((.ptr H.length 0), H ++ [.cells [.nils, (.int .i64 0), (.int .i64 0), (.bool false), (.bool false)]])) fun r2 =>
  bnd (astoreU 5 r2.1 t8 r2.2) fun r_4 =>
  bnd ((afill [(1, 1, (.int .i64 (-1))), (2, 1, (.int .i64 4)), (4, 1, (.bool true))] [.nils, (.int .i64 0), (.int .i64 0), (.bool false), (.bool false)]).map .agg) fun t9 =>
  bnd (some ((.ptr r_4.2.length 0), r_4.2 ++ [.cells [.nils, (.int .i64 0), (.int .i64 0), (.bool false), (.bool false)]])) fun r3 =>
  bnd (astoreU 5 r3.1 t9 r3.2) fun r_7 =>
  bnd (flatC C_R05_Default [] r_7.2) fun r10 =>
  bnd (aload true 5 r2.1 r10.2) fun t11 =>
  bnd (flatC C_memsort_Sort [r10.1, t11, t7] r10.2) fun r13 =>
  bnd (flatC C_R05_Default [] r13.2) fun r14 =>
  bnd (aload true 5 r3.1 r14.2) fun t15 =>
  bnd (flatC C_memsort_Sort [r14.1, t15, t7] r14.2) fun r17 =>
  bnd (flatC C_R05_Default [] r17.2) fun r18 =>
  bnd (aload true 5 r2.1 r18.2) fun t19 =>
  bnd ((setElems 1 [(0, (.str [97])), (1, (.str [98])), (2, (.str [98])), (3, (.str [97]))] [(.str []), (.str []), (.str []), (.str [])]).map (.vs 1 .clip)) fun t20 =>
  bnd (flatC C_memsort_Unsorted [r18.1, t19, t20] r18.2) fun r21 =>
  bnd ((setElems 1 [(0, (.str [66])), (1, (.str [97])), (2, (.str [98]))] [(.str []), (.str []), (.str [])]).map (.vs 1 .clip)) fun t23 =>
  bnd (flatC C_R21_Same [r13.1, t23] r21.2) fun r24 =>
  bnd (gdv r24.1 true (.tuple []) (some r17.1)) fun t26 =>
  bnd (gdv r24.1 true (.tuple []) ((setElems 1 [(0, (.str [97])), (1, (.str [98])), (2, (.str [66]))] [(.str []), (.str []), (.str [])]).map (.vs 1 .clip))) fun t27 =>
  bnd (gdv r24.1 true ((.tuple []), r24.2) (flatC C_R21_Same [t26, t27] r24.2)) fun r28 =>
  bnd (apick r24.1 r28.1 (.bool false)) fun t29 =>
  bnd (gdv t29 true (.tuple []) (some r21.1)) fun t31 =>
  bnd (gdv t29 true (.tuple []) (ibin .eql t31 (.int .i64 3))) fun t32 =>
  bnd (apick t29 t32 (.bool false)) fun t33 =>
  some (t33, r28.2)
theorem F_L21_awake_eq (H : Hp) : C_L21_awake [] H = F_L21_awake H := (callw_cxm (C := cfg) (fn := Tryd.f8) (c := bodyOf Tryd.f8) (n := 34) [] Tryd.func8 (by kernel_rfl) (by kernel_rfl) [] (by kernel_rfl) H).trans (by kernel_rfl)

noncomputable def memsort_Sort_J2 (x7 : AV) (H0 H : Hp) : Res := CXL cfg (callw cfg) (LPL cfg (cfg.keep 9) 22) (cfg.keep 9) 22 seqL blockL (sub (bodyOf Tryd.f9) [1, 1, 1, 1]) (retL cfg 22 9 Tryd.f9 H0) [(7, x7)] H
noncomputable def memsort_Sort_J1 (x2 x3 x4 : AV) (H0 H : Hp) : Res := CXL cfg (callw cfg) (LPL cfg (cfg.keep 9) 22) (cfg.keep 9) 22 seqL blockL (sub (bodyOf Tryd.f9) [1, 1]) (retL cfg 22 9 Tryd.f9 H0) [(2, x2), (3, x3), (4, x4)] H
noncomputable def F_memsort_Sort (p0 p1 p2 : AV) (H : Hp) : Res :=
  bnd (abox p0 H) fun r3 =>
  bnd (abox p1 r3.2) fun r4 =>
  bnd (aload true 5 r4.1 r4.2) fun t8 =>
  bnd (flatC C_sortkey_Check [t8] r4.2) fun r9 =>
  bnd (ibin .neq r9.1 (.int .i64 0)) fun t10 =>
  cnd t10
    (bnd (flatC C_slices_Clone_of_string_string [p2] r9.2) fun r12 =>
    some (r12.1, r12.2))
    (memsort_Sort_J1 p2 r3.1 r4.1 H r9.2)
theorem memsort_Sort_J2_eq (x7 : AV) (H0 H : Hp) : memsort_Sort_J2 x7 H0 H =
    some (x7, H) := (CXM_eq [3, 6] _ _ _ _).trans (by kernel_rfl)
theorem memsort_Sort_J1_eq (x2 x3 x4 : AV) (H0 H : Hp) : memsort_Sort_J1 x2 x3 x4 H0 H =
    frzK x3 H fun z3 z3H =>
    frzK x4 z3H fun z4 z4H =>
    bnd (some (.fn (.func 22) [] [z3, z4])) fun t14 =>
    bnd (flatC C_memsort_mergeSort_of_string [x2, t14] z4H) fun r15 =>
    bnd (afield 3 z4) fun t16 =>
    bnd (aload false 1 t16 r15.2) fun t17 =>
    cnd t17
      (bnd (some (.fn (.func 25) [] [z3, z4])) fun t19 =>
      bnd (flatC C_memsort_once_of_string [r15.1, t19] r15.2) fun r20 =>
      memsort_Sort_J2 r20.1 H0 r20.2)
      (memsort_Sort_J2 r15.1 H0 r15.2) := (CXM_eq [3, 6] _ _ _ _).trans (by kernel_rfl)
theorem F_memsort_Sort_eq (p0 p1 p2 : AV) (H : Hp) : C_memsort_Sort [p0, p1, p2] H = F_memsort_Sort p0 p1 p2 H := (callw_cxm (C := cfg) (fn := Tryd.f9) (c := bodyOf Tryd.f9) (n := 22) [3, 6] Tryd.func9 (by kernel_rfl) (by kernel_rfl) [p0, p1, p2] (by kernel_rfl) H).trans (by kernel_rfl)

noncomputable def memsort_Unsorted_J2 (H0 H : Hp) : Res := CXL cfg (callw cfg) (LPL cfg (cfg.keep 10) 41) (cfg.keep 10) 41 seqL blockL (sub (bodyOf Tryd.f10) [1, 1, 1]) (retL cfg 41 10 Tryd.f10 H0) [] H
noncomputable def memsort_Unsorted_K1 (H0 : Hp) : KL := seqL (fun k al H => CXL cfg (callw cfg) (LPL cfg (cfg.keep 10) 41) (cfg.keep 10) 41 seqL blockL (sub (bodyOf Tryd.f10) [1, 1, 1]) k (trimL (cfg.keep 10) (sub (bodyOf Tryd.f10) [1, 1, 1]) al) H) (retL cfg 41 10 Tryd.f10 H0)
theorem memsort_Unsorted_K1_tame (H0 : Hp) : Tame 41 (memsort_Unsorted_K1 H0) := tame_seq (C := cfg) (kp := cfg.keep 10) (sub (bodyOf Tryd.f10) [1, 1, 1]) (tame_ret 10 Tryd.f10 H0)
noncomputable def memsort_Unsorted_J4 (x2 x3 x4 x7 : AV) (H0 H : Hp) : Res := CXL cfg (callw cfg) (LPL cfg (cfg.keep 10) 41) (cfg.keep 10) 41 seqL blockL (sub (bodyOf Tryd.f10) [1, 1, 0, 1, 0, 0, 1, 1]) (seqL (fun k al H => LPL cfg (cfg.keep 10) 41 (sub (bodyOf Tryd.f10) [1, 1, 0, 1, 0, 0]) k (trimL (cfg.keep 10) (sub (bodyOf Tryd.f10) [1, 1, 0, 1, 0, 0]) al) H) (blockL 0 (memsort_Unsorted_K1 H0))) [(2, x2), (3, x3), (4, x4), (7, x7)] H
noncomputable def memsort_Unsorted_J3 (x2 x3 x4 x7 : AV) (H0 H : Hp) : Res := CXL cfg (callw cfg) (LPL cfg (cfg.keep 10) 41) (cfg.keep 10) 41 seqL blockL (sub (bodyOf Tryd.f10) [1, 1, 0, 1, 0, 0, 1]) (seqL (fun k al H => LPL cfg (cfg.keep 10) 41 (sub (bodyOf Tryd.f10) [1, 1, 0, 1, 0, 0]) k (trimL (cfg.keep 10) (sub (bodyOf Tryd.f10) [1, 1, 0, 1, 0, 0]) al) H) (blockL 0 (memsort_Unsorted_K1 H0))) [(2, x2), (3, x3), (4, x4), (7, x7)] H
noncomputable def memsort_Unsorted_L1 (x2 x3 x4 x7 : AV) (H0 H : Hp) : Res := LPL cfg (cfg.keep 10) 41 (sub (bodyOf Tryd.f10) [1, 1, 0, 1, 0, 0]) (blockL 0 (memsort_Unsorted_K1 H0)) [(2, x2), (3, x3), (4, x4), (7, x7)] H
noncomputable def memsort_Unsorted_J1 (x2 x3 x4 : AV) (H0 H : Hp) : Res := CXL cfg (callw cfg) (LPL cfg (cfg.keep 10) 41) (cfg.keep 10) 41 seqL blockL (sub (bodyOf Tryd.f10) [1, 1]) (retL cfg 41 10 Tryd.f10 H0) [(2, x2), (3, x3), (4, x4)] H
noncomputable def F_memsort_Unsorted (p0 p1 p2 : AV) (H : Hp) : Res :=
  bnd (abox p0 H) fun r3 =>
  bnd (abox p1 r3.2) fun r4 =>
  bnd (aload true 5 r4.1 r4.2) fun t9 =>
  bnd (flatC C_sortkey_Check [t9] r4.2) fun r10 =>
  bnd (ibin .neq r10.1 (.int .i64 0)) fun t11 =>
  cnd t11
    (some ((.int .i64 (-1)), r10.2))
    (memsort_Unsorted_J1 p2 r3.1 r4.1 H r10.2)
theorem memsort_Unsorted_J2_eq (H0 H : Hp) : memsort_Unsorted_J2 H0 H =
    some ((.int .i64 (-1)), H) := (CXM_eq [3, 5, 6, 9] _ _ _ _).trans (by kernel_rfl)
theorem memsort_Unsorted_J4_eq (x2 x3 x4 x7 : AV) (H0 H : Hp) : memsort_Unsorted_J4 x2 x3 x4 x7 H0 H =
    bnd (ibin .add x7 (.int .i64 1)) fun t17 =>
    memsort_Unsorted_L1 x2 x3 x4 t17 H0 H := (CXM_eq [3, 5, 6, 9] _ _ _ _).trans (by kernel_rfl)
theorem memsort_Unsorted_J3_eq (x2 x3 x4 x7 : AV) (H0 H : Hp) : memsort_Unsorted_J3 x2 x3 x4 x7 H0 H =
    bnd (aload true 6 x3 H) fun t18 =>
    bnd (aload true 5 x4 H) fun t19 =>
    bnd (ibin .sub x7 (.int .i64 1)) fun t22 =>
    bnd (aindexS 1 x2 t22) fun t23 =>
    bnd (aload false 1 t23 H) fun t24 =>
    bnd (aindexS 1 x2 x7) fun t27 =>
    bnd (aload false 1 t27 H) fun t28 =>
    bnd (flatC C_sortkey_Order [t18, t19, t24, t28] H) fun r29 =>
    bnd (ibin .gtr r29.1 (.int .i64 0)) fun t31 =>
    bnd (gdv t31 false (.tuple []) (afield 3 x4)) fun t33 =>
    bnd (gdv t31 false (.tuple []) (aload false 1 t33 r29.2)) fun t34 =>
    bnd (gdv t31 false (.tuple []) (some t34)) fun t35 =>
    bnd (gdv t35 true (.tuple []) (some r29.1)) fun t36 =>
    bnd (gdv t35 true (.tuple []) (ibin .eql t36 (.int .i64 0))) fun t37 =>
    bnd (gdv t31 false (.tuple []) (apick t35 t37 (.bool false))) fun t38 =>
    bnd (apick t31 (.bool true) t38) fun t39 =>
    cnd t39
      (some (x7, r29.2))
      (memsort_Unsorted_J4 x2 x3 x4 x7 H0 r29.2) := (CXM_eq [3, 5, 6, 9] _ _ _ _).trans (by kernel_rfl)
theorem memsort_Unsorted_L1_eq (x2 x3 x4 x7 : AV) (H0 H : Hp) : memsort_Unsorted_L1 x2 x3 x4 x7 H0 H =
    bnd (alenD (.slice 9) x2) fun t14 =>
    bnd (ibin .lss x7 t14) fun t15 =>
    cnd t15
      (memsort_Unsorted_J3 x2 x3 x4 x7 H0 H)
      (memsort_Unsorted_J2 H0 H) := (LPL_eqm (C := cfg) [3, 5, 6, 9] (tame_block 0 (memsort_Unsorted_K1_tame H0)) _ _).trans (by kernel_rfl)
theorem memsort_Unsorted_J1_eq (x2 x3 x4 : AV) (H0 H : Hp) : memsort_Unsorted_J1 x2 x3 x4 H0 H =
    memsort_Unsorted_L1 x2 x3 x4 (.int .i64 1) H0 H := (CXM_eq [3, 5, 6, 9] _ _ _ _).trans (by kernel_rfl)
theorem F_memsort_Unsorted_eq (p0 p1 p2 : AV) (H : Hp) : C_memsort_Unsorted [p0, p1, p2] H = F_memsort_Unsorted p0 p1 p2 H := (callw_cxm (C := cfg) (fn := Tryd.f10) (c := bodyOf Tryd.f10) (n := 41) [3, 5, 6, 9] Tryd.func10 (by kernel_rfl) (by kernel_rfl) [p0, p1, p2] (by kernel_rfl) H).trans (by kernel_rfl)

noncomputable def R21_Same_J2 (H0 H : Hp) : Res := CXL cfg (callw cfg) (LPL cfg (cfg.keep 11) 26) (cfg.keep 11) 26 seqL blockL (sub (bodyOf Tryd.f11) [1, 1, 1]) (retL cfg 26 11 Tryd.f11 H0) [] H
noncomputable def R21_Same_K1 (H0 : Hp) : KL := seqL (fun k al H => CXL cfg (callw cfg) (LPL cfg (cfg.keep 11) 26) (cfg.keep 11) 26 seqL blockL (sub (bodyOf Tryd.f11) [1, 1, 1]) k (trimL (cfg.keep 11) (sub (bodyOf Tryd.f11) [1, 1, 1]) al) H) (retL cfg 26 11 Tryd.f11 H0)
theorem R21_Same_K1_tame (H0 : Hp) : Tame 26 (R21_Same_K1 H0) := tame_seq (C := cfg) (kp := cfg.keep 11) (sub (bodyOf Tryd.f11) [1, 1, 1]) (tame_ret 11 Tryd.f11 H0)
noncomputable def R21_Same_J4 (x0 x1 x5 : AV) (H0 H : Hp) : Res := CXL cfg (callw cfg) (LPL cfg (cfg.keep 11) 26) (cfg.keep 11) 26 seqL blockL (sub (bodyOf Tryd.f11) [1, 1, 0, 1, 0, 0, 1, 1]) (seqL (fun k al H => LPL cfg (cfg.keep 11) 26 (sub (bodyOf Tryd.f11) [1, 1, 0, 1, 0, 0]) k (trimL (cfg.keep 11) (sub (bodyOf Tryd.f11) [1, 1, 0, 1, 0, 0]) al) H) (blockL 0 (R21_Same_K1 H0))) [(0, x0), (1, x1), (5, x5)] H
noncomputable def R21_Same_J3 (x0 x1 x5 : AV) (H0 H : Hp) : Res := CXL cfg (callw cfg) (LPL cfg (cfg.keep 11) 26) (cfg.keep 11) 26 seqL blockL (sub (bodyOf Tryd.f11) [1, 1, 0, 1, 0, 0, 1]) (seqL (fun k al H => LPL cfg (cfg.keep 11) 26 (sub (bodyOf Tryd.f11) [1, 1, 0, 1, 0, 0]) k (trimL (cfg.keep 11) (sub (bodyOf Tryd.f11) [1, 1, 0, 1, 0, 0]) al) H) (blockL 0 (R21_Same_K1 H0))) [(0, x0), (1, x1), (5, x5)] H
noncomputable def R21_Same_L1 (x0 x1 x5 : AV) (H0 H : Hp) : Res := LPL cfg (cfg.keep 11) 26 (sub (bodyOf Tryd.f11) [1, 1, 0, 1, 0, 0]) (blockL 0 (R21_Same_K1 H0)) [(0, x0), (1, x1), (5, x5)] H
noncomputable def R21_Same_J1 (x0 x1 : AV) (H0 H : Hp) : Res := CXL cfg (callw cfg) (LPL cfg (cfg.keep 11) 26) (cfg.keep 11) 26 seqL blockL (sub (bodyOf Tryd.f11) [1, 1]) (retL cfg 26 11 Tryd.f11 H0) [(0, x0), (1, x1)] H
noncomputable def F_R21_Same (p0 p1 : AV) (H : Hp) : Res :=
  bnd (alenD (.slice 9) p0) fun t7 =>
  bnd (alenD (.slice 9) p1) fun t9 =>
  bnd (ibin .neq t7 t9) fun t10 =>
  cnd t10
    (some ((.bool false), H))
    (R21_Same_J1 p0 p1 H H)
theorem R21_Same_J2_eq (H0 H : Hp) : R21_Same_J2 H0 H =
    some ((.bool true), H) := (CXM_eq [3, 5, 6, 8] _ _ _ _).trans (by kernel_rfl)
theorem R21_Same_J4_eq (x0 x1 x5 : AV) (H0 H : Hp) : R21_Same_J4 x0 x1 x5 H0 H =
    bnd (ibin .add x5 (.int .i64 1)) fun t16 =>
    R21_Same_L1 x0 x1 t16 H0 H := (CXM_eq [3, 5, 6, 8] _ _ _ _).trans (by kernel_rfl)
theorem R21_Same_J3_eq (x0 x1 x5 : AV) (H0 H : Hp) : R21_Same_J3 x0 x1 x5 H0 H =
    bnd (aindexS 1 x0 x5) fun t19 =>
    bnd (aload false 1 t19 H) fun t20 =>
    bnd (aindexS 1 x1 x5) fun t23 =>
    bnd (aload false 1 t23 H) fun t24 =>
    bnd (sbin .neq t20 t24) fun t25 =>
    cnd t25
      (some ((.bool false), H))
      (R21_Same_J4 x0 x1 x5 H0 H) := (CXM_eq [3, 5, 6, 8] _ _ _ _).trans (by kernel_rfl)
theorem R21_Same_L1_eq (x0 x1 x5 : AV) (H0 H : Hp) : R21_Same_L1 x0 x1 x5 H0 H =
    bnd (alenD (.slice 9) x0) fun t13 =>
    bnd (ibin .lss x5 t13) fun t14 =>
    cnd t14
      (R21_Same_J3 x0 x1 x5 H0 H)
      (R21_Same_J2 H0 H) := (LPL_eqm (C := cfg) [3, 5, 6, 8] (tame_block 0 (R21_Same_K1_tame H0)) _ _).trans (by kernel_rfl)
theorem R21_Same_J1_eq (x0 x1 : AV) (H0 H : Hp) : R21_Same_J1 x0 x1 H0 H =
    R21_Same_L1 x0 x1 (.int .i64 0) H0 H := (CXM_eq [3, 5, 6, 8] _ _ _ _).trans (by kernel_rfl)
theorem F_R21_Same_eq (p0 p1 : AV) (H : Hp) : C_R21_Same [p0, p1] H = F_R21_Same p0 p1 H := (callw_cxm (C := cfg) (fn := Tryd.f11) (c := bodyOf Tryd.f11) (n := 26) [3, 5, 6, 8] Tryd.func11 (by kernel_rfl) (by kernel_rfl) [p0, p1] (by kernel_rfl) H).trans (by kernel_rfl)

noncomputable def L21_times_J1 (x5 : AV) (H0 H : Hp) : Res := CXL cfg (callw cfg) (LPL cfg (cfg.keep 13) 22) (cfg.keep 13) 22 seqL blockL (sub (bodyOf Tryd.f13) [1, 1, 1]) (retL cfg 22 13 Tryd.f13 H0) [(5, x5)] H
noncomputable def L21_times_K1 (H0 : Hp) : KL := seqL (fun k al H => CXL cfg (callw cfg) (LPL cfg (cfg.keep 13) 22) (cfg.keep 13) 22 seqL blockL (sub (bodyOf Tryd.f13) [1, 1, 1]) k (trimL (cfg.keep 13) (sub (bodyOf Tryd.f13) [1, 1, 1]) al) H) (retL cfg 22 13 Tryd.f13 H0)
theorem L21_times_K1_tame (H0 : Hp) : Tame 22 (L21_times_K1 H0) := tame_seq (C := cfg) (kp := cfg.keep 13) (sub (bodyOf Tryd.f13) [1, 1, 1]) (tame_ret 13 Tryd.f13 H0)
noncomputable def L21_times_J3 (x0 x1 x5 x6 : AV) (H0 H : Hp) : Res := CXL cfg (callw cfg) (LPL cfg (cfg.keep 13) 22) (cfg.keep 13) 22 seqL blockL (sub (bodyOf Tryd.f13) [1, 1, 0, 1, 0, 0, 1, 1]) (seqL (fun k al H => LPL cfg (cfg.keep 13) 22 (sub (bodyOf Tryd.f13) [1, 1, 0, 1, 0, 0]) k (trimL (cfg.keep 13) (sub (bodyOf Tryd.f13) [1, 1, 0, 1, 0, 0]) al) H) (blockL 0 (L21_times_K1 H0))) [(0, x0), (1, x1), (5, x5), (6, x6)] H
noncomputable def L21_times_J2 (x0 x1 x5 x6 : AV) (H0 H : Hp) : Res := CXL cfg (callw cfg) (LPL cfg (cfg.keep 13) 22) (cfg.keep 13) 22 seqL blockL (sub (bodyOf Tryd.f13) [1, 1, 0, 1, 0, 0, 1]) (seqL (fun k al H => LPL cfg (cfg.keep 13) 22 (sub (bodyOf Tryd.f13) [1, 1, 0, 1, 0, 0]) k (trimL (cfg.keep 13) (sub (bodyOf Tryd.f13) [1, 1, 0, 1, 0, 0]) al) H) (blockL 0 (L21_times_K1 H0))) [(0, x0), (1, x1), (5, x5), (6, x6)] H
noncomputable def L21_times_L1 (x0 x1 x5 x6 : AV) (H0 H : Hp) : Res := LPL cfg (cfg.keep 13) 22 (sub (bodyOf Tryd.f13) [1, 1, 0, 1, 0, 0]) (blockL 0 (L21_times_K1 H0)) [(0, x0), (1, x1), (5, x5), (6, x6)] H
noncomputable def F_L21_times (p0 p1 : AV) (H : Hp) : Res :=
  L21_times_L1 p0 p1 (.int .i64 0) (.int .i64 0) H H
theorem L21_times_J1_eq (x5 : AV) (H0 H : Hp) : L21_times_J1 x5 H0 H =
    some (x5, H) := (CXM_eq [4, 5, 7] _ _ _ _).trans (by kernel_rfl)
theorem L21_times_J3_eq (x0 x1 x5 x6 : AV) (H0 H : Hp) : L21_times_J3 x0 x1 x5 x6 H0 H =
    bnd (ibin .add x6 (.int .i64 1)) fun t12 =>
    L21_times_L1 x0 x1 x5 t12 H0 H := (CXM_eq [4, 5, 7] _ _ _ _).trans (by kernel_rfl)
theorem L21_times_J2_eq (x0 x1 x5 x6 : AV) (H0 H : Hp) : L21_times_J2 x0 x1 x5 x6 H0 H =
    bnd (aindexS 1 x0 x6) fun t15 =>
    bnd (aload false 1 t15 H) fun t16 =>
    bnd (sbin .eql t16 x1) fun t18 =>
    cnd t18
      (bnd (ibin .add x5 (.int .i64 1)) fun t20 =>
      L21_times_J3 x0 x1 t20 x6 H0 H)
      (L21_times_J3 x0 x1 x5 x6 H0 H) := (CXM_eq [4, 5, 7] _ _ _ _).trans (by kernel_rfl)
theorem L21_times_L1_eq (x0 x1 x5 x6 : AV) (H0 H : Hp) : L21_times_L1 x0 x1 x5 x6 H0 H =
    bnd (alenD (.slice 9) x0) fun t9 =>
    bnd (ibin .lss x6 t9) fun t10 =>
    cnd t10
      (L21_times_J2 x0 x1 x5 x6 H0 H)
      (L21_times_J1 x5 H0 H) := (LPL_eqm (C := cfg) [4, 5, 7] (tame_block 0 (L21_times_K1_tame H0)) _ _).trans (by kernel_rfl)
theorem F_L21_times_eq (p0 p1 : AV) (H : Hp) : C_L21_times [p0, p1] H = F_L21_times p0 p1 H := (callw_cxm (C := cfg) (fn := Tryd.f13) (c := bodyOf Tryd.f13) (n := 22) [4, 5, 7] Tryd.func13 (by kernel_rfl) (by kernel_rfl) [p0, p1] (by kernel_rfl) H).trans (by kernel_rfl)

noncomputable def F_L07_Light (p0 : AV) (H : Hp) : Res :=
  bnd (abox p0 H) fun r1 =>
  bnd (afield 1 r1.1) fun t3 =>
  bnd (aload false 1 t3 r1.2) fun t4 =>
  bnd (alenD (.slice 3) t4) fun t5 =>
  bnd (ibin .leq t5 (.int .i64 300)) fun t6 =>
  bnd (gdv t6 true (.tuple []) (afield 2 r1.1)) fun t8 =>
  bnd (gdv t6 true (.tuple []) (aload false 1 t8 r1.2)) fun t9 =>
  bnd (gdv t6 true (.tuple []) (alenD .string t9)) fun t10 =>
  bnd (gdv t6 true (.tuple []) (ibin .leq t10 (.int .i64 300))) fun t11 =>
  bnd (apick t6 t11 (.bool false)) fun t12 =>
  bnd (gdv t12 true (.tuple []) (afield 3 r1.1)) fun t14 =>
  bnd (gdv t12 true (.tuple []) (aload false 1 t14 r1.2)) fun t15 =>
  bnd (gdv t12 true (.tuple []) (alenD .string t15)) fun t16 =>
  bnd (gdv t12 true (.tuple []) (ibin .leq t16 (.int .i64 300))) fun t17 =>
  bnd (apick t12 t17 (.bool false)) fun t18 =>
  bnd (gdv t18 true (.tuple []) (afield 4 r1.1)) fun t20 =>
  bnd (gdv t18 true (.tuple []) (aload false 1 t20 r1.2)) fun t21 =>
  bnd (gdv t18 true (.tuple []) (alenD (.slice 129) t21)) fun t22 =>
  bnd (gdv t18 true (.tuple []) (ibin .leq t22 (.int .i64 30))) fun t23 =>
  bnd (apick t18 t23 (.bool false)) fun t24 =>
  bnd (gdv t24 true (.tuple []) (afield 5 r1.1)) fun t26 =>
  bnd (gdv t24 true (.tuple []) (aload false 1 t26 r1.2)) fun t27 =>
  bnd (gdv t24 true (.tuple []) (alenD (.slice 90) t27)) fun t28 =>
  bnd (gdv t24 true (.tuple []) (ibin .leq t28 (.int .i64 70))) fun t29 =>
  bnd (apick t24 t29 (.bool false)) fun t30 =>
  some (t30, r1.2)
theorem F_L07_Light_eq (p0 : AV) (H : Hp) : C_L07_Light [p0] H = F_L07_Light p0 H := (callw_cxm (C := cfg) (fn := Tryd.f17) (c := bodyOf Tryd.f17) (n := 31) [] Tryd.func17 (by kernel_rfl) (by kernel_rfl) [p0] (by kernel_rfl) H).trans (by kernel_rfl)

noncomputable def slices_Clone_of_string_string_J1 (x0 : AV) (H0 H : Hp) : Res := CXL cfg (callw cfg) (LPL cfg (cfg.keep 20) 8) (cfg.keep 20) 8 seqL blockL (sub (bodyOf Tryd.f20) [1, 1]) (retL cfg 8 20 Tryd.f20 H0) [(0, x0)] H
noncomputable def F_slices_Clone_of_string_string (p0 : AV) (H : Hp) : Res :=
  bnd (ebin (.slice 9) .eql p0 .nils) fun t4 =>
  cnd t4
    (some (.nils, H))
    (slices_Clone_of_string_string_J1 p0 H H)
theorem slices_Clone_of_string_string_J1_eq (x0 : AV) (H0 H : Hp) : slices_Clone_of_string_string_J1 x0 H0 H =
    bnd ((setElems 1 [] []).map (.vs 1 .clip)) fun t5 =>
    bnd (aappE 1 16 t5 x0 H) fun r7 =>
    some (r7.1, r7.2) := (CXM_eq [3] _ _ _ _).trans (by kernel_rfl)
theorem F_slices_Clone_of_string_string_eq (p0 : AV) (H : Hp) : C_slices_Clone_of_string_string [p0] H = F_slices_Clone_of_string_string p0 H := (callw_cxm (C := cfg) (fn := Tryd.f20) (c := bodyOf Tryd.f20) (n := 8) [3] Tryd.func20 (by kernel_rfl) (by kernel_rfl) [p0] (by kernel_rfl) H).trans (by kernel_rfl)

noncomputable def memsort_mergeSort_of_string_J2 (x6 x7 x8 : AV) (H0 H : Hp) : Res := CXL cfg (callw cfg) (LPL cfg (cfg.keep 21) 67) (cfg.keep 21) 67 seqL blockL (sub (bodyOf Tryd.f21) [1, 1, 1, 1, 1, 1]) (retL cfg 67 21 Tryd.f21 H0) [(6, x6), (7, x7), (8, x8)] H
noncomputable def memsort_mergeSort_of_string_K1 (H0 : Hp) : KL := seqL (fun k al H => CXL cfg (callw cfg) (LPL cfg (cfg.keep 21) 67) (cfg.keep 21) 67 seqL blockL (sub (bodyOf Tryd.f21) [1, 1, 1, 1, 1, 1]) k (trimL (cfg.keep 21) (sub (bodyOf Tryd.f21) [1, 1, 1, 1, 1, 1]) al) H) (retL cfg 67 21 Tryd.f21 H0)
theorem memsort_mergeSort_of_string_K1_tame (H0 : Hp) : Tame 67 (memsort_mergeSort_of_string_K1 H0) := tame_seq (C := cfg) (kp := cfg.keep 21) (sub (bodyOf Tryd.f21) [1, 1, 1, 1, 1, 1]) (tame_ret 21 Tryd.f21 H0)
noncomputable def memsort_mergeSort_of_string_J3 (x1 x6 x7 x8 : AV) (H0 H : Hp) : Res := CXL cfg (callw cfg) (LPL cfg (cfg.keep 21) 67) (cfg.keep 21) 67 seqL blockL (sub (bodyOf Tryd.f21) [1, 1, 1, 1, 1, 0, 0, 0, 1]) (seqL (fun k al H => LPL cfg (cfg.keep 21) 67 (sub (bodyOf Tryd.f21) [1, 1, 1, 1, 1, 0, 0, 0]) k (trimL (cfg.keep 21) (sub (bodyOf Tryd.f21) [1, 1, 1, 1, 1, 0, 0, 0]) al) H) (blockL 0 (memsort_mergeSort_of_string_K1 H0))) [(1, x1), (6, x6), (7, x7), (8, x8)] H
noncomputable def memsort_mergeSort_of_string_L1 (x1 x6 x7 x8 : AV) (H0 H : Hp) : Res := LPL cfg (cfg.keep 21) 67 (sub (bodyOf Tryd.f21) [1, 1, 1, 1, 1, 0, 0, 0]) (blockL 0 (memsort_mergeSort_of_string_K1 H0)) [(1, x1), (6, x6), (7, x7), (8, x8)] H
noncomputable def memsort_mergeSort_of_string_J1 (x0 x1 : AV) (H0 H : Hp) : Res := CXL cfg (callw cfg) (LPL cfg (cfg.keep 21) 67) (cfg.keep 21) 67 seqL blockL (sub (bodyOf Tryd.f21) [1, 1]) (retL cfg 67 21 Tryd.f21 H0) [(0, x0), (1, x1)] H
noncomputable def F_memsort_mergeSort_of_string (p0 p1 : AV) (H : Hp) : Res :=
  bnd (alenD (.slice 9) p0) fun t10 =>
  bnd (ibin .lss t10 (.int .i64 2)) fun t11 =>
  cnd t11
    (bnd (flatC C_slices_Clone_of_string_string [p0] H) fun r13 =>
    some (r13.1, r13.2))
    (memsort_mergeSort_of_string_J1 p0 p1 H H)
theorem memsort_mergeSort_of_string_J2_eq (x6 x7 x8 : AV) (H0 H : Hp) : memsort_mergeSort_of_string_J2 x6 x7 x8 H0 H =
    bnd (aappE 1 16 x8 x6 H) fun r64 =>
    bnd (aappE 1 16 r64.1 x7 r64.2) fun r66 =>
    some (r66.1, r66.2) := (CXM_eq [3, 7, 12] _ _ _ _).trans (by kernel_rfl)
theorem memsort_mergeSort_of_string_J3_eq (x1 x6 x7 x8 : AV) (H0 H : Hp) : memsort_mergeSort_of_string_J3 x1 x6 x7 x8 H0 H =
    bnd (aindexS 1 x6 (.int .i64 0)) fun t40 =>
    bnd (aload false 1 t40 H) fun t41 =>
    bnd (aindexS 1 x7 (.int .i64 0)) fun t43 =>
    bnd (aload false 1 t43 H) fun t44 =>
    bnd (acall cfg (callw cfg) x1 [t41, t44] H) fun r45 =>
    cnd r45.1
      (bnd (aindexS 1 x7 (.int .i64 0)) fun t48 =>
      bnd (aload false 1 t48 r45.2) fun t49 =>
      bnd ((setElems 1 [(0, t49)] [(.str [])]).map (.vs 1 .clip)) fun t50 =>
      bnd (aappE 1 16 x8 t50 r45.2) fun r51 =>
      bnd (asliceV 1 x7 (some (.int .i64 1)) none none) fun t53 =>
      memsort_mergeSort_of_string_L1 x1 x6 t53 r51.1 H0 r51.2)
      (bnd (aindexS 1 x6 (.int .i64 0)) fun t56 =>
      bnd (aload false 1 t56 r45.2) fun t57 =>
      bnd ((setElems 1 [(0, t57)] [(.str [])]).map (.vs 1 .clip)) fun t58 =>
      bnd (aappE 1 16 x8 t58 r45.2) fun r59 =>
      bnd (asliceV 1 x6 (some (.int .i64 1)) none none) fun t61 =>
      memsort_mergeSort_of_string_L1 x1 t61 x7 r59.1 H0 r59.2) := (CXM_eq [3, 7, 12] _ _ _ _).trans (by kernel_rfl)
theorem memsort_mergeSort_of_string_L1_eq (x1 x6 x7 x8 : AV) (H0 H : Hp) : memsort_mergeSort_of_string_L1 x1 x6 x7 x8 H0 H =
    bnd (alenD (.slice 9) x6) fun t31 =>
    bnd (ibin .gtr t31 (.int .i64 0)) fun t32 =>
    bnd (gdv t32 true (.tuple []) (some x7)) fun t34 =>
    bnd (gdv t32 true (.tuple []) (alenD (.slice 9) t34)) fun t35 =>
    bnd (gdv t32 true (.tuple []) (ibin .gtr t35 (.int .i64 0))) fun t36 =>
    bnd (apick t32 t36 (.bool false)) fun t37 =>
    cnd t37
      (memsort_mergeSort_of_string_J3 x1 x6 x7 x8 H0 H)
      (memsort_mergeSort_of_string_J2 x6 x7 x8 H0 H) := (LPL_eqm (C := cfg) [3, 7, 12] (tame_block 0 (memsort_mergeSort_of_string_K1_tame H0)) _ _).trans (by kernel_rfl)
theorem memsort_mergeSort_of_string_J1_eq (x0 x1 : AV) (H0 H : Hp) : memsort_mergeSort_of_string_J1 x0 x1 H0 H =
    bnd (alenD (.slice 9) x0) fun t15 =>
    bnd (ibin .quo t15 (.int .i64 2)) fun t16 =>
    bnd (asliceV 1 x0 none (some t16) none) fun t19 =>
    bnd (flatC C_memsort_mergeSort_of_string [t19, x1] H) fun r21 =>
    bnd (asliceV 1 x0 (some t16) none none) fun t24 =>
    bnd (flatC C_memsort_mergeSort_of_string [t24, x1] r21.2) fun r26 =>
    bnd (alenD (.slice 9) x0) fun t28 =>
    bnd (amake 1 16 false (.str []) (.int .i64 0) t28 r26.2) fun r29 =>
    memsort_mergeSort_of_string_L1 x1 r21.1 r26.1 r29.1 H0 r29.2 := (CXM_eq [3, 7, 12] _ _ _ _).trans (by kernel_rfl)
theorem F_memsort_mergeSort_of_string_eq (p0 p1 : AV) (H : Hp) : C_memsort_mergeSort_of_string [p0, p1] H = F_memsort_mergeSort_of_string p0 p1 H := (callw_cxm (C := cfg) (fn := Tryd.f21) (c := bodyOf Tryd.f21) (n := 67) [3, 7, 12] Tryd.func21 (by kernel_rfl) (by kernel_rfl) [p0, p1] (by kernel_rfl) H).trans (by kernel_rfl)

noncomputable def F_memsort_Sort_1 (p0 p1 p2 p3 : AV) (H : Hp) : Res :=
  bnd (aload true 6 p2 H) fun t7 =>
  bnd (aload true 5 p3 H) fun t8 =>
  bnd (flatC C_sortkey_Order [t7, t8, p0, p1] H) fun r11 =>
  bnd (ibin .gtr r11.1 (.int .i64 0)) fun t12 =>
  some (t12, r11.2)
theorem F_memsort_Sort_1_eq (p0 p1 p2 p3 : AV) (H : Hp) : C_memsort_Sort_1 [p0, p1, p2, p3] H = F_memsort_Sort_1 p0 p1 p2 p3 H := (callw_cxm (C := cfg) (fn := Tryd.f22) (c := bodyOf Tryd.f22) (n := 13) [] Tryd.func22 (by kernel_rfl) (by kernel_rfl) [p0, p1, p2, p3] (by kernel_rfl) H).trans (by kernel_rfl)

noncomputable def memsort_once_of_string_J1 (x5 : AV) (H0 H : Hp) : Res := CXL cfg (callw cfg) (LPL cfg (cfg.keep 24) 35) (cfg.keep 24) 35 seqL blockL (sub (bodyOf Tryd.f24) [1, 1, 1]) (retL cfg 35 24 Tryd.f24 H0) [(5, x5)] H
noncomputable def memsort_once_of_string_K1 (H0 : Hp) : KL := seqL (fun k al H => CXL cfg (callw cfg) (LPL cfg (cfg.keep 24) 35) (cfg.keep 24) 35 seqL blockL (sub (bodyOf Tryd.f24) [1, 1, 1]) k (trimL (cfg.keep 24) (sub (bodyOf Tryd.f24) [1, 1, 1]) al) H) (retL cfg 35 24 Tryd.f24 H0)
theorem memsort_once_of_string_K1_tame (H0 : Hp) : Tame 35 (memsort_once_of_string_K1 H0) := tame_seq (C := cfg) (kp := cfg.keep 24) (sub (bodyOf Tryd.f24) [1, 1, 1]) (tame_ret 24 Tryd.f24 H0)
noncomputable def memsort_once_of_string_J3 (x1 x5 x8 x9 x10 : AV) (H0 H : Hp) : Res := CXL cfg (callw cfg) (LPL cfg (cfg.keep 24) 35) (cfg.keep 24) 35 seqL blockL (sub (bodyOf Tryd.f24) [1, 1, 0, 1, 0, 0, 1, 1, 1]) (seqL (fun k al H => LPL cfg (cfg.keep 24) 35 (sub (bodyOf Tryd.f24) [1, 1, 0, 1, 0, 0]) k (trimL (cfg.keep 24) (sub (bodyOf Tryd.f24) [1, 1, 0, 1, 0, 0]) al) H) (blockL 0 (memsort_once_of_string_K1 H0))) [(1, x1), (5, x5), (8, x8), (9, x9), (10, x10)] H
noncomputable def memsort_once_of_string_J2 (x1 x5 x8 x9 x10 x11 : AV) (H0 H : Hp) : Res := CXL cfg (callw cfg) (LPL cfg (cfg.keep 24) 35) (cfg.keep 24) 35 seqL blockL (sub (bodyOf Tryd.f24) [1, 1, 0, 1, 0, 0, 1, 1]) (seqL (fun k al H => LPL cfg (cfg.keep 24) 35 (sub (bodyOf Tryd.f24) [1, 1, 0, 1, 0, 0]) k (trimL (cfg.keep 24) (sub (bodyOf Tryd.f24) [1, 1, 0, 1, 0, 0]) al) H) (blockL 0 (memsort_once_of_string_K1 H0))) [(1, x1), (5, x5), (8, x8), (9, x9), (10, x10), (11, x11)] H
noncomputable def memsort_once_of_string_L1 (x1 x5 x8 x9 x10 : AV) (H0 H : Hp) : Res := LPL cfg (cfg.keep 24) 35 (sub (bodyOf Tryd.f24) [1, 1, 0, 1, 0, 0]) (blockL 0 (memsort_once_of_string_K1 H0)) [(1, x1), (5, x5), (8, x8), (9, x9), (10, x10)] H
noncomputable def F_memsort_once_of_string (p0 p1 : AV) (H : Hp) : Res :=
  bnd (alenD (.slice 9) p0) fun t9 =>
  memsort_once_of_string_L1 p1 .nils p0 t9 (.int .i64 0) H H
theorem memsort_once_of_string_J1_eq (x5 : AV) (H0 H : Hp) : memsort_once_of_string_J1 x5 H0 H =
    some (x5, H) := (CXM_eq [4, 7, 8] _ _ _ _).trans (by kernel_rfl)
theorem memsort_once_of_string_J3_eq (x1 x5 x8 x9 x10 : AV) (H0 H : Hp) : memsort_once_of_string_J3 x1 x5 x8 x9 x10 H0 H =
    bnd (ibin .add x10 (.int .i64 1)) fun t33 =>
    memsort_once_of_string_L1 x1 x5 x8 x9 t33 H0 H := (CXM_eq [4, 7, 8] _ _ _ _).trans (by kernel_rfl)
theorem memsort_once_of_string_J2_eq (x1 x5 x8 x9 x10 x11 : AV) (H0 H : Hp) : memsort_once_of_string_J2 x1 x5 x8 x9 x10 x11 H0 H =
    bnd (aindexS 1 x8 x10) fun t12 =>
    bnd (aload false 1 t12 H) fun t13 =>
    bnd (alenD (.slice 9) x5) fun t15 =>
    bnd (ibin .eql t15 (.int .i64 0)) fun t16 =>
    bnd (gdv t16 false (.tuple []) (some x1)) fun t18 =>
    bnd (gdv t16 false (.tuple []) (some x5)) fun t19 =>
    bnd (gdv t16 false (.tuple []) (some x5)) fun t20 =>
    bnd (gdv t16 false (.tuple []) (alenD (.slice 9) t20)) fun t21 =>
    bnd (gdv t16 false (.tuple []) (ibin .sub t21 (.int .i64 1))) fun t22 =>
    bnd (gdv t16 false (.tuple []) (aindexS 1 t19 t22)) fun t23 =>
    bnd (gdv t16 false (.tuple []) (aload false 1 t23 H)) fun t24 =>
    bnd (gdv t16 false (.tuple []) (some t13)) fun t25 =>
    bnd (gdv t16 false ((.tuple []), H) (acall cfg (callw cfg) t18 [t24, t25] H)) fun r26 =>
    bnd (gdv t16 false (.tuple []) (aun .not r26.1)) fun t27 =>
    bnd (apick t16 (.bool true) t27) fun t28 =>
    cnd t28
      (bnd ((setElems 1 [(0, t13)] [(.str [])]).map (.vs 1 .clip)) fun t31 =>
      bnd (aappE 1 16 x5 t31 r26.2) fun r32 =>
      memsort_once_of_string_J3 x1 r32.1 x8 x9 x10 H0 r32.2)
      (memsort_once_of_string_J3 x1 x5 x8 x9 x10 H0 r26.2) := (CXM_eq [4, 7, 8] _ _ _ _).trans (by kernel_rfl)
theorem memsort_once_of_string_L1_eq (x1 x5 x8 x9 x10 : AV) (H0 H : Hp) : memsort_once_of_string_L1 x1 x5 x8 x9 x10 H0 H =
    bnd (ibin .lss x10 x9) fun t11 =>
    cnd t11
      (memsort_once_of_string_J2 x1 x5 x8 x9 x10 t11 H0 H)
      (memsort_once_of_string_J1 x5 H0 H) := (LPL_eqm (C := cfg) [4, 7, 8] (tame_block 0 (memsort_once_of_string_K1_tame H0)) _ _).trans (by kernel_rfl)
theorem F_memsort_once_of_string_eq (p0 p1 : AV) (H : Hp) : C_memsort_once_of_string [p0, p1] H = F_memsort_once_of_string p0 p1 H := (callw_cxm (C := cfg) (fn := Tryd.f24) (c := bodyOf Tryd.f24) (n := 35) [4, 7, 8] Tryd.func24 (by kernel_rfl) (by kernel_rfl) [p0, p1] (by kernel_rfl) H).trans (by kernel_rfl)

noncomputable def F_memsort_Sort_2 (p0 p1 p2 p3 : AV) (H : Hp) : Res :=
  bnd (aload true 6 p2 H) fun t7 =>
  bnd (aload true 5 p3 H) fun t8 =>
  bnd (flatC C_sortkey_Compare [t7, t8, p0, p1] H) fun r11 =>
  bnd (ibin .eql r11.1 (.int .i64 0)) fun t12 =>
  some (t12, r11.2)
theorem F_memsort_Sort_2_eq (p0 p1 p2 p3 : AV) (H : Hp) : C_memsort_Sort_2 [p0, p1, p2, p3] H = F_memsort_Sort_2 p0 p1 p2 p3 H := (callw_cxm (C := cfg) (fn := Tryd.f25) (c := bodyOf Tryd.f25) (n := 13) [] Tryd.func25 (by kernel_rfl) (by kernel_rfl) [p0, p1, p2, p3] (by kernel_rfl) H).trans (by kernel_rfl)

end Go.Am
