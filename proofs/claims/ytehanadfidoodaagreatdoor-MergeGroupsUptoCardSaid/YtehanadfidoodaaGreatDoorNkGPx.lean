/-
  The functions of the translation over the abstract machine, a further part: written by program (wip/gen.py).
-/
import Derived.Test.YtehanadfidoodaaGreatDoorNkGx
namespace Go.Am
open Go.Proofs
set_option maxRecDepth 100000
set_option linter.unusedVariables false
set_option linter.unusedSimpArgs false

noncomputable def L23_MergeGroups_J2 (x0 x6 : AV) (H0 H : Hp) : Res := CXL cfg (callw cfg) (LPL cfg (cfg.keep 9) 94) (cfg.keep 9) 94 seqL blockL (sub (bodyOf Tryz.f9) [1, 1, 1, 1, 1]) (retL cfg 94 9 Tryz.f9 H0) [(0, x0), (6, x6)] H
noncomputable def L23_MergeGroups_K1 (H0 : Hp) : KL := seqL (fun k al H => CXL cfg (callw cfg) (LPL cfg (cfg.keep 9) 94) (cfg.keep 9) 94 seqL blockL (sub (bodyOf Tryz.f9) [1, 1, 1, 1, 1]) k (trimL (cfg.keep 9) (sub (bodyOf Tryz.f9) [1, 1, 1, 1, 1]) al) H) (retL cfg 94 9 Tryz.f9 H0)
theorem L23_MergeGroups_K1_tame (H0 : Hp) : Tame 94 (L23_MergeGroups_K1 H0) := tame_seq (C := cfg) (kp := cfg.keep 9) (sub (bodyOf Tryz.f9) [1, 1, 1, 1, 1]) (tame_ret 9 Tryz.f9 H0)
noncomputable def L23_MergeGroups_J4 (x0 x1 x5 x6 x7 : AV) (H0 H : Hp) : Res := CXL cfg (callw cfg) (LPL cfg (cfg.keep 9) 94) (cfg.keep 9) 94 seqL blockL (sub (bodyOf Tryz.f9) [1, 1, 1, 1, 0, 1, 0, 0, 1, 1]) (seqL (fun k al H => LPL cfg (cfg.keep 9) 94 (sub (bodyOf Tryz.f9) [1, 1, 1, 1, 0, 1, 0, 0]) k (trimL (cfg.keep 9) (sub (bodyOf Tryz.f9) [1, 1, 1, 1, 0, 1, 0, 0]) al) H) (blockL 0 (L23_MergeGroups_K1 H0))) [(0, x0), (1, x1), (5, x5), (6, x6), (7, x7)] H
noncomputable def L23_MergeGroups_K2 (H0 : Hp) : KL := seqL (fun k al H => CXL cfg (callw cfg) (LPL cfg (cfg.keep 9) 94) (cfg.keep 9) 94 seqL blockL (sub (bodyOf Tryz.f9) [1, 1, 1, 1, 0, 1, 0, 0, 1, 1]) k (trimL (cfg.keep 9) (sub (bodyOf Tryz.f9) [1, 1, 1, 1, 0, 1, 0, 0, 1, 1]) al) H) (seqL (fun k al H => LPL cfg (cfg.keep 9) 94 (sub (bodyOf Tryz.f9) [1, 1, 1, 1, 0, 1, 0, 0]) k (trimL (cfg.keep 9) (sub (bodyOf Tryz.f9) [1, 1, 1, 1, 0, 1, 0, 0]) al) H) (blockL 0 (L23_MergeGroups_K1 H0)))
theorem L23_MergeGroups_K2_tame (H0 : Hp) : Tame 94 (L23_MergeGroups_K2 H0) := tame_seq (C := cfg) (kp := cfg.keep 9) (sub (bodyOf Tryz.f9) [1, 1, 1, 1, 0, 1, 0, 0, 1, 1]) (tame_loop (C := cfg) (kp := cfg.keep 9) (sub (bodyOf Tryz.f9) [1, 1, 1, 1, 0, 1, 0, 0]) (tame_block 0 (L23_MergeGroups_K1_tame H0)))
noncomputable def L23_MergeGroups_J5 (x0 x1 x5 x6 x7 : AV) (H0 H : Hp) : Res := CXL cfg (callw cfg) (LPL cfg (cfg.keep 9) 94) (cfg.keep 9) 94 seqL blockL (sub (bodyOf Tryz.f9) [1, 1, 1, 1, 0, 1, 0, 0, 1, 0, 0, 1]) (blockL 1 (L23_MergeGroups_K2 H0)) [(0, x0), (1, x1), (5, x5), (6, x6), (7, x7)] H
noncomputable def L23_MergeGroups_K3 (H0 : Hp) : KL := seqL (fun k al H => CXL cfg (callw cfg) (LPL cfg (cfg.keep 9) 94) (cfg.keep 9) 94 seqL blockL (sub (bodyOf Tryz.f9) [1, 1, 1, 1, 0, 1, 0, 0, 1, 0, 0, 1]) k (trimL (cfg.keep 9) (sub (bodyOf Tryz.f9) [1, 1, 1, 1, 0, 1, 0, 0, 1, 0, 0, 1]) al) H) (blockL 1 (L23_MergeGroups_K2 H0))
theorem L23_MergeGroups_K3_tame (H0 : Hp) : Tame 94 (L23_MergeGroups_K3 H0) := tame_seq (C := cfg) (kp := cfg.keep 9) (sub (bodyOf Tryz.f9) [1, 1, 1, 1, 0, 1, 0, 0, 1, 0, 0, 1]) (tame_block 1 (L23_MergeGroups_K2_tame H0))
noncomputable def L23_MergeGroups_J7 (x0 x1 x5 x6 x7 x8 : AV) (H0 H : Hp) : Res := CXL cfg (callw cfg) (LPL cfg (cfg.keep 9) 94) (cfg.keep 9) 94 seqL blockL (sub (bodyOf Tryz.f9) [1, 1, 1, 1, 0, 1, 0, 0, 1, 0, 0, 0, 1, 0, 0, 1, 1]) (seqL (fun k al H => LPL cfg (cfg.keep 9) 94 (sub (bodyOf Tryz.f9) [1, 1, 1, 1, 0, 1, 0, 0, 1, 0, 0, 0, 1, 0, 0]) k (trimL (cfg.keep 9) (sub (bodyOf Tryz.f9) [1, 1, 1, 1, 0, 1, 0, 0, 1, 0, 0, 0, 1, 0, 0]) al) H) (blockL 2 (L23_MergeGroups_K3 H0))) [(0, x0), (1, x1), (5, x5), (6, x6), (7, x7), (8, x8)] H
noncomputable def L23_MergeGroups_K4 (H0 : Hp) : KL := seqL (fun k al H => CXL cfg (callw cfg) (LPL cfg (cfg.keep 9) 94) (cfg.keep 9) 94 seqL blockL (sub (bodyOf Tryz.f9) [1, 1, 1, 1, 0, 1, 0, 0, 1, 0, 0, 0, 1, 0, 0, 1, 1]) k (trimL (cfg.keep 9) (sub (bodyOf Tryz.f9) [1, 1, 1, 1, 0, 1, 0, 0, 1, 0, 0, 0, 1, 0, 0, 1, 1]) al) H) (seqL (fun k al H => LPL cfg (cfg.keep 9) 94 (sub (bodyOf Tryz.f9) [1, 1, 1, 1, 0, 1, 0, 0, 1, 0, 0, 0, 1, 0, 0]) k (trimL (cfg.keep 9) (sub (bodyOf Tryz.f9) [1, 1, 1, 1, 0, 1, 0, 0, 1, 0, 0, 0, 1, 0, 0]) al) H) (blockL 2 (L23_MergeGroups_K3 H0)))
noncomputable def L23_MergeGroups_J8 (x0 x1 x5 x6 x7 x8 : AV) (H0 H : Hp) : Res := CXL cfg (callw cfg) (LPL cfg (cfg.keep 9) 94) (cfg.keep 9) 94 seqL blockL (sub (bodyOf Tryz.f9) [1, 1, 1, 1, 0, 1, 0, 0, 1, 0, 0, 0, 1, 0, 0, 1, 0, 0, 1]) (blockL 3 (L23_MergeGroups_K4 H0)) [(0, x0), (1, x1), (5, x5), (6, x6), (7, x7), (8, x8)] H
noncomputable def L23_MergeGroups_J6 (x0 x1 x5 x6 x7 x8 : AV) (H0 H : Hp) : Res := CXL cfg (callw cfg) (LPL cfg (cfg.keep 9) 94) (cfg.keep 9) 94 seqL blockL (sub (bodyOf Tryz.f9) [1, 1, 1, 1, 0, 1, 0, 0, 1, 0, 0, 0, 1, 0, 0, 1]) (seqL (fun k al H => LPL cfg (cfg.keep 9) 94 (sub (bodyOf Tryz.f9) [1, 1, 1, 1, 0, 1, 0, 0, 1, 0, 0, 0, 1, 0, 0]) k (trimL (cfg.keep 9) (sub (bodyOf Tryz.f9) [1, 1, 1, 1, 0, 1, 0, 0, 1, 0, 0, 0, 1, 0, 0]) al) H) (blockL 2 (L23_MergeGroups_K3 H0))) [(0, x0), (1, x1), (5, x5), (6, x6), (7, x7), (8, x8)] H
noncomputable def L23_MergeGroups_L2 (x0 x1 x5 x6 x7 x8 : AV) (H0 H : Hp) : Res := LPL cfg (cfg.keep 9) 94 (sub (bodyOf Tryz.f9) [1, 1, 1, 1, 0, 1, 0, 0, 1, 0, 0, 0, 1, 0, 0]) (blockL 2 (L23_MergeGroups_K3 H0)) [(0, x0), (1, x1), (5, x5), (6, x6), (7, x7), (8, x8)] H
noncomputable def L23_MergeGroups_J3 (x0 x1 x5 x6 x7 : AV) (H0 H : Hp) : Res := CXL cfg (callw cfg) (LPL cfg (cfg.keep 9) 94) (cfg.keep 9) 94 seqL blockL (sub (bodyOf Tryz.f9) [1, 1, 1, 1, 0, 1, 0, 0, 1]) (seqL (fun k al H => LPL cfg (cfg.keep 9) 94 (sub (bodyOf Tryz.f9) [1, 1, 1, 1, 0, 1, 0, 0]) k (trimL (cfg.keep 9) (sub (bodyOf Tryz.f9) [1, 1, 1, 1, 0, 1, 0, 0]) al) H) (blockL 0 (L23_MergeGroups_K1 H0))) [(0, x0), (1, x1), (5, x5), (6, x6), (7, x7)] H
noncomputable def L23_MergeGroups_L1 (x0 x1 x5 x6 x7 : AV) (H0 H : Hp) : Res := LPL cfg (cfg.keep 9) 94 (sub (bodyOf Tryz.f9) [1, 1, 1, 1, 0, 1, 0, 0]) (blockL 0 (L23_MergeGroups_K1 H0)) [(0, x0), (1, x1), (5, x5), (6, x6), (7, x7)] H
noncomputable def L23_MergeGroups_J1 (x0 x1 : AV) (H0 H : Hp) : Res := CXL cfg (callw cfg) (LPL cfg (cfg.keep 9) 94) (cfg.keep 9) 94 seqL blockL (sub (bodyOf Tryz.f9) [1, 1]) (retL cfg 94 9 Tryz.f9 H0) [(0, x0), (1, x1)] H
noncomputable def F_L23_MergeGroups (p0 p1 : AV) (H : Hp) : Res :=
  bnd (ibin .gtr p0 (.int .i64 5000)) fun t10 =>
  bnd (gdv t10 false (.tuple []) (some p1)) fun t12 =>
  bnd (gdv t10 false (.tuple []) (ibin .lss t12 (.int .i64 2))) fun t13 =>
  bnd (apick t10 (.bool true) t13) fun t14 =>
  bnd (gdv t14 false (.tuple []) (some p1)) fun t16 =>
  bnd (gdv t14 false (.tuple []) (ibin .gtr t16 (.int .i64 32))) fun t17 =>
  bnd (apick t14 (.bool true) t17) fun t18 =>
  cnd t18
    (bnd (flatC C_L23_awake [] H) fun r19 =>
    some (r19.1, r19.2))
    (L23_MergeGroups_J1 p0 p1 H H)
theorem L23_MergeGroups_J2_eq (x0 x6 : AV) (H0 H : Hp) : L23_MergeGroups_J2 x0 x6 H0 H =
    bnd (ibin .eql x6 x0) fun t82 =>
    bnd (gdv t82 false (.tuple []) (some x0)) fun t84 =>
    bnd (gdv t82 false (.tuple []) (ibin .lss t84 (.int .i64 1))) fun t85 =>
    bnd (gdv t82 false (.tuple []) (some t85)) fun t86 =>
    bnd (gdv t86 true (.tuple []) (some x6)) fun t87 =>
    bnd (gdv t86 true (.tuple []) (ibin .eql t87 (.int .i64 0))) fun t88 =>
    bnd (gdv t82 false (.tuple []) (apick t86 t88 (.bool false))) fun t89 =>
    bnd (apick t82 (.bool true) t89) fun t90 =>
    bnd (gdv t90 true ((.tuple []), H) (flatC C_L23_awake [] H)) fun r92 =>
    bnd (apick t90 r92.1 (.bool false)) fun t93 =>
    some (t93, r92.2) := (CXM_eq [3, 7, 8, 10, 11, 13, 14, 16] _ _ _ _).trans (by kernel_rfl)
theorem L23_MergeGroups_J4_eq (x0 x1 x5 x6 x7 : AV) (H0 H : Hp) : L23_MergeGroups_J4 x0 x1 x5 x6 x7 H0 H =
    bnd (ibin .add x7 (.int .i64 1)) fun t28 =>
    L23_MergeGroups_L1 x0 x1 x5 x6 t28 H0 H := (CXM_eq [3, 7, 8, 10, 11, 13, 14, 16] _ _ _ _).trans (by kernel_rfl)
theorem L23_MergeGroups_J5_eq (x0 x1 x5 x6 x7 : AV) (H0 H : Hp) : L23_MergeGroups_J5 x0 x1 x5 x6 x7 H0 H =
    bnd (aindexS 1 x5 x7) fun t51 =>
    bnd (aload false 1 t51 H) fun t52 =>
    bnd (alenD (.slice 3) t52) fun t53 =>
    bnd (ibin .lss t53 (.int .i64 1)) fun t54 =>
    bnd (gdv t54 false (.tuple []) (some x5)) fun t56 =>
    bnd (gdv t54 false (.tuple []) (some x7)) fun t57 =>
    bnd (gdv t54 false (.tuple []) (aindexS 1 t56 t57)) fun t58 =>
    bnd (gdv t54 false (.tuple []) (aload false 1 t58 H)) fun t59 =>
    bnd (gdv t54 false (.tuple []) (alenD (.slice 3) t59)) fun t60 =>
    bnd (gdv t54 false (.tuple []) (some x1)) fun t61 =>
    bnd (gdv t54 false (.tuple []) (ibin .gtr t60 t61)) fun t62 =>
    bnd (apick t54 (.bool true) t62) fun t63 =>
    bnd (gdv t63 false (.tuple []) (some x7)) fun t65 =>
    bnd (gdv t63 false (.tuple []) (ibin .add t65 (.int .i64 1))) fun t66 =>
    bnd (gdv t63 false (.tuple []) (some x5)) fun t67 =>
    bnd (gdv t63 false (.tuple []) (alenD (.slice 22) t67)) fun t68 =>
    bnd (gdv t63 false (.tuple []) (ibin .lss t66 t68)) fun t69 =>
    bnd (gdv t63 false (.tuple []) (some t69)) fun t70 =>
    bnd (gdv t70 true (.tuple []) (some x5)) fun t71 =>
    bnd (gdv t70 true (.tuple []) (some x7)) fun t72 =>
    bnd (gdv t70 true (.tuple []) (aindexS 1 t71 t72)) fun t73 =>
    bnd (gdv t70 true (.tuple []) (aload false 1 t73 H)) fun t74 =>
    bnd (gdv t70 true (.tuple []) (alenD (.slice 3) t74)) fun t75 =>
    bnd (gdv t70 true (.tuple []) (some x1)) fun t76 =>
    bnd (gdv t70 true (.tuple []) (ibin .neq t75 t76)) fun t77 =>
    bnd (gdv t63 false (.tuple []) (apick t70 t77 (.bool false))) fun t78 =>
    bnd (apick t63 (.bool true) t78) fun t79 =>
    cnd t79
      (some ((.bool false), H))
      (L23_MergeGroups_J4 x0 x1 x5 x6 x7 H0 H) := (CXM_eq [3, 7, 8, 10, 11, 13, 14, 16] _ _ _ _).trans (by kernel_rfl)
theorem L23_MergeGroups_J7_eq (x0 x1 x5 x6 x7 x8 : AV) (H0 H : Hp) : L23_MergeGroups_J7 x0 x1 x5 x6 x7 x8 H0 H =
    bnd (ibin .add x8 (.int .i64 1)) fun t37 =>
    L23_MergeGroups_L2 x0 x1 x5 x6 x7 t37 H0 H := (CXM_eq [3, 7, 8, 10, 11, 13, 14, 16] _ _ _ _).trans (by kernel_rfl)
theorem L23_MergeGroups_J8_eq (x0 x1 x5 x6 x7 x8 : AV) (H0 H : Hp) : L23_MergeGroups_J8 x0 x1 x5 x6 x7 x8 H0 H =
    bnd (ibin .add x6 (.int .i64 1)) fun t48 =>
    L23_MergeGroups_J7 x0 x1 x5 t48 x7 x8 H0 H := (CXM_eq [3, 7, 8, 10, 11, 13, 14, 16] _ _ _ _).trans (by kernel_rfl)
theorem L23_MergeGroups_J6_eq (x0 x1 x5 x6 x7 x8 : AV) (H0 H : Hp) : L23_MergeGroups_J6 x0 x1 x5 x6 x7 x8 H0 H =
    bnd (aindexS 1 x5 x7) fun t40 =>
    bnd (aload false 1 t40 H) fun t41 =>
    bnd (aindexS 1 t41 x8) fun t43 =>
    bnd (aload false 1 t43 H) fun t44 =>
    bnd (ibin .neq t44 x6) fun t46 =>
    cnd t46
      (some ((.bool false), H))
      (L23_MergeGroups_J8 x0 x1 x5 x6 x7 x8 H0 H) := (CXM_eq [3, 7, 8, 10, 11, 13, 14, 16] _ _ _ _).trans (by kernel_rfl)
theorem L23_MergeGroups_L2_eq (x0 x1 x5 x6 x7 x8 : AV) (H0 H : Hp) : L23_MergeGroups_L2 x0 x1 x5 x6 x7 x8 H0 H =
    bnd (aindexS 1 x5 x7) fun t32 =>
    bnd (aload false 1 t32 H) fun t33 =>
    bnd (alenD (.slice 3) t33) fun t34 =>
    bnd (ibin .lss x8 t34) fun t35 =>
    cnd t35
      (L23_MergeGroups_J6 x0 x1 x5 x6 x7 x8 H0 H)
      (L23_MergeGroups_J5 x0 x1 x5 x6 x7 H0 H) := (LPL_eqm (C := cfg) [3, 7, 8, 10, 11, 13, 14, 16] (tame_block 2 (L23_MergeGroups_K3_tame H0)) _ _).trans (by kernel_rfl)
theorem L23_MergeGroups_J3_eq (x0 x1 x5 x6 x7 : AV) (H0 H : Hp) : L23_MergeGroups_J3 x0 x1 x5 x6 x7 H0 H =
    L23_MergeGroups_L2 x0 x1 x5 x6 x7 (.int .i64 0) H0 H := (CXM_eq [3, 7, 8, 10, 11, 13, 14, 16] _ _ _ _).trans (by kernel_rfl)
theorem L23_MergeGroups_L1_eq (x0 x1 x5 x6 x7 : AV) (H0 H : Hp) : L23_MergeGroups_L1 x0 x1 x5 x6 x7 H0 H =
    bnd (alenD (.slice 22) x5) fun t25 =>
    bnd (ibin .lss x7 t25) fun t26 =>
    cnd t26
      (L23_MergeGroups_J3 x0 x1 x5 x6 x7 H0 H)
      (L23_MergeGroups_J2 x0 x6 H0 H) := (LPL_eqm (C := cfg) [3, 7, 8, 10, 11, 13, 14, 16] (tame_block 0 (L23_MergeGroups_K1_tame H0)) _ _).trans (by kernel_rfl)
theorem L23_MergeGroups_J1_eq (x0 x1 : AV) (H0 H : Hp) : L23_MergeGroups_J1 x0 x1 H0 H =
    bnd (flatC C_merge_Plan [x0, x1] H) fun r22 =>
    L23_MergeGroups_L1 x0 x1 r22.1 (.int .i64 0) (.int .i64 0) H0 r22.2 := (CXM_eq [3, 7, 8, 10, 11, 13, 14, 16] _ _ _ _).trans (by kernel_rfl)
theorem F_L23_MergeGroups_eq (p0 p1 : AV) (H : Hp) : C_L23_MergeGroups [p0, p1] H = F_L23_MergeGroups p0 p1 H := (callw_cxm (C := cfg) (fn := Tryz.f9) (c := bodyOf Tryz.f9) (n := 94) [3, 7, 8, 10, 11, 13, 14, 16] Tryz.func9 (by kernel_rfl) (by kernel_rfl) [p0, p1] (by kernel_rfl) H).trans (by kernel_rfl)

noncomputable def merge_Plan_J1 (x5 : AV) (H0 H : Hp) : Res := CXL cfg (callw cfg) (LPL cfg (cfg.keep 39) 38) (cfg.keep 39) 38 seqL blockL (sub (bodyOf Tryz.f39) [1, 1, 1, 1]) (retL cfg 38 39 Tryz.f39 H0) [(5, x5)] H
noncomputable def merge_Plan_K1 (H0 : Hp) : KL := seqL (fun k al H => CXL cfg (callw cfg) (LPL cfg (cfg.keep 39) 38) (cfg.keep 39) 38 seqL blockL (sub (bodyOf Tryz.f39) [1, 1, 1, 1]) k (trimL (cfg.keep 39) (sub (bodyOf Tryz.f39) [1, 1, 1, 1]) al) H) (retL cfg 38 39 Tryz.f39 H0)
theorem merge_Plan_K1_tame (H0 : Hp) : Tame 38 (merge_Plan_K1 H0) := tame_seq (C := cfg) (kp := cfg.keep 39) (sub (bodyOf Tryz.f39) [1, 1, 1, 1]) (tame_ret 39 Tryz.f39 H0)
noncomputable def merge_Plan_J3 (x1 x5 x12 x13 : AV) (H0 H : Hp) : Res := CXL cfg (callw cfg) (LPL cfg (cfg.keep 39) 38) (cfg.keep 39) 38 seqL blockL (sub (bodyOf Tryz.f39) [1, 1, 1, 0, 1, 0, 0, 1, 1, 1]) (seqL (fun k al H => LPL cfg (cfg.keep 39) 38 (sub (bodyOf Tryz.f39) [1, 1, 1, 0, 1, 0, 0]) k (trimL (cfg.keep 39) (sub (bodyOf Tryz.f39) [1, 1, 1, 0, 1, 0, 0]) al) H) (blockL 0 (merge_Plan_K1 H0))) [(1, x1), (5, x5), (12, x12), (13, x13)] H
noncomputable def merge_Plan_K2 (H0 : Hp) : KL := seqL (fun k al H => CXL cfg (callw cfg) (LPL cfg (cfg.keep 39) 38) (cfg.keep 39) 38 seqL blockL (sub (bodyOf Tryz.f39) [1, 1, 1, 0, 1, 0, 0, 1, 1, 1]) k (trimL (cfg.keep 39) (sub (bodyOf Tryz.f39) [1, 1, 1, 0, 1, 0, 0, 1, 1, 1]) al) H) (seqL (fun k al H => LPL cfg (cfg.keep 39) 38 (sub (bodyOf Tryz.f39) [1, 1, 1, 0, 1, 0, 0]) k (trimL (cfg.keep 39) (sub (bodyOf Tryz.f39) [1, 1, 1, 0, 1, 0, 0]) al) H) (blockL 0 (merge_Plan_K1 H0)))
noncomputable def merge_Plan_J4 (x1 x5 x6 x12 x13 : AV) (H0 H : Hp) : Res := CXL cfg (callw cfg) (LPL cfg (cfg.keep 39) 38) (cfg.keep 39) 38 seqL blockL (sub (bodyOf Tryz.f39) [1, 1, 1, 0, 1, 0, 0, 1, 1, 0, 0, 1, 1]) (blockL 1 (merge_Plan_K2 H0)) [(1, x1), (5, x5), (6, x6), (12, x12), (13, x13)] H
noncomputable def merge_Plan_J2 (x1 x5 x12 x13 x14 : AV) (H0 H : Hp) : Res := CXL cfg (callw cfg) (LPL cfg (cfg.keep 39) 38) (cfg.keep 39) 38 seqL blockL (sub (bodyOf Tryz.f39) [1, 1, 1, 0, 1, 0, 0, 1, 1]) (seqL (fun k al H => LPL cfg (cfg.keep 39) 38 (sub (bodyOf Tryz.f39) [1, 1, 1, 0, 1, 0, 0]) k (trimL (cfg.keep 39) (sub (bodyOf Tryz.f39) [1, 1, 1, 0, 1, 0, 0]) al) H) (blockL 0 (merge_Plan_K1 H0))) [(1, x1), (5, x5), (12, x12), (13, x13), (14, x14)] H
noncomputable def merge_Plan_L1 (x1 x5 x12 x13 : AV) (H0 H : Hp) : Res := LPL cfg (cfg.keep 39) 38 (sub (bodyOf Tryz.f39) [1, 1, 1, 0, 1, 0, 0]) (blockL 0 (merge_Plan_K1 H0)) [(1, x1), (5, x5), (12, x12), (13, x13)] H
noncomputable def F_merge_Plan (p0 p1 : AV) (H : Hp) : Res :=
  bnd (amax2 p1 (.int .i64 2)) fun t9 =>
  bnd (amin2 t9 (.int .i64 32)) fun t10 =>
  bnd (amax2 p0 (.int .i64 0)) fun t12 =>
  merge_Plan_L1 t10 .nils t12 (.int .i64 0) H H
theorem merge_Plan_J1_eq (x5 : AV) (H0 H : Hp) : merge_Plan_J1 x5 H0 H =
    some (x5, H) := (CXM_eq [5, 8, 10, 11] _ _ _ _).trans (by kernel_rfl)
theorem merge_Plan_J3_eq (x1 x5 x12 x13 : AV) (H0 H : Hp) : merge_Plan_J3 x1 x5 x12 x13 H0 H =
    bnd (ibin .add x13 (.int .i64 1)) fun t36 =>
    merge_Plan_L1 x1 x5 x12 t36 H0 H := (CXM_eq [5, 8, 10, 11] _ _ _ _).trans (by kernel_rfl)
theorem merge_Plan_J4_eq (x1 x5 x6 x12 x13 : AV) (H0 H : Hp) : merge_Plan_J4 x1 x5 x6 x12 x13 H0 H =
    bnd (alenD (.slice 22) x5) fun t24 =>
    bnd (ibin .sub t24 (.int .i64 1)) fun t25 =>
    bnd (aindexS 1 x5 t25) fun t30 =>
    bnd (aload false 1 t30 H) fun t31 =>
    bnd ((setElems 1 [(0, x6)] [(.int .i64 0)]).map (.vs 1 .clip)) fun t33 =>
    bnd (aappE 1 8 t31 t33 H) fun r34 =>
    bnd (aindexS 1 x5 t25) fun t35 =>
    bnd (astoreU 1 t35 r34.1 r34.2) fun r_13 =>
    merge_Plan_J3 x1 x5 x12 x13 H0 r_13.2 := (CXM_eq [5, 8, 10, 11] _ _ _ _).trans (by kernel_rfl)
theorem merge_Plan_J2_eq (x1 x5 x12 x13 x14 : AV) (H0 H : Hp) : merge_Plan_J2 x1 x5 x12 x13 x14 H0 H =
    bnd (ibin .rem x13 x1) fun t18 =>
    bnd (ibin .eql t18 (.int .i64 0)) fun t19 =>
    cnd t19
      (bnd ((setElems 1 [(0, .nils)] [.nils]).map (.vs 1 .clip)) fun t21 =>
      bnd (aappEL false 1 24 x5 t21 H) fun r22 =>
      merge_Plan_J4 x1 r22.1 x13 x12 x13 H0 r22.2)
      (merge_Plan_J4 x1 x5 x13 x12 x13 H0 H) := (CXM_eq [5, 8, 10, 11] _ _ _ _).trans (by kernel_rfl)
theorem merge_Plan_L1_eq (x1 x5 x12 x13 : AV) (H0 H : Hp) : merge_Plan_L1 x1 x5 x12 x13 H0 H =
    bnd (ibin .lss x13 x12) fun t14 =>
    cnd t14
      (merge_Plan_J2 x1 x5 x12 x13 t14 H0 H)
      (merge_Plan_J1 x5 H0 H) := (LPL_eqm (C := cfg) [5, 8, 10, 11] (tame_block 0 (merge_Plan_K1_tame H0)) _ _).trans (by kernel_rfl)
theorem F_merge_Plan_eq (p0 p1 : AV) (H : Hp) : C_merge_Plan [p0, p1] H = F_merge_Plan p0 p1 H := (callw_cxm (C := cfg) (fn := Tryz.f39) (c := bodyOf Tryz.f39) (n := 38) [5, 8, 10, 11] Tryz.func39 (by kernel_rfl) (by kernel_rfl) [p0, p1] (by kernel_rfl) H).trans (by kernel_rfl)

end Go.Am
