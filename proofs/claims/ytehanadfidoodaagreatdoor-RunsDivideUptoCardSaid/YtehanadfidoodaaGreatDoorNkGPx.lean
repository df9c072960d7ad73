/-
  The functions of the translation over the abstract machine, a further part: written by program (wip/gen.py).
-/
import Derived.Test.YtehanadfidoodaaGreatDoorNkGx
namespace Go.Am
open Go.Proofs
set_option maxRecDepth 100000
set_option linter.unusedVariables false
set_option linter.unusedSimpArgs false

noncomputable def L22_RunsDivide_J1 (x0 x6 : AV) (H0 H : Hp) : Res := CXL cfg (callw cfg) (LPL cfg (cfg.keep 5) 73) (cfg.keep 5) 73 seqL blockL (sub (bodyOf Tryz.f5) [1, 1, 1, 1]) (retL cfg 73 5 Tryz.f5 H0) [(0, x0), (6, x6)] H
noncomputable def L22_RunsDivide_K1 (H0 : Hp) : KL := seqL (fun k al H => CXL cfg (callw cfg) (LPL cfg (cfg.keep 5) 73) (cfg.keep 5) 73 seqL blockL (sub (bodyOf Tryz.f5) [1, 1, 1, 1]) k (trimL (cfg.keep 5) (sub (bodyOf Tryz.f5) [1, 1, 1, 1]) al) H) (retL cfg 73 5 Tryz.f5 H0)
theorem L22_RunsDivide_K1_tame (H0 : Hp) : Tame 73 (L22_RunsDivide_K1 H0) := tame_seq (C := cfg) (kp := cfg.keep 5) (sub (bodyOf Tryz.f5) [1, 1, 1, 1]) (tame_ret 5 Tryz.f5 H0)
noncomputable def L22_RunsDivide_J3 (x0 x1 x5 x6 x7 : AV) (H0 H : Hp) : Res := CXL cfg (callw cfg) (LPL cfg (cfg.keep 5) 73) (cfg.keep 5) 73 seqL blockL (sub (bodyOf Tryz.f5) [1, 1, 1, 0, 1, 0, 0, 1, 1]) (seqL (fun k al H => LPL cfg (cfg.keep 5) 73 (sub (bodyOf Tryz.f5) [1, 1, 1, 0, 1, 0, 0]) k (trimL (cfg.keep 5) (sub (bodyOf Tryz.f5) [1, 1, 1, 0, 1, 0, 0]) al) H) (blockL 0 (L22_RunsDivide_K1 H0))) [(0, x0), (1, x1), (5, x5), (6, x6), (7, x7)] H
noncomputable def L22_RunsDivide_K2 (H0 : Hp) : KL := seqL (fun k al H => CXL cfg (callw cfg) (LPL cfg (cfg.keep 5) 73) (cfg.keep 5) 73 seqL blockL (sub (bodyOf Tryz.f5) [1, 1, 1, 0, 1, 0, 0, 1, 1]) k (trimL (cfg.keep 5) (sub (bodyOf Tryz.f5) [1, 1, 1, 0, 1, 0, 0, 1, 1]) al) H) (seqL (fun k al H => LPL cfg (cfg.keep 5) 73 (sub (bodyOf Tryz.f5) [1, 1, 1, 0, 1, 0, 0]) k (trimL (cfg.keep 5) (sub (bodyOf Tryz.f5) [1, 1, 1, 0, 1, 0, 0]) al) H) (blockL 0 (L22_RunsDivide_K1 H0)))
noncomputable def L22_RunsDivide_J5 (x0 x1 x5 x6 x7 : AV) (H0 H : Hp) : Res := CXL cfg (callw cfg) (LPL cfg (cfg.keep 5) 73) (cfg.keep 5) 73 seqL blockL (sub (bodyOf Tryz.f5) [1, 1, 1, 0, 1, 0, 0, 1, 0, 0, 1, 1]) (blockL 1 (L22_RunsDivide_K2 H0)) [(0, x0), (1, x1), (5, x5), (6, x6), (7, x7)] H
noncomputable def L22_RunsDivide_J4 (x0 x1 x5 x6 x7 : AV) (H0 H : Hp) : Res := CXL cfg (callw cfg) (LPL cfg (cfg.keep 5) 73) (cfg.keep 5) 73 seqL blockL (sub (bodyOf Tryz.f5) [1, 1, 1, 0, 1, 0, 0, 1, 0, 0, 1]) (blockL 1 (L22_RunsDivide_K2 H0)) [(0, x0), (1, x1), (5, x5), (6, x6), (7, x7)] H
noncomputable def L22_RunsDivide_J2 (x0 x1 x5 x6 x7 : AV) (H0 H : Hp) : Res := CXL cfg (callw cfg) (LPL cfg (cfg.keep 5) 73) (cfg.keep 5) 73 seqL blockL (sub (bodyOf Tryz.f5) [1, 1, 1, 0, 1, 0, 0, 1]) (seqL (fun k al H => LPL cfg (cfg.keep 5) 73 (sub (bodyOf Tryz.f5) [1, 1, 1, 0, 1, 0, 0]) k (trimL (cfg.keep 5) (sub (bodyOf Tryz.f5) [1, 1, 1, 0, 1, 0, 0]) al) H) (blockL 0 (L22_RunsDivide_K1 H0))) [(0, x0), (1, x1), (5, x5), (6, x6), (7, x7)] H
noncomputable def L22_RunsDivide_L1 (x0 x1 x5 x6 x7 : AV) (H0 H : Hp) : Res := LPL cfg (cfg.keep 5) 73 (sub (bodyOf Tryz.f5) [1, 1, 1, 0, 1, 0, 0]) (blockL 0 (L22_RunsDivide_K1 H0)) [(0, x0), (1, x1), (5, x5), (6, x6), (7, x7)] H
noncomputable def F_L22_RunsDivide (p0 p1 : AV) (H : Hp) : Res :=
  bnd (flatC C_runs_Split [p0, p1] H) fun r10 =>
  L22_RunsDivide_L1 p0 p1 r10.1 .nils (.int .i64 0) H r10.2
theorem L22_RunsDivide_J1_eq (x0 x6 : AV) (H0 H : Hp) : L22_RunsDivide_J1 x0 x6 H0 H =
    bnd (flatC C_L22_SameLines [x6, x0] H) fun r69 =>
    bnd (gdv r69.1 true ((.tuple []), r69.2) (flatC C_L22_awake [] r69.2)) fun r71 =>
    bnd (apick r69.1 r71.1 (.bool false)) fun t72 =>
    some (t72, r71.2) := (CXM_eq [5, 6, 8, 10, 11] _ _ _ _).trans (by kernel_rfl)
theorem L22_RunsDivide_J3_eq (x0 x1 x5 x6 x7 : AV) (H0 H : Hp) : L22_RunsDivide_J3 x0 x1 x5 x6 x7 H0 H =
    bnd (ibin .add x7 (.int .i64 1)) fun t16 =>
    L22_RunsDivide_L1 x0 x1 x5 x6 t16 H0 H := (CXM_eq [5, 6, 8, 10, 11] _ _ _ _).trans (by kernel_rfl)
theorem L22_RunsDivide_J5_eq (x0 x1 x5 x6 x7 : AV) (H0 H : Hp) : L22_RunsDivide_J5 x0 x1 x5 x6 x7 H0 H =
    bnd (aindexS 1 x5 x7) fun t64 =>
    bnd (aload false 1 t64 H) fun t65 =>
    bnd (aappE 1 16 x6 t65 H) fun r66 =>
    L22_RunsDivide_J3 x0 x1 x5 r66.1 x7 H0 r66.2 := (CXM_eq [5, 6, 8, 10, 11] _ _ _ _).trans (by kernel_rfl)
theorem L22_RunsDivide_J4_eq (x0 x1 x5 x6 x7 : AV) (H0 H : Hp) : L22_RunsDivide_J4 x0 x1 x5 x6 x7 H0 H =
    bnd (ibin .gtr x7 (.int .i64 0)) fun t41 =>
    bnd (gdv t41 true (.tuple []) (some x5)) fun t43 =>
    bnd (gdv t41 true (.tuple []) (some x7)) fun t44 =>
    bnd (gdv t41 true (.tuple []) (ibin .sub t44 (.int .i64 1))) fun t45 =>
    bnd (gdv t41 true (.tuple []) (aindexS 1 t43 t45)) fun t46 =>
    bnd (gdv t41 true (.tuple []) (aload false 1 t46 H)) fun t47 =>
    bnd (gdv t41 true ((.tuple []), H) (flatC C_L22_cost [t47] H)) fun r48 =>
    bnd (gdv t41 true (.tuple []) (some x5)) fun t49 =>
    bnd (gdv t41 true (.tuple []) (some x7)) fun t50 =>
    bnd (gdv t41 true (.tuple []) (aindexS 1 t49 t50)) fun t51 =>
    bnd (gdv t41 true (.tuple []) (aload false 1 t51 r48.2)) fun t52 =>
    bnd (gdv t41 true (.tuple []) (aindexS 1 t52 (.int .i64 0))) fun t53 =>
    bnd (gdv t41 true (.tuple []) (aload false 1 t53 r48.2)) fun t54 =>
    bnd (gdv t41 true (.tuple []) (alenD .string t54)) fun t55 =>
    bnd (gdv t41 true (.tuple []) (ibin .add r48.1 t55)) fun t56 =>
    bnd (gdv t41 true (.tuple []) (ibin .add t56 (.int .i64 16))) fun t57 =>
    bnd (gdv t41 true (.tuple []) (some x1)) fun t58 =>
    bnd (gdv t41 true (.tuple []) (ibin .leq t57 t58)) fun t59 =>
    bnd (apick t41 t59 (.bool false)) fun t60 =>
    cnd t60
      (some ((.bool false), r48.2))
      (L22_RunsDivide_J5 x0 x1 x5 x6 x7 H0 r48.2) := (CXM_eq [5, 6, 8, 10, 11] _ _ _ _).trans (by kernel_rfl)
theorem L22_RunsDivide_J2_eq (x0 x1 x5 x6 x7 : AV) (H0 H : Hp) : L22_RunsDivide_J2 x0 x1 x5 x6 x7 H0 H =
    bnd (aindexS 1 x5 x7) fun t19 =>
    bnd (aload false 1 t19 H) fun t20 =>
    bnd (alenD (.slice 9) t20) fun t21 =>
    bnd (ibin .eql t21 (.int .i64 0)) fun t22 =>
    bnd (gdv t22 false (.tuple []) (some x5)) fun t24 =>
    bnd (gdv t22 false (.tuple []) (some x7)) fun t25 =>
    bnd (gdv t22 false (.tuple []) (aindexS 1 t24 t25)) fun t26 =>
    bnd (gdv t22 false (.tuple []) (aload false 1 t26 H)) fun t27 =>
    bnd (gdv t22 false (.tuple []) (alenD (.slice 9) t27)) fun t28 =>
    bnd (gdv t22 false (.tuple []) (ibin .gtr t28 (.int .i64 1))) fun t29 =>
    bnd (gdv t22 false (.tuple []) (some t29)) fun t30 =>
    bnd (gdv t30 true (.tuple []) (some x5)) fun t31 =>
    bnd (gdv t30 true (.tuple []) (some x7)) fun t32 =>
    bnd (gdv t30 true (.tuple []) (aindexS 1 t31 t32)) fun t33 =>
    bnd (gdv t30 true (.tuple []) (aload false 1 t33 H)) fun t34 =>
    bnd (gdv t30 true ((.tuple []), H) (flatC C_L22_cost [t34] H)) fun r35 =>
    bnd (gdv t30 true (.tuple []) (some x1)) fun t36 =>
    bnd (gdv t30 true (.tuple []) (ibin .gtr r35.1 t36)) fun t37 =>
    bnd (gdv t22 false (.tuple []) (apick t30 t37 (.bool false))) fun t38 =>
    bnd (apick t22 (.bool true) t38) fun t39 =>
    cnd t39
      (some ((.bool false), r35.2))
      (L22_RunsDivide_J4 x0 x1 x5 x6 x7 H0 r35.2) := (CXM_eq [5, 6, 8, 10, 11] _ _ _ _).trans (by kernel_rfl)
theorem L22_RunsDivide_L1_eq (x0 x1 x5 x6 x7 : AV) (H0 H : Hp) : L22_RunsDivide_L1 x0 x1 x5 x6 x7 H0 H =
    bnd (alenD (.slice 32) x5) fun t13 =>
    bnd (ibin .lss x7 t13) fun t14 =>
    cnd t14
      (L22_RunsDivide_J2 x0 x1 x5 x6 x7 H0 H)
      (L22_RunsDivide_J1 x0 x6 H0 H) := (LPL_eqm (C := cfg) [5, 6, 8, 10, 11] (tame_block 0 (L22_RunsDivide_K1_tame H0)) _ _).trans (by kernel_rfl)
theorem F_L22_RunsDivide_eq (p0 p1 : AV) (H : Hp) : C_L22_RunsDivide [p0, p1] H = F_L22_RunsDivide p0 p1 H := (callw_cxm (C := cfg) (fn := Tryz.f5) (c := bodyOf Tryz.f5) (n := 73) [5, 6, 8, 10, 11] Tryz.func5 (by kernel_rfl) (by kernel_rfl) [p0, p1] (by kernel_rfl) H).trans (by kernel_rfl)

noncomputable def runs_Split_J2 (x6 : AV) (H0 H : Hp) : Res := CXL cfg (callw cfg) (LPL cfg (cfg.keep 21) 61) (cfg.keep 21) 61 seqL blockL (sub (bodyOf Tryz.f21) [1, 1, 1, 1, 1, 1]) (retL cfg 61 21 Tryz.f21 H0) [(6, x6)] H
noncomputable def runs_Split_J1 (x5 x6 x7 : AV) (H0 H : Hp) : Res := CXL cfg (callw cfg) (LPL cfg (cfg.keep 21) 61) (cfg.keep 21) 61 seqL blockL (sub (bodyOf Tryz.f21) [1, 1, 1, 1, 1]) (retL cfg 61 21 Tryz.f21 H0) [(5, x5), (6, x6), (7, x7)] H
noncomputable def runs_Split_K1 (H0 : Hp) : KL := seqL (fun k al H => CXL cfg (callw cfg) (LPL cfg (cfg.keep 21) 61) (cfg.keep 21) 61 seqL blockL (sub (bodyOf Tryz.f21) [1, 1, 1, 1, 1]) k (trimL (cfg.keep 21) (sub (bodyOf Tryz.f21) [1, 1, 1, 1, 1]) al) H) (retL cfg 61 21 Tryz.f21 H0)
theorem runs_Split_K1_tame (H0 : Hp) : Tame 61 (runs_Split_K1 H0) := tame_seq (C := cfg) (kp := cfg.keep 21) (sub (bodyOf Tryz.f21) [1, 1, 1, 1, 1]) (tame_ret 21 Tryz.f21 H0)
noncomputable def runs_Split_J4 (x1 x5 x6 x7 x8 x15 x16 x17 : AV) (H0 H : Hp) : Res := CXL cfg (callw cfg) (LPL cfg (cfg.keep 21) 61) (cfg.keep 21) 61 seqL blockL (sub (bodyOf Tryz.f21) [1, 1, 1, 1, 0, 1, 0, 0, 1, 1, 1]) (seqL (fun k al H => LPL cfg (cfg.keep 21) 61 (sub (bodyOf Tryz.f21) [1, 1, 1, 1, 0, 1, 0, 0]) k (trimL (cfg.keep 21) (sub (bodyOf Tryz.f21) [1, 1, 1, 1, 0, 1, 0, 0]) al) H) (blockL 0 (runs_Split_K1 H0))) [(1, x1), (5, x5), (6, x6), (7, x7), (8, x8), (15, x15), (16, x16), (17, x17)] H
noncomputable def runs_Split_K2 (H0 : Hp) : KL := seqL (fun k al H => CXL cfg (callw cfg) (LPL cfg (cfg.keep 21) 61) (cfg.keep 21) 61 seqL blockL (sub (bodyOf Tryz.f21) [1, 1, 1, 1, 0, 1, 0, 0, 1, 1, 1]) k (trimL (cfg.keep 21) (sub (bodyOf Tryz.f21) [1, 1, 1, 1, 0, 1, 0, 0, 1, 1, 1]) al) H) (seqL (fun k al H => LPL cfg (cfg.keep 21) 61 (sub (bodyOf Tryz.f21) [1, 1, 1, 1, 0, 1, 0, 0]) k (trimL (cfg.keep 21) (sub (bodyOf Tryz.f21) [1, 1, 1, 1, 0, 1, 0, 0]) al) H) (blockL 0 (runs_Split_K1 H0)))
noncomputable def runs_Split_J5 (x1 x5 x6 x7 x8 x11 x15 x16 x17 : AV) (H0 H : Hp) : Res := CXL cfg (callw cfg) (LPL cfg (cfg.keep 21) 61) (cfg.keep 21) 61 seqL blockL (sub (bodyOf Tryz.f21) [1, 1, 1, 1, 0, 1, 0, 0, 1, 1, 0, 0, 1, 1, 1]) (blockL 1 (runs_Split_K2 H0)) [(1, x1), (5, x5), (6, x6), (7, x7), (8, x8), (11, x11), (15, x15), (16, x16), (17, x17)] H
noncomputable def runs_Split_J3 (x1 x5 x6 x7 x8 x15 x16 x17 x18 : AV) (H0 H : Hp) : Res := CXL cfg (callw cfg) (LPL cfg (cfg.keep 21) 61) (cfg.keep 21) 61 seqL blockL (sub (bodyOf Tryz.f21) [1, 1, 1, 1, 0, 1, 0, 0, 1, 1]) (seqL (fun k al H => LPL cfg (cfg.keep 21) 61 (sub (bodyOf Tryz.f21) [1, 1, 1, 1, 0, 1, 0, 0]) k (trimL (cfg.keep 21) (sub (bodyOf Tryz.f21) [1, 1, 1, 1, 0, 1, 0, 0]) al) H) (blockL 0 (runs_Split_K1 H0))) [(1, x1), (5, x5), (6, x6), (7, x7), (8, x8), (15, x15), (16, x16), (17, x17), (18, x18)] H
noncomputable def runs_Split_L1 (x1 x5 x6 x7 x8 x15 x16 x17 : AV) (H0 H : Hp) : Res := LPL cfg (cfg.keep 21) 61 (sub (bodyOf Tryz.f21) [1, 1, 1, 1, 0, 1, 0, 0]) (blockL 0 (runs_Split_K1 H0)) [(1, x1), (5, x5), (6, x6), (7, x7), (8, x8), (15, x15), (16, x16), (17, x17)] H
noncomputable def F_runs_Split (p0 p1 : AV) (H : Hp) : Res :=
  bnd (flatC C_slices_Clone_of_string_string_ [p0] H) fun r14 =>
  bnd (alenD (.slice 9) r14.1) fun t16 =>
  runs_Split_L1 p1 r14.1 .nils (.int .i64 0) (.int .i64 0) r14.1 t16 (.int .i64 0) H r14.2
theorem runs_Split_J2_eq (x6 : AV) (H0 H : Hp) : runs_Split_J2 x6 H0 H =
    some (x6, H) := (CXM_eq [6, 11, 12, 13, 16] _ _ _ _).trans (by kernel_rfl)
theorem runs_Split_J1_eq (x5 x6 x7 : AV) (H0 H : Hp) : runs_Split_J1 x5 x6 x7 H0 H =
    bnd (alenD (.slice 9) x5) fun t49 =>
    bnd (ibin .gtr t49 (.int .i64 0)) fun t51 =>
    cnd t51
      (bnd (asliceV 1 x5 (some x7) (some t49) (some t49)) fun t57 =>
      bnd ((setElems 1 [(0, t57)] [.nils]).map (.vs 1 .clip)) fun t58 =>
      bnd (aappEL false 1 24 x6 t58 H) fun r59 =>
      runs_Split_J2 r59.1 H0 r59.2)
      (runs_Split_J2 x6 H0 H) := (CXM_eq [6, 11, 12, 13, 16] _ _ _ _).trans (by kernel_rfl)
theorem runs_Split_J4_eq (x1 x5 x6 x7 x8 x15 x16 x17 : AV) (H0 H : Hp) : runs_Split_J4 x1 x5 x6 x7 x8 x15 x16 x17 H0 H =
    bnd (ibin .add x17 (.int .i64 1)) fun t47 =>
    runs_Split_L1 x1 x5 x6 x7 x8 x15 x16 t47 H0 H := (CXM_eq [6, 11, 12, 13, 16] _ _ _ _).trans (by kernel_rfl)
theorem runs_Split_J5_eq (x1 x5 x6 x7 x8 x11 x15 x16 x17 : AV) (H0 H : Hp) : runs_Split_J5 x1 x5 x6 x7 x8 x11 x15 x16 x17 H0 H =
    bnd (ibin .add x8 x11) fun t46 =>
    runs_Split_J4 x1 x5 x6 x7 t46 x15 x16 x17 H0 H := (CXM_eq [6, 11, 12, 13, 16] _ _ _ _).trans (by kernel_rfl)
theorem runs_Split_J3_eq (x1 x5 x6 x7 x8 x15 x16 x17 x18 : AV) (H0 H : Hp) : runs_Split_J3 x1 x5 x6 x7 x8 x15 x16 x17 x18 H0 H =
    bnd (aindexS 1 x15 x17) fun t20 =>
    bnd (aload false 1 t20 H) fun t21 =>
    bnd (alenD .string t21) fun t23 =>
    bnd (ibin .add t23 (.int .i64 16)) fun t24 =>
    bnd (ibin .gtr x17 x7) fun t27 =>
    bnd (gdv t27 true (.tuple []) (some x8)) fun t29 =>
    bnd (gdv t27 true (.tuple []) (some t24)) fun t30 =>
    bnd (gdv t27 true (.tuple []) (ibin .add t29 t30)) fun t31 =>
    bnd (gdv t27 true (.tuple []) (some x1)) fun t32 =>
    bnd (gdv t27 true (.tuple []) (ibin .gtr t31 t32)) fun t33 =>
    bnd (apick t27 t33 (.bool false)) fun t34 =>
    cnd t34
      (bnd (asliceV 1 x5 (some x7) (some x17) (some x17)) fun t40 =>
      bnd ((setElems 1 [(0, t40)] [.nils]).map (.vs 1 .clip)) fun t41 =>
      bnd (aappEL false 1 24 x6 t41 H) fun r42 =>
      runs_Split_J5 x1 x5 r42.1 x17 (.int .i64 0) t24 x15 x16 x17 H0 r42.2)
      (runs_Split_J5 x1 x5 x6 x7 x8 t24 x15 x16 x17 H0 H) := (CXM_eq [6, 11, 12, 13, 16] _ _ _ _).trans (by kernel_rfl)
theorem runs_Split_L1_eq (x1 x5 x6 x7 x8 x15 x16 x17 : AV) (H0 H : Hp) : runs_Split_L1 x1 x5 x6 x7 x8 x15 x16 x17 H0 H =
    bnd (ibin .lss x17 x16) fun t18 =>
    cnd t18
      (runs_Split_J3 x1 x5 x6 x7 x8 x15 x16 x17 t18 H0 H)
      (runs_Split_J1 x5 x6 x7 H0 H) := (LPL_eqm (C := cfg) [6, 11, 12, 13, 16] (tame_block 0 (runs_Split_K1_tame H0)) _ _).trans (by kernel_rfl)
theorem F_runs_Split_eq (p0 p1 : AV) (H : Hp) : C_runs_Split [p0, p1] H = F_runs_Split p0 p1 H := (callw_cxm (C := cfg) (fn := Tryz.f21) (c := bodyOf Tryz.f21) (n := 61) [6, 11, 12, 13, 16] Tryz.func21 (by kernel_rfl) (by kernel_rfl) [p0, p1] (by kernel_rfl) H).trans (by kernel_rfl)

noncomputable def L22_SameLines_J2 (H0 H : Hp) : Res := CXL cfg (callw cfg) (LPL cfg (cfg.keep 23) 26) (cfg.keep 23) 26 seqL blockL (sub (bodyOf Tryz.f23) [1, 1, 1]) (retL cfg 26 23 Tryz.f23 H0) [] H
noncomputable def L22_SameLines_K1 (H0 : Hp) : KL := seqL (fun k al H => CXL cfg (callw cfg) (LPL cfg (cfg.keep 23) 26) (cfg.keep 23) 26 seqL blockL (sub (bodyOf Tryz.f23) [1, 1, 1]) k (trimL (cfg.keep 23) (sub (bodyOf Tryz.f23) [1, 1, 1]) al) H) (retL cfg 26 23 Tryz.f23 H0)
theorem L22_SameLines_K1_tame (H0 : Hp) : Tame 26 (L22_SameLines_K1 H0) := tame_seq (C := cfg) (kp := cfg.keep 23) (sub (bodyOf Tryz.f23) [1, 1, 1]) (tame_ret 23 Tryz.f23 H0)
noncomputable def L22_SameLines_J4 (x0 x1 x5 : AV) (H0 H : Hp) : Res := CXL cfg (callw cfg) (LPL cfg (cfg.keep 23) 26) (cfg.keep 23) 26 seqL blockL (sub (bodyOf Tryz.f23) [1, 1, 0, 1, 0, 0, 1, 1]) (seqL (fun k al H => LPL cfg (cfg.keep 23) 26 (sub (bodyOf Tryz.f23) [1, 1, 0, 1, 0, 0]) k (trimL (cfg.keep 23) (sub (bodyOf Tryz.f23) [1, 1, 0, 1, 0, 0]) al) H) (blockL 0 (L22_SameLines_K1 H0))) [(0, x0), (1, x1), (5, x5)] H
noncomputable def L22_SameLines_J3 (x0 x1 x5 : AV) (H0 H : Hp) : Res := CXL cfg (callw cfg) (LPL cfg (cfg.keep 23) 26) (cfg.keep 23) 26 seqL blockL (sub (bodyOf Tryz.f23) [1, 1, 0, 1, 0, 0, 1]) (seqL (fun k al H => LPL cfg (cfg.keep 23) 26 (sub (bodyOf Tryz.f23) [1, 1, 0, 1, 0, 0]) k (trimL (cfg.keep 23) (sub (bodyOf Tryz.f23) [1, 1, 0, 1, 0, 0]) al) H) (blockL 0 (L22_SameLines_K1 H0))) [(0, x0), (1, x1), (5, x5)] H
noncomputable def L22_SameLines_L1 (x0 x1 x5 : AV) (H0 H : Hp) : Res := LPL cfg (cfg.keep 23) 26 (sub (bodyOf Tryz.f23) [1, 1, 0, 1, 0, 0]) (blockL 0 (L22_SameLines_K1 H0)) [(0, x0), (1, x1), (5, x5)] H
noncomputable def L22_SameLines_J1 (x0 x1 : AV) (H0 H : Hp) : Res := CXL cfg (callw cfg) (LPL cfg (cfg.keep 23) 26) (cfg.keep 23) 26 seqL blockL (sub (bodyOf Tryz.f23) [1, 1]) (retL cfg 26 23 Tryz.f23 H0) [(0, x0), (1, x1)] H
noncomputable def F_L22_SameLines (p0 p1 : AV) (H : Hp) : Res :=
  bnd (alenD (.slice 9) p0) fun t7 =>
  bnd (alenD (.slice 9) p1) fun t9 =>
  bnd (ibin .neq t7 t9) fun t10 =>
  cnd t10
    (some ((.bool false), H))
    (L22_SameLines_J1 p0 p1 H H)
theorem L22_SameLines_J2_eq (H0 H : Hp) : L22_SameLines_J2 H0 H =
    some ((.bool true), H) := (CXM_eq [3, 5, 6, 8] _ _ _ _).trans (by kernel_rfl)
theorem L22_SameLines_J4_eq (x0 x1 x5 : AV) (H0 H : Hp) : L22_SameLines_J4 x0 x1 x5 H0 H =
    bnd (ibin .add x5 (.int .i64 1)) fun t16 =>
    L22_SameLines_L1 x0 x1 t16 H0 H := (CXM_eq [3, 5, 6, 8] _ _ _ _).trans (by kernel_rfl)
theorem L22_SameLines_J3_eq (x0 x1 x5 : AV) (H0 H : Hp) : L22_SameLines_J3 x0 x1 x5 H0 H =
    bnd (aindexS 1 x0 x5) fun t19 =>
    bnd (aload false 1 t19 H) fun t20 =>
    bnd (aindexS 1 x1 x5) fun t23 =>
    bnd (aload false 1 t23 H) fun t24 =>
    bnd (sbin .neq t20 t24) fun t25 =>
    cnd t25
      (some ((.bool false), H))
      (L22_SameLines_J4 x0 x1 x5 H0 H) := (CXM_eq [3, 5, 6, 8] _ _ _ _).trans (by kernel_rfl)
theorem L22_SameLines_L1_eq (x0 x1 x5 : AV) (H0 H : Hp) : L22_SameLines_L1 x0 x1 x5 H0 H =
    bnd (alenD (.slice 9) x0) fun t13 =>
    bnd (ibin .lss x5 t13) fun t14 =>
    cnd t14
      (L22_SameLines_J3 x0 x1 x5 H0 H)
      (L22_SameLines_J2 H0 H) := (LPL_eqm (C := cfg) [3, 5, 6, 8] (tame_block 0 (L22_SameLines_K1_tame H0)) _ _).trans (by kernel_rfl)
theorem L22_SameLines_J1_eq (x0 x1 : AV) (H0 H : Hp) : L22_SameLines_J1 x0 x1 H0 H =
    L22_SameLines_L1 x0 x1 (.int .i64 0) H0 H := (CXM_eq [3, 5, 6, 8] _ _ _ _).trans (by kernel_rfl)
theorem F_L22_SameLines_eq (p0 p1 : AV) (H : Hp) : C_L22_SameLines [p0, p1] H = F_L22_SameLines p0 p1 H := (callw_cxm (C := cfg) (fn := Tryz.f23) (c := bodyOf Tryz.f23) (n := 26) [3, 5, 6, 8] Tryz.func23 (by kernel_rfl) (by kernel_rfl) [p0, p1] (by kernel_rfl) H).trans (by kernel_rfl)

noncomputable def L22_cost_J1 (x3 : AV) (H0 H : Hp) : Res := CXL cfg (callw cfg) (LPL cfg (cfg.keep 25) 20) (cfg.keep 25) 20 seqL blockL (sub (bodyOf Tryz.f25) [1, 1, 1]) (retL cfg 20 25 Tryz.f25 H0) [(3, x3)] H
noncomputable def L22_cost_K1 (H0 : Hp) : KL := seqL (fun k al H => CXL cfg (callw cfg) (LPL cfg (cfg.keep 25) 20) (cfg.keep 25) 20 seqL blockL (sub (bodyOf Tryz.f25) [1, 1, 1]) k (trimL (cfg.keep 25) (sub (bodyOf Tryz.f25) [1, 1, 1]) al) H) (retL cfg 20 25 Tryz.f25 H0)
theorem L22_cost_K1_tame (H0 : Hp) : Tame 20 (L22_cost_K1 H0) := tame_seq (C := cfg) (kp := cfg.keep 25) (sub (bodyOf Tryz.f25) [1, 1, 1]) (tame_ret 25 Tryz.f25 H0)
noncomputable def L22_cost_J3 (x0 x3 x4 : AV) (H0 H : Hp) : Res := CXL cfg (callw cfg) (LPL cfg (cfg.keep 25) 20) (cfg.keep 25) 20 seqL blockL (sub (bodyOf Tryz.f25) [1, 1, 0, 1, 0, 0, 1, 1]) (seqL (fun k al H => LPL cfg (cfg.keep 25) 20 (sub (bodyOf Tryz.f25) [1, 1, 0, 1, 0, 0]) k (trimL (cfg.keep 25) (sub (bodyOf Tryz.f25) [1, 1, 0, 1, 0, 0]) al) H) (blockL 0 (L22_cost_K1 H0))) [(0, x0), (3, x3), (4, x4)] H
noncomputable def L22_cost_J2 (x0 x3 x4 : AV) (H0 H : Hp) : Res := CXL cfg (callw cfg) (LPL cfg (cfg.keep 25) 20) (cfg.keep 25) 20 seqL blockL (sub (bodyOf Tryz.f25) [1, 1, 0, 1, 0, 0, 1]) (seqL (fun k al H => LPL cfg (cfg.keep 25) 20 (sub (bodyOf Tryz.f25) [1, 1, 0, 1, 0, 0]) k (trimL (cfg.keep 25) (sub (bodyOf Tryz.f25) [1, 1, 0, 1, 0, 0]) al) H) (blockL 0 (L22_cost_K1 H0))) [(0, x0), (3, x3), (4, x4)] H
noncomputable def L22_cost_L1 (x0 x3 x4 : AV) (H0 H : Hp) : Res := LPL cfg (cfg.keep 25) 20 (sub (bodyOf Tryz.f25) [1, 1, 0, 1, 0, 0]) (blockL 0 (L22_cost_K1 H0)) [(0, x0), (3, x3), (4, x4)] H
noncomputable def F_L22_cost (p0 : AV) (H : Hp) : Res :=
  L22_cost_L1 p0 (.int .i64 0) (.int .i64 0) H H
theorem L22_cost_J1_eq (x3 : AV) (H0 H : Hp) : L22_cost_J1 x3 H0 H =
    some (x3, H) := (CXM_eq [4, 5, 6] _ _ _ _).trans (by kernel_rfl)
theorem L22_cost_J3_eq (x0 x3 x4 : AV) (H0 H : Hp) : L22_cost_J3 x0 x3 x4 H0 H =
    bnd (ibin .add x4 (.int .i64 1)) fun t10 =>
    L22_cost_L1 x0 x3 t10 H0 H := (CXM_eq [4, 5, 6] _ _ _ _).trans (by kernel_rfl)
theorem L22_cost_J2_eq (x0 x3 x4 : AV) (H0 H : Hp) : L22_cost_J2 x0 x3 x4 H0 H =
    bnd (aindexS 1 x0 x4) fun t14 =>
    bnd (aload false 1 t14 H) fun t15 =>
    bnd (alenD .string t15) fun t16 =>
    bnd (ibin .add x3 t16) fun t17 =>
    bnd (ibin .add t17 (.int .i64 16)) fun t18 =>
    L22_cost_J3 x0 t18 x4 H0 H := (CXM_eq [4, 5, 6] _ _ _ _).trans (by kernel_rfl)
theorem L22_cost_L1_eq (x0 x3 x4 : AV) (H0 H : Hp) : L22_cost_L1 x0 x3 x4 H0 H =
    bnd (alenD (.slice 9) x0) fun t7 =>
    bnd (ibin .lss x4 t7) fun t8 =>
    cnd t8
      (L22_cost_J2 x0 x3 x4 H0 H)
      (L22_cost_J1 x3 H0 H) := (LPL_eqm (C := cfg) [4, 5, 6] (tame_block 0 (L22_cost_K1_tame H0)) _ _).trans (by kernel_rfl)
theorem F_L22_cost_eq (p0 : AV) (H : Hp) : C_L22_cost [p0] H = F_L22_cost p0 H := (callw_cxm (C := cfg) (fn := Tryz.f25) (c := bodyOf Tryz.f25) (n := 20) [4, 5, 6] Tryz.func25 (by kernel_rfl) (by kernel_rfl) [p0] (by kernel_rfl) H).trans (by kernel_rfl)

end Go.Am
