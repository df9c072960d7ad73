/-
  The functions of the translation over the abstract machine: written by program (wip/gen.py).
-/
import Derived.Test.YtgofohblppkjfaaProg
import Derived.Test.YtgofohblppkjfaaAmS
namespace Go.Am
open Go.Proofs
set_option maxRecDepth 100000
set_option linter.unusedVariables false

def keepList : List (Nat × List (Nat × List Nat)) := [(3, [(3, [0, 1, 2]), (7, [1, 2, 7, 8, 9, 10]), (8, [1, 2, 7, 8, 9, 10]), (9, [1, 2, 7, 8, 9, 10]), (12, [1, 2, 7, 8, 9, 10, 11]), (17, [1, 2, 7, 8, 9, 10]), (21, [])]),
  (4, [(3, [0, 1]), (5, [1, 5, 6, 7]), (6, [1, 5, 6, 7]), (7, [1, 5, 6, 7]), (9, [5, 6])]),
  (5, [(3, [0]), (5, [0, 3, 4]), (6, [0, 3, 4]), (7, [0, 3, 4]), (10, [0, 3, 4, 5]), (12, []), (1000010, [5])]),
  (6, [(3, [0, 1]), (8, [1, 5, 6, 7, 8, 9, 10, 11]), (9, [1, 5, 6, 7, 8, 9, 10, 11]), (10, [1, 5, 6, 7, 8, 9, 10, 11]), (12, [1, 5, 6, 7, 8, 9, 10, 11, 12]), (18, [1, 5, 6, 7, 8, 9, 10, 11, 12, 14]), (23, [1, 5, 6, 7, 8, 9, 11, 14]), (26, [1, 5, 6, 7, 8, 9, 10, 11]), (28, [1, 5, 6, 7, 8, 9, 10, 11]), (30, [])]),
  (7, [(3, [0, 1, 2]), (6, [1, 2, 7, 8, 9]), (7, [1, 2, 7, 8, 9]), (8, [1, 2, 7, 8, 9]), (10, [2, 7, 8]), (12, [2, 7, 8, 10]), (13, [2, 7, 8, 10]), (14, [2, 7, 8, 10]), (25, [2, 7, 8, 10, 11, 12]), (27, [])]),
  (10, [(7, [0, 1])]),
  (11, [(5, [0, 1])]),
  (13, [(2, [0, 3]), (3, [0, 3]), (4, [0, 3]), (6, [])]),
  (15, [(3, [0])]),
  (16, [(3, [0])]),
  (17, [(3, [0])]),
  (18, [(3, [0])]),
  (19, [(12, [4])]),
  (20, [(12, [4])]),
  (22, [(3, [0, 1]), (5, [0, 1]), (7, [0, 1])]),
  (23, [(3, [0, 1]), (5, [0, 1])])]
def userList : List Nat := [3, 4, 5, 6, 7, 8, 9, 10, 11, 12, 13, 14, 15, 16, 17, 18, 19, 20, 21, 22, 23, 24, 25]
def pureList : List Nat := []
def eqList : List Nat := [37]
noncomputable def cfg : Cfg := { P := Try.prog, glob := fun _ => none, user := fun f => userList.contains f, eqok := fun t => eqList.contains t, pure := fun f => pureList.contains f, keep := keepTab keepList }
noncomputable def C_texttoolslaw51_PipeFlows : List AV → Hp → Res := callw cfg 3
noncomputable def C_texttoolslaw51_PipeCalls : List AV → Hp → Res := callw cfg 4
noncomputable def C_texttoolslaw51_PipeNil : List AV → Hp → Res := callw cfg 5
noncomputable def C_texttoolslaw51_PipeOrders : List AV → Hp → Res := callw cfg 6
noncomputable def C_texttoolslaw51_PipeBreaks : List AV → Hp → Res := callw cfg 7
noncomputable def C_texttoolslaw51_awake : List AV → Hp → Res := callw cfg 8
noncomputable def C_pipe_New : List AV → Hp → Res := callw cfg 9
noncomputable def C_pipe_Pipe_Write : List AV → Hp → Res := callw cfg 10
noncomputable def C_pipe_Pipe_Read : List AV → Hp → Res := callw cfg 11
noncomputable def C_pipe_Pipe_CloseWriter : List AV → Hp → Res := callw cfg 12
noncomputable def C_texttoolslaw51_few : List AV → Hp → Res := callw cfg 13
noncomputable def C_texttoolsref51_New : List AV → Hp → Res := callw cfg 14
noncomputable def C_pipe_Pipe_Len : List AV → Hp → Res := callw cfg 15
noncomputable def C_texttoolsref51_Pipe_Len : List AV → Hp → Res := callw cfg 16
noncomputable def C_pipe_Pipe_Free : List AV → Hp → Res := callw cfg 17
noncomputable def C_texttoolsref51_Pipe_Free : List AV → Hp → Res := callw cfg 18
noncomputable def C_texttoolslaw51_do : List AV → Hp → Res := callw cfg 19
noncomputable def C_texttoolslaw51_model : List AV → Hp → Res := callw cfg 20
noncomputable def C_pipe_Pipe_CloseReader : List AV → Hp → Res := callw cfg 21
noncomputable def C_texttoolsref51_Pipe_Write : List AV → Hp → Res := callw cfg 22
noncomputable def C_texttoolsref51_Pipe_Read : List AV → Hp → Res := callw cfg 23
noncomputable def C_texttoolsref51_Pipe_CloseWriter : List AV → Hp → Res := callw cfg 24
noncomputable def C_texttoolsref51_Pipe_CloseReader : List AV → Hp → Res := callw cfg 25

/-! ### texttoolslaw51_PipeFlows -/
noncomputable def texttoolslaw51_PipeFlows_J2 (H0 H : Hp) : Res := CXL cfg (callw cfg) (LPL cfg (cfg.keep 3) 79) (cfg.keep 3) 79 seqL blockL (sub (bodyOf Try.f3) [1, 1, 1, 1, 1, 1]) (retL cfg 79 3 Try.f3 H0) [] H
noncomputable def texttoolslaw51_PipeFlows_K1 (H0 : Hp) : KL := seqL (fun k al H => CXL cfg (callw cfg) (LPL cfg (cfg.keep 3) 79) (cfg.keep 3) 79 seqL blockL (sub (bodyOf Try.f3) [1, 1, 1, 1, 1, 1]) k (trimL (cfg.keep 3) (sub (bodyOf Try.f3) [1, 1, 1, 1, 1, 1]) al) H) (retL cfg 79 3 Try.f3 H0)
theorem texttoolslaw51_PipeFlows_K1_tame (H0 : Hp) : Tame 79 (texttoolslaw51_PipeFlows_K1 H0) := tame_seq (C := cfg) (kp := cfg.keep 3) (sub (bodyOf Try.f3) [1, 1, 1, 1, 1, 1]) (tame_ret 3 Try.f3 H0)
noncomputable def texttoolslaw51_PipeFlows_J4 (x1 x2 x7 x8 x9 x10 : AV) (H0 H : Hp) : Res := CXL cfg (callw cfg) (LPL cfg (cfg.keep 3) 79) (cfg.keep 3) 79 seqL blockL (sub (bodyOf Try.f3) [1, 1, 1, 1, 1, 0, 1, 0, 0, 1, 1]) (seqL (fun k al H => LPL cfg (cfg.keep 3) 79 (sub (bodyOf Try.f3) [1, 1, 1, 1, 1, 0, 1, 0, 0]) k (trimL (cfg.keep 3) (sub (bodyOf Try.f3) [1, 1, 1, 1, 1, 0, 1, 0, 0]) al) H) (blockL 0 (texttoolslaw51_PipeFlows_K1 H0))) [(1, x1), (2, x2), (7, x7), (8, x8), (9, x9), (10, x10)] H
noncomputable def texttoolslaw51_PipeFlows_K2 (H0 : Hp) : KL := seqL (fun k al H => CXL cfg (callw cfg) (LPL cfg (cfg.keep 3) 79) (cfg.keep 3) 79 seqL blockL (sub (bodyOf Try.f3) [1, 1, 1, 1, 1, 0, 1, 0, 0, 1, 1]) k (trimL (cfg.keep 3) (sub (bodyOf Try.f3) [1, 1, 1, 1, 1, 0, 1, 0, 0, 1, 1]) al) H) (seqL (fun k al H => LPL cfg (cfg.keep 3) 79 (sub (bodyOf Try.f3) [1, 1, 1, 1, 1, 0, 1, 0, 0]) k (trimL (cfg.keep 3) (sub (bodyOf Try.f3) [1, 1, 1, 1, 1, 0, 1, 0, 0]) al) H) (blockL 0 (texttoolslaw51_PipeFlows_K1 H0)))
theorem texttoolslaw51_PipeFlows_K2_tame (H0 : Hp) : Tame 79 (texttoolslaw51_PipeFlows_K2 H0) := tame_seq (C := cfg) (kp := cfg.keep 3) (sub (bodyOf Try.f3) [1, 1, 1, 1, 1, 0, 1, 0, 0, 1, 1]) (tame_loop (C := cfg) (kp := cfg.keep 3) (sub (bodyOf Try.f3) [1, 1, 1, 1, 1, 0, 1, 0, 0]) (tame_block 0 (texttoolslaw51_PipeFlows_K1_tame H0)))
noncomputable def texttoolslaw51_PipeFlows_J6 (x1 x2 x7 x8 x9 x10 : AV) (H0 H : Hp) : Res := CXL cfg (callw cfg) (LPL cfg (cfg.keep 3) 79) (cfg.keep 3) 79 seqL blockL (sub (bodyOf Try.f3) [1, 1, 1, 1, 1, 0, 1, 0, 0, 1, 0, 0, 1, 1, 1, 1, 1, 1]) (blockL 1 (texttoolslaw51_PipeFlows_K2 H0)) [(1, x1), (2, x2), (7, x7), (8, x8), (9, x9), (10, x10)] H
noncomputable def texttoolslaw51_PipeFlows_J5 (x1 x2 x7 x8 x9 x10 x11 : AV) (H0 H : Hp) : Res := CXL cfg (callw cfg) (LPL cfg (cfg.keep 3) 79) (cfg.keep 3) 79 seqL blockL (sub (bodyOf Try.f3) [1, 1, 1, 1, 1, 0, 1, 0, 0, 1, 0, 0, 1, 1]) (blockL 1 (texttoolslaw51_PipeFlows_K2 H0)) [(1, x1), (2, x2), (7, x7), (8, x8), (9, x9), (10, x10), (11, x11)] H
noncomputable def texttoolslaw51_PipeFlows_J3 (x1 x2 x7 x8 x9 x10 : AV) (H0 H : Hp) : Res := CXL cfg (callw cfg) (LPL cfg (cfg.keep 3) 79) (cfg.keep 3) 79 seqL blockL (sub (bodyOf Try.f3) [1, 1, 1, 1, 1, 0, 1, 0, 0, 1]) (seqL (fun k al H => LPL cfg (cfg.keep 3) 79 (sub (bodyOf Try.f3) [1, 1, 1, 1, 1, 0, 1, 0, 0]) k (trimL (cfg.keep 3) (sub (bodyOf Try.f3) [1, 1, 1, 1, 1, 0, 1, 0, 0]) al) H) (blockL 0 (texttoolslaw51_PipeFlows_K1 H0))) [(1, x1), (2, x2), (7, x7), (8, x8), (9, x9), (10, x10)] H
noncomputable def texttoolslaw51_PipeFlows_L1 (x1 x2 x7 x8 x9 x10 : AV) (H0 H : Hp) : Res := LPL cfg (cfg.keep 3) 79 (sub (bodyOf Try.f3) [1, 1, 1, 1, 1, 0, 1, 0, 0]) (blockL 0 (texttoolslaw51_PipeFlows_K1 H0)) [(1, x1), (2, x2), (7, x7), (8, x8), (9, x9), (10, x10)] H
noncomputable def texttoolslaw51_PipeFlows_J1 (x0 x1 x2 : AV) (H0 H : Hp) : Res := CXL cfg (callw cfg) (LPL cfg (cfg.keep 3) 79) (cfg.keep 3) 79 seqL blockL (sub (bodyOf Try.f3) [1, 1]) (retL cfg 79 3 Try.f3 H0) [(0, x0), (1, x1), (2, x2)] H
noncomputable def F_texttoolslaw51_PipeFlows (p0 p1 p2 : AV) (H : Hp) : Res :=
  bnd (alenD .string p2) fun t16_35 =>
  bnd (ibin .gtr t16_35 (.int .i64 600)) fun t17_36 =>
  cnd t17_36
    (bnd (C_texttoolslaw51_awake [] H) fun r18_37 =>
    some (r18_37.1, r18_37.2))
    (texttoolslaw51_PipeFlows_J1 p0 p1 p2 H H)
theorem texttoolslaw51_PipeFlows_J2_eq (H0 H : Hp) : texttoolslaw51_PipeFlows_J2 H0 H =
    some ((.bool false), H) := (CXM_eq [3, 8, 9, 12, 17, 21] _ _ _ _).trans (by kernel_rfl)
theorem texttoolslaw51_PipeFlows_J4_eq (x1 x2 x7 x8 x9 x10 : AV) (H0 H : Hp) : texttoolslaw51_PipeFlows_J4 x1 x2 x7 x8 x9 x10 H0 H =
    bnd (ibin .add x10 (.int .i64 1)) fun t29_3 =>
    texttoolslaw51_PipeFlows_L1 x1 x2 x7 x8 x9 t29_3 H0 H := (CXM_eq [3, 8, 9, 12, 17, 21] _ _ _ _).trans (by kernel_rfl)
theorem texttoolslaw51_PipeFlows_J6_eq (x1 x2 x7 x8 x9 x10 : AV) (H0 H : Hp) : texttoolslaw51_PipeFlows_J6 x1 x2 x7 x8 x9 x10 H0 H =
    bnd (alenD .string x2) fun t57_15 =>
    bnd (ibin .eql x9 t57_15) fun t58_16 =>
    bnd (gdv t58_16 true (.tuple []) (some x8)) fun t60_17 =>
    bnd (gdv t58_16 true (.tuple []) (some x2)) fun t61_18 =>
    bnd (gdv t58_16 true (.tuple []) (sbin .eql t60_17 t61_18)) fun t62_19 =>
    bnd (apick t58_16 t62_19 (.bool false)) fun t63_20 =>
    cnd t63_20
      (bnd (C_pipe_Pipe_CloseWriter [x7] H) fun r65_21 =>
      bnd (C_pipe_Pipe_Read [x7, (.int .i64 1)] r65_21.2) fun r68_22 =>
      bnd (aext r68_22.1 0) fun t69_23 =>
      bnd (aext r68_22.1 1) fun t70_24 =>
      bnd (sbin .eql t69_23 (.str [])) fun t72_25 =>
      bnd (gdv t72_25 true (.tuple []) (some t70_24)) fun t74_26 =>
      bnd (apick t72_25 t74_26 (.bool false)) fun t75_27 =>
      bnd (gdv t75_27 true ((.tuple []), r68_22.2) (C_texttoolslaw51_awake [] r68_22.2)) fun r77_28 =>
      bnd (apick t75_27 r77_28.1 (.bool false)) fun t78_29 =>
      some (t78_29, r77_28.2))
      (texttoolslaw51_PipeFlows_J4 x1 x2 x7 x8 x9 x10 H0 H) := (CXM_eq [3, 8, 9, 12, 17, 21] _ _ _ _).trans (by kernel_rfl)
theorem texttoolslaw51_PipeFlows_J5_eq (x1 x2 x7 x8 x9 x10 x11 : AV) (H0 H : Hp) : texttoolslaw51_PipeFlows_J5 x1 x2 x7 x8 x9 x10 x11 H0 H =
    bnd (ibin .add x9 x11) fun t42_8 =>
    bnd (cvInt .i64 x1) fun t46_9 =>
    bnd (ibin .add (.int .i64 1) t46_9) fun t47_10 =>
    bnd (C_pipe_Pipe_Read [x7, t47_10] H) fun r48_11 =>
    bnd (aext r48_11.1 0) fun t49_12 =>
    bnd (aext r48_11.1 1) fun t50_13 =>
    bnd (sbin .add x8 t49_12) fun t53_14 =>
    cnd t50_13
      (some ((.bool false), r48_11.2))
      (texttoolslaw51_PipeFlows_J6 x1 x2 x7 t53_14 t42_8 x10 H0 r48_11.2) := (CXM_eq [3, 8, 9, 12, 17, 21] _ _ _ _).trans (by kernel_rfl)
theorem texttoolslaw51_PipeFlows_J3_eq (x1 x2 x7 x8 x9 x10 : AV) (H0 H : Hp) : texttoolslaw51_PipeFlows_J3 x1 x2 x7 x8 x9 x10 H0 H =
    bnd (asliceS x2 (some x9) none none) fun t34_4 =>
    bnd (C_pipe_Pipe_Write [x7, t34_4] H) fun r35_5 =>
    bnd (aext r35_5.1 0) fun t36_6 =>
    bnd (aext r35_5.1 1) fun t37_7 =>
    bnd (ibin .neq t37_7 (.int .i64 0)) fun t39_30 =>
    cnd t39_30
      (some ((.bool false), r35_5.2))
      (texttoolslaw51_PipeFlows_J5 x1 x2 x7 x8 x9 x10 t36_6 H0 r35_5.2) := (CXM_eq [3, 8, 9, 12, 17, 21] _ _ _ _).trans (by kernel_rfl)
theorem texttoolslaw51_PipeFlows_L1_eq (x1 x2 x7 x8 x9 x10 : AV) (H0 H : Hp) : texttoolslaw51_PipeFlows_L1 x1 x2 x7 x8 x9 x10 H0 H =
    bnd (alenD .string x2) fun t24_31 =>
    bnd (ibin .mul (.int .i64 2) t24_31) fun t25_32 =>
    bnd (ibin .add t25_32 (.int .i64 4)) fun t26_33 =>
    bnd (ibin .lss x10 t26_33) fun t27_34 =>
    cnd t27_34
      (texttoolslaw51_PipeFlows_J3 x1 x2 x7 x8 x9 x10 H0 H)
      (texttoolslaw51_PipeFlows_J2 H0 H) := (LPL_eqm (C := cfg) [3, 8, 9, 12, 17, 21] (tame_block 0 (texttoolslaw51_PipeFlows_K1_tame H0)) _ _).trans (by kernel_rfl)
theorem texttoolslaw51_PipeFlows_J1_eq (x0 x1 x2 : AV) (H0 H : Hp) : texttoolslaw51_PipeFlows_J1 x0 x1 x2 H0 H =
    bnd (cvInt .i64 x0) fun t20_1 =>
    bnd (C_pipe_New [t20_1] H) fun r21_2 =>
    texttoolslaw51_PipeFlows_L1 x1 x2 r21_2.1 (.str []) (.int .i64 0) (.int .i64 0) H0 r21_2.2 := (CXM_eq [3, 8, 9, 12, 17, 21] _ _ _ _).trans (by kernel_rfl)
theorem F_texttoolslaw51_PipeFlows_eq (p0 p1 p2 : AV) (H : Hp) : C_texttoolslaw51_PipeFlows [p0, p1, p2] H = F_texttoolslaw51_PipeFlows p0 p1 p2 H := (callw_cxm (C := cfg) (fn := Try.f3) (c := bodyOf Try.f3) (n := 79) [3, 8, 9, 12, 17, 21] Try.func3 (by kernel_rfl) (by kernel_rfl) [p0, p1, p2] (by kernel_rfl) H).trans (by kernel_rfl)

/-! ### texttoolslaw51_PipeCalls -/
noncomputable def texttoolslaw51_PipeCalls_J2 (x5 x6 : AV) (H0 H : Hp) : Res := CXL cfg (callw cfg) (LPL cfg (cfg.keep 4) 64) (cfg.keep 4) 64 seqL blockL (sub (bodyOf Try.f4) [1, 1, 1, 1]) (retL cfg 64 4 Try.f4 H0) [(5, x5), (6, x6)] H
noncomputable def texttoolslaw51_PipeCalls_K1 (H0 : Hp) : KL := seqL (fun k al H => CXL cfg (callw cfg) (LPL cfg (cfg.keep 4) 64) (cfg.keep 4) 64 seqL blockL (sub (bodyOf Try.f4) [1, 1, 1, 1]) k (trimL (cfg.keep 4) (sub (bodyOf Try.f4) [1, 1, 1, 1]) al) H) (retL cfg 64 4 Try.f4 H0)
theorem texttoolslaw51_PipeCalls_K1_tame (H0 : Hp) : Tame 64 (texttoolslaw51_PipeCalls_K1 H0) := tame_seq (C := cfg) (kp := cfg.keep 4) (sub (bodyOf Try.f4) [1, 1, 1, 1]) (tame_ret 4 Try.f4 H0)
noncomputable def texttoolslaw51_PipeCalls_J4 (x1 x5 x6 x7 : AV) (H0 H : Hp) : Res := CXL cfg (callw cfg) (LPL cfg (cfg.keep 4) 64) (cfg.keep 4) 64 seqL blockL (sub (bodyOf Try.f4) [1, 1, 1, 0, 1, 0, 0, 1, 1]) (seqL (fun k al H => LPL cfg (cfg.keep 4) 64 (sub (bodyOf Try.f4) [1, 1, 1, 0, 1, 0, 0]) k (trimL (cfg.keep 4) (sub (bodyOf Try.f4) [1, 1, 1, 0, 1, 0, 0]) al) H) (blockL 0 (texttoolslaw51_PipeCalls_K1 H0))) [(1, x1), (5, x5), (6, x6), (7, x7)] H
noncomputable def texttoolslaw51_PipeCalls_J3 (x1 x5 x6 x7 : AV) (H0 H : Hp) : Res := CXL cfg (callw cfg) (LPL cfg (cfg.keep 4) 64) (cfg.keep 4) 64 seqL blockL (sub (bodyOf Try.f4) [1, 1, 1, 0, 1, 0, 0, 1]) (seqL (fun k al H => LPL cfg (cfg.keep 4) 64 (sub (bodyOf Try.f4) [1, 1, 1, 0, 1, 0, 0]) k (trimL (cfg.keep 4) (sub (bodyOf Try.f4) [1, 1, 1, 0, 1, 0, 0]) al) H) (blockL 0 (texttoolslaw51_PipeCalls_K1 H0))) [(1, x1), (5, x5), (6, x6), (7, x7)] H
noncomputable def texttoolslaw51_PipeCalls_L1 (x1 x5 x6 x7 : AV) (H0 H : Hp) : Res := LPL cfg (cfg.keep 4) 64 (sub (bodyOf Try.f4) [1, 1, 1, 0, 1, 0, 0]) (blockL 0 (texttoolslaw51_PipeCalls_K1 H0)) [(1, x1), (5, x5), (6, x6), (7, x7)] H
noncomputable def texttoolslaw51_PipeCalls_J1 (x0 x1 : AV) (H0 H : Hp) : Res := CXL cfg (callw cfg) (LPL cfg (cfg.keep 4) 64) (cfg.keep 4) 64 seqL blockL (sub (bodyOf Try.f4) [1, 1]) (retL cfg 64 4 Try.f4 H0) [(0, x0), (1, x1)] H
noncomputable def F_texttoolslaw51_PipeCalls (p0 p1 : AV) (H : Hp) : Res :=
  bnd (C_texttoolslaw51_few [p1] H) fun r9_40 =>
  bnd (aun .not r9_40.1) fun t10_41 =>
  cnd t10_41
    (bnd (C_texttoolslaw51_awake [] r9_40.2) fun r11_42 =>
    some (r11_42.1, r11_42.2))
    (texttoolslaw51_PipeCalls_J1 p0 p1 H r9_40.2)
theorem texttoolslaw51_PipeCalls_J2_eq (x5 x6 : AV) (H0 H : Hp) : texttoolslaw51_PipeCalls_J2 x5 x6 H0 H =
    bnd (C_pipe_Pipe_Len [x5] H) fun r50_3 =>
    bnd (C_texttoolsref51_Pipe_Len [x6] r50_3.2) fun r52_4 =>
    bnd (ibin .eql r50_3.1 r52_4.1) fun t53_5 =>
    bnd (gdv t53_5 true (.tuple []) (some x5)) fun t55_6 =>
    bnd (gdv t53_5 true ((.tuple []), r52_4.2) (C_pipe_Pipe_Free [t55_6] r52_4.2)) fun r56_7 =>
    bnd (gdv t53_5 true (.tuple []) (some x6)) fun t57_8 =>
    bnd (gdv t53_5 true ((.tuple []), r56_7.2) (C_texttoolsref51_Pipe_Free [t57_8] r56_7.2)) fun r58_9 =>
    bnd (gdv t53_5 true (.tuple []) (ibin .eql r56_7.1 r58_9.1)) fun t59_10 =>
    bnd (apick t53_5 t59_10 (.bool false)) fun t60_11 =>
    bnd (gdv t60_11 true ((.tuple []), r58_9.2) (C_texttoolslaw51_awake [] r58_9.2)) fun r62_12 =>
    bnd (apick t60_11 r62_12.1 (.bool false)) fun t63_13 =>
    some (t63_13, r62_12.2) := (CXM_eq [3, 6, 7, 9] _ _ _ _).trans (by kernel_rfl)
theorem texttoolslaw51_PipeCalls_J4_eq (x1 x5 x6 x7 : AV) (H0 H : Hp) : texttoolslaw51_PipeCalls_J4 x1 x5 x6 x7 H0 H =
    bnd (ibin .add x7 (.int .i64 1)) fun t21_14 =>
    texttoolslaw51_PipeCalls_L1 x1 x5 x6 t21_14 H0 H := (CXM_eq [3, 6, 7, 9] _ _ _ _).trans (by kernel_rfl)
theorem texttoolslaw51_PipeCalls_J3_eq (x1 x5 x6 x7 : AV) (H0 H : Hp) : texttoolslaw51_PipeCalls_J3 x1 x5 x6 x7 H0 H =
    bnd (C_pipe_Pipe_Len [x5] H) fun r23_15 =>
    bnd (C_texttoolsref51_Pipe_Len [x6] r23_15.2) fun r25_16 =>
    bnd (ibin .neq r23_15.1 r25_16.1) fun t26_17 =>
    bnd (gdv t26_17 false (.tuple []) (some x5)) fun t28_18 =>
    bnd (gdv t26_17 false ((.tuple []), r25_16.2) (C_pipe_Pipe_Free [t28_18] r25_16.2)) fun r29_19 =>
    bnd (gdv t26_17 false (.tuple []) (some x6)) fun t30_20 =>
    bnd (gdv t26_17 false ((.tuple []), r29_19.2) (C_texttoolsref51_Pipe_Free [t30_20] r29_19.2)) fun r31_21 =>
    bnd (gdv t26_17 false (.tuple []) (ibin .neq r29_19.1 r31_21.1)) fun t32_22 =>
    bnd (apick t26_17 (.bool true) t32_22) fun t33_23 =>
    bnd (gdv t33_23 false (.tuple []) (some x5)) fun t35_24 =>
    bnd (gdv t33_23 false (.tuple []) (some x1)) fun t36_25 =>
    bnd (gdv t33_23 false (.tuple []) (some x7)) fun t37_26 =>
    bnd (gdv t33_23 false (.tuple []) (aindexS 3 t36_25 t37_26)) fun t38_27 =>
    bnd (gdv t33_23 false (.tuple []) (aload true 3 t38_27 r31_21.2)) fun t39_28 =>
    bnd (gdv t33_23 false ((.tuple []), r31_21.2) (C_texttoolslaw51_do [t35_24, t39_28] r31_21.2)) fun r40_29 =>
    bnd (gdv t33_23 false (.tuple []) (some x6)) fun t41_30 =>
    bnd (gdv t33_23 false (.tuple []) (some x1)) fun t42_31 =>
    bnd (gdv t33_23 false (.tuple []) (some x7)) fun t43_32 =>
    bnd (gdv t33_23 false (.tuple []) (aindexS 3 t42_31 t43_32)) fun t44_33 =>
    bnd (gdv t33_23 false (.tuple []) (aloadv true 3 t44_33)) fun t45_34 =>
    bnd (gdv t33_23 false ((.tuple []), r40_29.2) (C_texttoolslaw51_model [t41_30, t45_34] r40_29.2)) fun r46_35 =>
    bnd (gdv t33_23 false (.tuple []) (aeqBin Try.prog cfg.eqok .neq 37 r40_29.1 r46_35.1)) fun t47_36 =>
    bnd (apick t33_23 (.bool true) t47_36) fun t48_37 =>
    cnd t48_37
      (some ((.bool false), r46_35.2))
      (texttoolslaw51_PipeCalls_J4 x1 x5 x6 x7 H0 r46_35.2) := (CXM_eq [3, 6, 7, 9] _ _ _ _).trans (by kernel_rfl)
theorem texttoolslaw51_PipeCalls_L1_eq (x1 x5 x6 x7 : AV) (H0 H : Hp) : texttoolslaw51_PipeCalls_L1 x1 x5 x6 x7 H0 H =
    bnd (alenD (.slice 40) x1) fun t18_38 =>
    bnd (ibin .lss x7 t18_38) fun t19_39 =>
    cnd t19_39
      (texttoolslaw51_PipeCalls_J3 x1 x5 x6 x7 H0 H)
      (texttoolslaw51_PipeCalls_J2 x5 x6 H0 H) := (LPL_eqm (C := cfg) [3, 6, 7, 9] (tame_block 0 (texttoolslaw51_PipeCalls_K1_tame H0)) _ _).trans (by kernel_rfl)
theorem texttoolslaw51_PipeCalls_J1_eq (x0 x1 : AV) (H0 H : Hp) : texttoolslaw51_PipeCalls_J1 x0 x1 H0 H =
    bnd (C_pipe_New [x0] H) fun r13_1 =>
    bnd (C_texttoolsref51_New [x0] r13_1.2) fun r15_2 =>
    texttoolslaw51_PipeCalls_L1 x1 r13_1.1 r15_2.1 (.int .i64 0) H0 r15_2.2 := (CXM_eq [3, 6, 7, 9] _ _ _ _).trans (by kernel_rfl)
theorem F_texttoolslaw51_PipeCalls_eq (p0 p1 : AV) (H : Hp) : C_texttoolslaw51_PipeCalls [p0, p1] H = F_texttoolslaw51_PipeCalls p0 p1 H := (callw_cxm (C := cfg) (fn := Try.f4) (c := bodyOf Try.f4) (n := 64) [3, 6, 7, 9] Try.func4 (by kernel_rfl) (by kernel_rfl) [p0, p1] (by kernel_rfl) H).trans (by kernel_rfl)

/-! ### texttoolslaw51_PipeNil -/
noncomputable def texttoolslaw51_PipeNil_J2 (H0 H : Hp) : Res := CXL cfg (callw cfg) (LPL cfg (cfg.keep 5) 43) (cfg.keep 5) 43 seqL blockL (sub (bodyOf Try.f5) [1, 1, 1, 1]) (retL cfg 43 5 Try.f5 H0) [] H
noncomputable def texttoolslaw51_PipeNil_K1 (H0 : Hp) : KL := seqL (fun k al H => CXL cfg (callw cfg) (LPL cfg (cfg.keep 5) 43) (cfg.keep 5) 43 seqL blockL (sub (bodyOf Try.f5) [1, 1, 1, 1]) k (trimL (cfg.keep 5) (sub (bodyOf Try.f5) [1, 1, 1, 1]) al) H) (retL cfg 43 5 Try.f5 H0)
theorem texttoolslaw51_PipeNil_K1_tame (H0 : Hp) : Tame 43 (texttoolslaw51_PipeNil_K1 H0) := tame_seq (C := cfg) (kp := cfg.keep 5) (sub (bodyOf Try.f5) [1, 1, 1, 1]) (tame_ret 5 Try.f5 H0)
noncomputable def texttoolslaw51_PipeNil_J4 (x0 x3 x4 : AV) (H0 H : Hp) : Res := CXL cfg (callw cfg) (LPL cfg (cfg.keep 5) 43) (cfg.keep 5) 43 seqL blockL (sub (bodyOf Try.f5) [1, 1, 1, 0, 1, 0, 0, 1, 1]) (seqL (fun k al H => LPL cfg (cfg.keep 5) 43 (sub (bodyOf Try.f5) [1, 1, 1, 0, 1, 0, 0]) k (trimL (cfg.keep 5) (sub (bodyOf Try.f5) [1, 1, 1, 0, 1, 0, 0]) al) H) (blockL 0 (texttoolslaw51_PipeNil_K1 H0))) [(0, x0), (3, x3), (4, x4)] H
noncomputable def texttoolslaw51_PipeNil_K2 (H0 : Hp) : KL := seqL (fun k al H => CXL cfg (callw cfg) (LPL cfg (cfg.keep 5) 43) (cfg.keep 5) 43 seqL blockL (sub (bodyOf Try.f5) [1, 1, 1, 0, 1, 0, 0, 1, 1]) k (trimL (cfg.keep 5) (sub (bodyOf Try.f5) [1, 1, 1, 0, 1, 0, 0, 1, 1]) al) H) (seqL (fun k al H => LPL cfg (cfg.keep 5) 43 (sub (bodyOf Try.f5) [1, 1, 1, 0, 1, 0, 0]) k (trimL (cfg.keep 5) (sub (bodyOf Try.f5) [1, 1, 1, 0, 1, 0, 0]) al) H) (blockL 0 (texttoolslaw51_PipeNil_K1 H0)))
theorem texttoolslaw51_PipeNil_K2_tame (H0 : Hp) : Tame 43 (texttoolslaw51_PipeNil_K2 H0) := tame_seq (C := cfg) (kp := cfg.keep 5) (sub (bodyOf Try.f5) [1, 1, 1, 0, 1, 0, 0, 1, 1]) (tame_loop (C := cfg) (kp := cfg.keep 5) (sub (bodyOf Try.f5) [1, 1, 1, 0, 1, 0, 0]) (tame_block 0 (texttoolslaw51_PipeNil_K1_tame H0)))
noncomputable def texttoolslaw51_PipeNil_J5 (x0 x3 x4 x5 : AV) (H0 H : Hp) : Res := CXL cfg (callw cfg) (LPL cfg (cfg.keep 5) 43) (cfg.keep 5) 43 seqL blockL (sub (bodyOf Try.f5) [1, 1, 1, 0, 1, 0, 0, 1, 0, 0, 1, 1]) (blockL 1 (texttoolslaw51_PipeNil_K2 H0)) [(0, x0), (3, x3), (4, x4), (5, x5)] H
noncomputable def texttoolslaw51_PipeNil_J3 (x0 x3 x4 : AV) (H0 H : Hp) : Res := CXL cfg (callw cfg) (LPL cfg (cfg.keep 5) 43) (cfg.keep 5) 43 seqL blockL (sub (bodyOf Try.f5) [1, 1, 1, 0, 1, 0, 0, 1]) (seqL (fun k al H => LPL cfg (cfg.keep 5) 43 (sub (bodyOf Try.f5) [1, 1, 1, 0, 1, 0, 0]) k (trimL (cfg.keep 5) (sub (bodyOf Try.f5) [1, 1, 1, 0, 1, 0, 0]) al) H) (blockL 0 (texttoolslaw51_PipeNil_K1 H0))) [(0, x0), (3, x3), (4, x4)] H
noncomputable def texttoolslaw51_PipeNil_L1 (x0 x3 x4 : AV) (H0 H : Hp) : Res := LPL cfg (cfg.keep 5) 43 (sub (bodyOf Try.f5) [1, 1, 1, 0, 1, 0, 0]) (blockL 0 (texttoolslaw51_PipeNil_K1 H0)) [(0, x0), (3, x3), (4, x4)] H
noncomputable def texttoolslaw51_PipeNil_J1 (x0 : AV) (H0 H : Hp) : Res := CXL cfg (callw cfg) (LPL cfg (cfg.keep 5) 43) (cfg.keep 5) 43 seqL blockL (sub (bodyOf Try.f5) [1, 1]) (retL cfg 43 5 Try.f5 H0) [(0, x0)] H
noncomputable def F_texttoolslaw51_PipeNil (p0 : AV) (H : Hp) : Res :=
  bnd (C_texttoolslaw51_few [p0] H) fun r7_28 =>
  bnd (aun .not r7_28.1) fun t8_29 =>
  cnd t8_29
    (bnd (C_texttoolslaw51_awake [] r7_28.2) fun r9_30 =>
    some (r9_30.1, r9_30.2))
    (texttoolslaw51_PipeNil_J1 p0 H r7_28.2)
theorem texttoolslaw51_PipeNil_J2_eq (H0 H : Hp) : texttoolslaw51_PipeNil_J2 H0 H =
    bnd (C_texttoolslaw51_awake [] H) fun r42_1 =>
    some (r42_1.1, r42_1.2) := (CXM_eq [3, 6, 7, 10, 12] _ _ _ _).trans (by kernel_rfl)
theorem texttoolslaw51_PipeNil_J4_eq (x0 x3 x4 : AV) (H0 H : Hp) : texttoolslaw51_PipeNil_J4 x0 x3 x4 H0 H =
    bnd (ibin .add x4 (.int .i64 1)) fun t15_2 =>
    texttoolslaw51_PipeNil_L1 x0 x3 t15_2 H0 H := (CXM_eq [3, 6, 7, 10, 12] _ _ _ _).trans (by kernel_rfl)
theorem texttoolslaw51_PipeNil_J5_eq (x0 x3 x4 x5 : AV) (H0 H : Hp) : texttoolslaw51_PipeNil_J5 x0 x3 x4 x5 H0 H =
    frzK x5 H fun z5_6 z5_6H =>
    bnd (aindexS 3 x0 x4) fun t27_7 =>
    bnd (aload true 3 t27_7 z5_6H) fun t28_8 =>
    bnd (C_texttoolslaw51_do [x3, t28_8] z5_6H) fun r29_9 =>
    bnd (aloadv true 4 z5_6) fun t30_10 =>
    bnd (aeqBin Try.prog cfg.eqok .neq 37 r29_9.1 t30_10) fun t31_11 =>
    bnd (gdv t31_11 false (.tuple []) (some x3)) fun t33_12 =>
    bnd (gdv t31_11 false ((.tuple []), r29_9.2) (C_pipe_Pipe_Len [t33_12] r29_9.2)) fun r34_13 =>
    bnd (gdv t31_11 false (.tuple []) (ibin .neq r34_13.1 (.int .i64 0))) fun t35_14 =>
    bnd (apick t31_11 (.bool true) t35_14) fun t36_15 =>
    bnd (gdv t36_15 false (.tuple []) (some x3)) fun t38_16 =>
    bnd (gdv t36_15 false ((.tuple []), r34_13.2) (C_pipe_Pipe_Free [t38_16] r34_13.2)) fun r39_17 =>
    bnd (gdv t36_15 false (.tuple []) (ibin .neq r39_17.1 (.int .i64 0))) fun t40_18 =>
    bnd (apick t36_15 (.bool true) t40_18) fun t41_19 =>
    cnd t41_19
      (some ((.bool false), r39_17.2))
      (texttoolslaw51_PipeNil_J4 x0 x3 x4 H0 r39_17.2) := (CXM_eq [3, 6, 7, 10, 12] _ _ _ _).trans (by kernel_rfl)
theorem texttoolslaw51_PipeNil_J3_eq (x0 x3 x4 : AV) (H0 H : Hp) : texttoolslaw51_PipeNil_J3 x0 x3 x4 H0 H =
    bnd (some (.agg [(.str []), (.int .i64 0), (.bool false), (.int .i64 0)])) fun t16_3 =>
    bnd (some ((.ptr H.length 0), H ++ [.cells [(.str []), (.int .i64 0), (.bool false), (.int .i64 0)]])) fun r5_4 =>
    bnd (astoreU 4 r5_4.1 t16_3 r5_4.2) fun r_5 =>
    bnd (aindexS 3 x0 x4) fun t19_20 =>
    bnd (afield 0 t19_20) fun t20_21 =>
    bnd (aload false 1 t20_21 r_5.2) fun t21_22 =>
    bnd (ibin .eql t21_22 (.int .i64 0)) fun t22_23 =>
    cnd t22_23
      (bnd (afield 3 r5_4.1) fun t23_24 =>
      bnd (astoreU 1 t23_24 (.int .i64 5) r_5.2) fun r_25 =>
      texttoolslaw51_PipeNil_J5 x0 x3 x4 r5_4.1 H0 r_25.2)
      (texttoolslaw51_PipeNil_J5 x0 x3 x4 r5_4.1 H0 r_5.2) := (CXM_eq [3, 6, 7, 10, 12] _ _ _ _).trans (by kernel_rfl)
theorem texttoolslaw51_PipeNil_L1_eq (x0 x3 x4 : AV) (H0 H : Hp) : texttoolslaw51_PipeNil_L1 x0 x3 x4 H0 H =
    bnd (alenD (.slice 40) x0) fun t12_26 =>
    bnd (ibin .lss x4 t12_26) fun t13_27 =>
    cnd t13_27
      (texttoolslaw51_PipeNil_J3 x0 x3 x4 H0 H)
      (texttoolslaw51_PipeNil_J2 H0 H) := (LPL_eqm (C := cfg) [3, 6, 7, 10, 12] (tame_block 0 (texttoolslaw51_PipeNil_K1_tame H0)) _ _).trans (by kernel_rfl)
theorem texttoolslaw51_PipeNil_J1_eq (x0 : AV) (H0 H : Hp) : texttoolslaw51_PipeNil_J1 x0 H0 H =
    texttoolslaw51_PipeNil_L1 x0 .nilp (.int .i64 0) H0 H := (CXM_eq [3, 6, 7, 10, 12] _ _ _ _).trans (by kernel_rfl)
theorem F_texttoolslaw51_PipeNil_eq (p0 : AV) (H : Hp) : C_texttoolslaw51_PipeNil [p0] H = F_texttoolslaw51_PipeNil p0 H := (callw_cxm (C := cfg) (fn := Try.f5) (c := bodyOf Try.f5) (n := 43) [3, 6, 7, 10, 12] Try.func5 (by kernel_rfl) (by kernel_rfl) [p0] (by kernel_rfl) H).trans (by kernel_rfl)

/-! ### texttoolslaw51_PipeOrders -/
noncomputable def texttoolslaw51_PipeOrders_J2 (H0 H : Hp) : Res := CXL cfg (callw cfg) (LPL cfg (cfg.keep 6) 158) (cfg.keep 6) 158 seqL blockL (sub (bodyOf Try.f6) [1, 1, 1, 1, 1, 1, 1]) (retL cfg 158 6 Try.f6 H0) [] H
noncomputable def texttoolslaw51_PipeOrders_K1 (H0 : Hp) : KL := seqL (fun k al H => CXL cfg (callw cfg) (LPL cfg (cfg.keep 6) 158) (cfg.keep 6) 158 seqL blockL (sub (bodyOf Try.f6) [1, 1, 1, 1, 1, 1, 1]) k (trimL (cfg.keep 6) (sub (bodyOf Try.f6) [1, 1, 1, 1, 1, 1, 1]) al) H) (retL cfg 158 6 Try.f6 H0)
theorem texttoolslaw51_PipeOrders_K1_tame (H0 : Hp) : Tame 158 (texttoolslaw51_PipeOrders_K1 H0) := tame_seq (C := cfg) (kp := cfg.keep 6) (sub (bodyOf Try.f6) [1, 1, 1, 1, 1, 1, 1]) (tame_ret 6 Try.f6 H0)
noncomputable def texttoolslaw51_PipeOrders_J4 (x1 x5 x6 x7 x8 x9 x10 x11 : AV) (H0 H : Hp) : Res := CXL cfg (callw cfg) (LPL cfg (cfg.keep 6) 158) (cfg.keep 6) 158 seqL blockL (sub (bodyOf Try.f6) [1, 1, 1, 1, 1, 1, 0, 1, 0, 0, 1, 1]) (seqL (fun k al H => LPL cfg (cfg.keep 6) 158 (sub (bodyOf Try.f6) [1, 1, 1, 1, 1, 1, 0, 1, 0, 0]) k (trimL (cfg.keep 6) (sub (bodyOf Try.f6) [1, 1, 1, 1, 1, 1, 0, 1, 0, 0]) al) H) (blockL 0 (texttoolslaw51_PipeOrders_K1 H0))) [(1, x1), (5, x5), (6, x6), (7, x7), (8, x8), (9, x9), (10, x10), (11, x11)] H
noncomputable def texttoolslaw51_PipeOrders_K2 (H0 : Hp) : KL := seqL (fun k al H => CXL cfg (callw cfg) (LPL cfg (cfg.keep 6) 158) (cfg.keep 6) 158 seqL blockL (sub (bodyOf Try.f6) [1, 1, 1, 1, 1, 1, 0, 1, 0, 0, 1, 1]) k (trimL (cfg.keep 6) (sub (bodyOf Try.f6) [1, 1, 1, 1, 1, 1, 0, 1, 0, 0, 1, 1]) al) H) (seqL (fun k al H => LPL cfg (cfg.keep 6) 158 (sub (bodyOf Try.f6) [1, 1, 1, 1, 1, 1, 0, 1, 0, 0]) k (trimL (cfg.keep 6) (sub (bodyOf Try.f6) [1, 1, 1, 1, 1, 1, 0, 1, 0, 0]) al) H) (blockL 0 (texttoolslaw51_PipeOrders_K1 H0)))
theorem texttoolslaw51_PipeOrders_K2_tame (H0 : Hp) : Tame 158 (texttoolslaw51_PipeOrders_K2 H0) := tame_seq (C := cfg) (kp := cfg.keep 6) (sub (bodyOf Try.f6) [1, 1, 1, 1, 1, 1, 0, 1, 0, 0, 1, 1]) (tame_loop (C := cfg) (kp := cfg.keep 6) (sub (bodyOf Try.f6) [1, 1, 1, 1, 1, 1, 0, 1, 0, 0]) (tame_block 0 (texttoolslaw51_PipeOrders_K1_tame H0)))
noncomputable def texttoolslaw51_PipeOrders_J7 (x1 x5 x6 x7 x8 x9 x10 x11 : AV) (H0 H : Hp) : Res := CXL cfg (callw cfg) (LPL cfg (cfg.keep 6) 158) (cfg.keep 6) 158 seqL blockL (sub (bodyOf Try.f6) [1, 1, 1, 1, 1, 1, 0, 1, 0, 0, 1, 0, 0, 1, 1, 1, 1, 1, 1]) (blockL 1 (texttoolslaw51_PipeOrders_K2 H0)) [(1, x1), (5, x5), (6, x6), (7, x7), (8, x8), (9, x9), (10, x10), (11, x11)] H
noncomputable def texttoolslaw51_PipeOrders_J6 (x1 x5 x6 x7 x8 x9 x10 x11 : AV) (H0 H : Hp) : Res := CXL cfg (callw cfg) (LPL cfg (cfg.keep 6) 158) (cfg.keep 6) 158 seqL blockL (sub (bodyOf Try.f6) [1, 1, 1, 1, 1, 1, 0, 1, 0, 0, 1, 0, 0, 1, 1, 1, 1, 1]) (blockL 1 (texttoolslaw51_PipeOrders_K2 H0)) [(1, x1), (5, x5), (6, x6), (7, x7), (8, x8), (9, x9), (10, x10), (11, x11)] H
noncomputable def texttoolslaw51_PipeOrders_K3 (H0 : Hp) : KL := seqL (fun k al H => CXL cfg (callw cfg) (LPL cfg (cfg.keep 6) 158) (cfg.keep 6) 158 seqL blockL (sub (bodyOf Try.f6) [1, 1, 1, 1, 1, 1, 0, 1, 0, 0, 1, 0, 0, 1, 1, 1, 1, 1]) k (trimL (cfg.keep 6) (sub (bodyOf Try.f6) [1, 1, 1, 1, 1, 1, 0, 1, 0, 0, 1, 0, 0, 1, 1, 1, 1, 1]) al) H) (blockL 1 (texttoolslaw51_PipeOrders_K2 H0))
theorem texttoolslaw51_PipeOrders_K3_tame (H0 : Hp) : Tame 158 (texttoolslaw51_PipeOrders_K3 H0) := tame_seq (C := cfg) (kp := cfg.keep 6) (sub (bodyOf Try.f6) [1, 1, 1, 1, 1, 1, 0, 1, 0, 0, 1, 0, 0, 1, 1, 1, 1, 1]) (tame_block 1 (texttoolslaw51_PipeOrders_K2_tame H0))
noncomputable def texttoolslaw51_PipeOrders_J8 (x1 x5 x6 x7 x8 x9 x10 x11 x12 x14 : AV) (H0 H : Hp) : Res := CXL cfg (callw cfg) (LPL cfg (cfg.keep 6) 158) (cfg.keep 6) 158 seqL blockL (sub (bodyOf Try.f6) [1, 1, 1, 1, 1, 1, 0, 1, 0, 0, 1, 0, 0, 1, 1, 1, 1, 0, 1, 0, 1, 0, 1]) (blockL 2 (texttoolslaw51_PipeOrders_K3 H0)) [(1, x1), (5, x5), (6, x6), (7, x7), (8, x8), (9, x9), (10, x10), (11, x11), (12, x12), (14, x14)] H
noncomputable def texttoolslaw51_PipeOrders_J9 (x1 x5 x6 x7 x8 x9 x11 x14 : AV) (H0 H : Hp) : Res := CXL cfg (callw cfg) (LPL cfg (cfg.keep 6) 158) (cfg.keep 6) 158 seqL blockL (sub (bodyOf Try.f6) [1, 1, 1, 1, 1, 1, 0, 1, 0, 0, 1, 0, 0, 1, 1, 1, 1, 0, 1, 0, 1, 1, 1, 0, 1, 1]) (blockL 2 (texttoolslaw51_PipeOrders_K3 H0)) [(1, x1), (5, x5), (6, x6), (7, x7), (8, x8), (9, x9), (11, x11), (14, x14)] H
noncomputable def texttoolslaw51_PipeOrders_J5 (x1 x5 x6 x7 x8 x9 x10 x11 x12 : AV) (H0 H : Hp) : Res := CXL cfg (callw cfg) (LPL cfg (cfg.keep 6) 158) (cfg.keep 6) 158 seqL blockL (sub (bodyOf Try.f6) [1, 1, 1, 1, 1, 1, 0, 1, 0, 0, 1, 0, 0, 1, 1]) (blockL 1 (texttoolslaw51_PipeOrders_K2 H0)) [(1, x1), (5, x5), (6, x6), (7, x7), (8, x8), (9, x9), (10, x10), (11, x11), (12, x12)] H
noncomputable def texttoolslaw51_PipeOrders_J3 (x1 x5 x6 x7 x8 x9 x10 x11 : AV) (H0 H : Hp) : Res := CXL cfg (callw cfg) (LPL cfg (cfg.keep 6) 158) (cfg.keep 6) 158 seqL blockL (sub (bodyOf Try.f6) [1, 1, 1, 1, 1, 1, 0, 1, 0, 0, 1]) (seqL (fun k al H => LPL cfg (cfg.keep 6) 158 (sub (bodyOf Try.f6) [1, 1, 1, 1, 1, 1, 0, 1, 0, 0]) k (trimL (cfg.keep 6) (sub (bodyOf Try.f6) [1, 1, 1, 1, 1, 1, 0, 1, 0, 0]) al) H) (blockL 0 (texttoolslaw51_PipeOrders_K1 H0))) [(1, x1), (5, x5), (6, x6), (7, x7), (8, x8), (9, x9), (10, x10), (11, x11)] H
noncomputable def texttoolslaw51_PipeOrders_L1 (x1 x5 x6 x7 x8 x9 x10 x11 : AV) (H0 H : Hp) : Res := LPL cfg (cfg.keep 6) 158 (sub (bodyOf Try.f6) [1, 1, 1, 1, 1, 1, 0, 1, 0, 0]) (blockL 0 (texttoolslaw51_PipeOrders_K1 H0)) [(1, x1), (5, x5), (6, x6), (7, x7), (8, x8), (9, x9), (10, x10), (11, x11)] H
noncomputable def texttoolslaw51_PipeOrders_J1 (x0 x1 : AV) (H0 H : Hp) : Res := CXL cfg (callw cfg) (LPL cfg (cfg.keep 6) 158) (cfg.keep 6) 158 seqL blockL (sub (bodyOf Try.f6) [1, 1]) (retL cfg 158 6 Try.f6 H0) [(0, x0), (1, x1)] H
noncomputable def F_texttoolslaw51_PipeOrders (p0 p1 : AV) (H : Hp) : Res :=
  bnd (C_texttoolslaw51_few [p1] H) fun r16_115 =>
  bnd (aun .not r16_115.1) fun t17_116 =>
  cnd t17_116
    (bnd (C_texttoolslaw51_awake [] r16_115.2) fun r18_117 =>
    some (r18_117.1, r18_117.2))
    (texttoolslaw51_PipeOrders_J1 p0 p1 H r16_115.2)
theorem texttoolslaw51_PipeOrders_J2_eq (H0 H : Hp) : texttoolslaw51_PipeOrders_J2 H0 H =
    bnd (C_texttoolslaw51_awake [] H) fun r157_4 =>
    some (r157_4.1, r157_4.2) := (CXM_eq [3, 9, 10, 12, 18, 23, 26, 28, 30] _ _ _ _).trans (by kernel_rfl)
theorem texttoolslaw51_PipeOrders_J4_eq (x1 x5 x6 x7 x8 x9 x10 x11 : AV) (H0 H : Hp) : texttoolslaw51_PipeOrders_J4 x1 x5 x6 x7 x8 x9 x10 x11 H0 H =
    bnd (ibin .add x11 (.int .i64 1)) fun t29_5 =>
    texttoolslaw51_PipeOrders_L1 x1 x5 x6 x7 x8 x9 x10 t29_5 H0 H := (CXM_eq [3, 9, 10, 12, 18, 23, 26, 28, 30] _ _ _ _).trans (by kernel_rfl)
theorem texttoolslaw51_PipeOrders_J7_eq (x1 x5 x6 x7 x8 x9 x10 x11 : AV) (H0 H : Hp) : texttoolslaw51_PipeOrders_J7 x1 x5 x6 x7 x8 x9 x10 x11 H0 H =
    bnd (gdv x10 true (.tuple []) (some x9)) fun t128_15 =>
    bnd (gdv x10 true (.tuple []) (aun .not t128_15)) fun t129_16 =>
    bnd (gdv x10 true (.tuple []) (some t129_16)) fun t130_17 =>
    bnd (gdv t130_17 false (.tuple []) (some x7)) fun t131_18 =>
    bnd (gdv t130_17 false (.tuple []) (some x8)) fun t132_19 =>
    bnd (gdv t130_17 false (.tuple []) (sbin .neq t131_18 t132_19)) fun t133_20 =>
    bnd (gdv x10 true (.tuple []) (apick t130_17 (.bool true) t133_20)) fun t134_21 =>
    bnd (apick x10 t134_21 (.bool false)) fun t135_22 =>
    bnd (gdv t135_22 false (.tuple []) (some x9)) fun t137_23 =>
    bnd (gdv t135_22 false (.tuple []) (some t137_23)) fun t138_24 =>
    bnd (gdv t138_24 true (.tuple []) (some x5)) fun t139_25 =>
    bnd (gdv t138_24 true ((.tuple []), H) (C_pipe_Pipe_Free [t139_25] H)) fun r140_26 =>
    bnd (gdv t138_24 true (.tuple []) (ibin .neq r140_26.1 (.int .i64 0))) fun t141_27 =>
    bnd (gdv t135_22 false (.tuple []) (apick t138_24 t141_27 (.bool false))) fun t142_28 =>
    bnd (apick t135_22 (.bool true) t142_28) fun t143_29 =>
    bnd (gdv t143_29 false (.tuple []) (some x9)) fun t145_30 =>
    bnd (gdv t143_29 false (.tuple []) (aun .not t145_30)) fun t146_31 =>
    bnd (gdv t143_29 false (.tuple []) (some t146_31)) fun t147_32 =>
    bnd (gdv t147_32 true (.tuple []) (some x5)) fun t148_33 =>
    bnd (gdv t147_32 true ((.tuple []), r140_26.2) (C_pipe_Pipe_Free [t148_33] r140_26.2)) fun r149_34 =>
    bnd (gdv t147_32 true (.tuple []) (some x6)) fun t150_35 =>
    bnd (gdv t147_32 true (.tuple []) (some x5)) fun t151_36 =>
    bnd (gdv t147_32 true ((.tuple []), r149_34.2) (C_pipe_Pipe_Len [t151_36] r149_34.2)) fun r152_37 =>
    bnd (gdv t147_32 true (.tuple []) (ibin .sub t150_35 r152_37.1)) fun t153_38 =>
    bnd (gdv t147_32 true (.tuple []) (ibin .neq r149_34.1 t153_38)) fun t154_39 =>
    bnd (gdv t143_29 false (.tuple []) (apick t147_32 t154_39 (.bool false))) fun t155_40 =>
    bnd (apick t143_29 (.bool true) t155_40) fun t156_41 =>
    cnd t156_41
      (some ((.bool false), r152_37.2))
      (texttoolslaw51_PipeOrders_J4 x1 x5 x6 x7 x8 x9 x10 x11 H0 r152_37.2) := (CXM_eq [3, 9, 10, 12, 18, 23, 26, 28, 30] _ _ _ _).trans (by kernel_rfl)
theorem texttoolslaw51_PipeOrders_J6_eq (x1 x5 x6 x7 x8 x9 x10 x11 : AV) (H0 H : Hp) : texttoolslaw51_PipeOrders_J6 x1 x5 x6 x7 x8 x9 x10 x11 H0 H =
    bnd (C_pipe_Pipe_Len [x5] H) fun r98_42 =>
    bnd (alenD .string x7) fun t100_43 =>
    bnd (alenD .string x8) fun t102_44 =>
    bnd (ibin .sub t100_43 t102_44) fun t103_45 =>
    bnd (ibin .neq r98_42.1 t103_45) fun t104_46 =>
    bnd (gdv t104_46 false (.tuple []) (some x5)) fun t106_47 =>
    bnd (gdv t104_46 false ((.tuple []), r98_42.2) (C_pipe_Pipe_Len [t106_47] r98_42.2)) fun r107_48 =>
    bnd (gdv t104_46 false (.tuple []) (some x6)) fun t108_49 =>
    bnd (gdv t104_46 false (.tuple []) (ibin .gtr r107_48.1 t108_49)) fun t109_50 =>
    bnd (apick t104_46 (.bool true) t109_50) fun t110_51 =>
    bnd (gdv t110_51 false (.tuple []) (some x8)) fun t112_52 =>
    bnd (gdv t110_51 false (.tuple []) (alenD .string t112_52)) fun t113_53 =>
    bnd (gdv t110_51 false (.tuple []) (some x7)) fun t114_54 =>
    bnd (gdv t110_51 false (.tuple []) (alenD .string t114_54)) fun t115_55 =>
    bnd (gdv t110_51 false (.tuple []) (ibin .gtr t113_53 t115_55)) fun t116_56 =>
    bnd (apick t110_51 (.bool true) t116_56) fun t117_57 =>
    bnd (gdv t117_57 false (.tuple []) (some x7)) fun t119_58 =>
    bnd (gdv t117_57 false (.tuple []) (some x8)) fun t120_59 =>
    bnd (gdv t117_57 false (.tuple []) (alenD .string t120_59)) fun t121_60 =>
    bnd (gdv t117_57 false (.tuple []) (asliceS t119_58 none (some t121_60) none)) fun t122_61 =>
    bnd (gdv t117_57 false (.tuple []) (some x8)) fun t123_62 =>
    bnd (gdv t117_57 false (.tuple []) (sbin .neq t122_61 t123_62)) fun t124_63 =>
    bnd (apick t117_57 (.bool true) t124_63) fun t125_64 =>
    cnd t125_64
      (some ((.bool false), r107_48.2))
      (texttoolslaw51_PipeOrders_J7 x1 x5 x6 x7 x8 x9 x10 x11 H0 r107_48.2) := (CXM_eq [3, 9, 10, 12, 18, 23, 26, 28, 30] _ _ _ _).trans (by kernel_rfl)
theorem texttoolslaw51_PipeOrders_J8_eq (x1 x5 x6 x7 x8 x9 x10 x11 x12 x14 : AV) (H0 H : Hp) : texttoolslaw51_PipeOrders_J8 x1 x5 x6 x7 x8 x9 x10 x11 x12 x14 H0 H =
    bnd (afield 1 x12) fun t66_68 =>
    bnd (aload false 1 t66_68 H) fun t67_69 =>
    bnd (afield 1 x14) fun t68_70 =>
    bnd (aload false 1 t68_70 H) fun t69_71 =>
    bnd (asliceS t67_69 none (some t69_71) none) fun t70_72 =>
    bnd (sbin .add x7 t70_72) fun t71_73 =>
    texttoolslaw51_PipeOrders_J6 x1 x5 x6 t71_73 x8 x9 x10 x11 H0 H := (CXM_eq [3, 9, 10, 12, 18, 23, 26, 28, 30] _ _ _ _).trans (by kernel_rfl)
theorem texttoolslaw51_PipeOrders_J9_eq (x1 x5 x6 x7 x8 x9 x11 x14 : AV) (H0 H : Hp) : texttoolslaw51_PipeOrders_J9 x1 x5 x6 x7 x8 x9 x11 x14 H0 H =
    bnd (afield 2 x14) fun t93_95 =>
    bnd (aload false 1 t93_95 H) fun t94_96 =>
    texttoolslaw51_PipeOrders_J6 x1 x5 x6 x7 x8 x9 t94_96 x11 H0 H := (CXM_eq [3, 9, 10, 12, 18, 23, 26, 28, 30] _ _ _ _).trans (by kernel_rfl)
theorem texttoolslaw51_PipeOrders_J5_eq (x1 x5 x6 x7 x8 x9 x10 x11 x12 : AV) (H0 H : Hp) : texttoolslaw51_PipeOrders_J5 x1 x5 x6 x7 x8 x9 x10 x11 x12 H0 H =
    bnd (C_pipe_Pipe_Free [x5] H) fun r38_10 =>
    bnd (aload true 3 x12 r38_10.2) fun t40_11 =>
    bnd (C_texttoolslaw51_do [x5, t40_11] r38_10.2) fun r41_12 =>
    bnd (some ((.ptr r41_12.2.length 0), r41_12.2 ++ [.cells [(.str []), (.int .i64 0), (.bool false), (.int .i64 0)]])) fun r14_13 =>
    bnd (astoreU 4 r14_13.1 r41_12.1 r14_13.2) fun r_14 =>
    bnd (afield 0 x12) fun t42_65 =>
    bnd (aload false 1 t42_65 r_14.2) fun t43_66 =>
    bnd (ibin .eql t43_66 (.int .i64 0)) fun t45_67 =>
    cnd t45_67
      (bnd (afield 3 r14_13.1) fun t47_74 =>
      bnd (aload false 1 t47_74 r_14.2) fun t48_75 =>
      bnd (ibin .eql t48_75 (.int .i64 8)) fun t49_76 =>
      bnd (ebin .bool .neq x9 t49_76) fun t50_77 =>
      bnd (gdv t50_77 false (.tuple []) (some x9)) fun t52_78 =>
      bnd (gdv t50_77 false (.tuple []) (aun .not t52_78)) fun t53_79 =>
      bnd (gdv t50_77 false (.tuple []) (some t53_79)) fun t54_80 =>
      bnd (gdv t54_80 true (.tuple []) (afield 1 r14_13.1)) fun t55_81 =>
      bnd (gdv t54_80 true (.tuple []) (aload false 1 t55_81 r_14.2)) fun t56_82 =>
      bnd (gdv t54_80 true (.tuple []) (afield 1 x12)) fun t57_83 =>
      bnd (gdv t54_80 true (.tuple []) (aload false 1 t57_83 r_14.2)) fun t58_84 =>
      bnd (gdv t54_80 true (.tuple []) (alenD .string t58_84)) fun t59_85 =>
      bnd (gdv t54_80 true (.tuple []) (some r38_10.1)) fun t60_86 =>
      bnd (gdv t54_80 true (.tuple []) (amin2 t59_85 t60_86)) fun t61_87 =>
      bnd (gdv t54_80 true (.tuple []) (ibin .neq t56_82 t61_87)) fun t62_88 =>
      bnd (gdv t50_77 false (.tuple []) (apick t54_80 t62_88 (.bool false))) fun t63_89 =>
      bnd (apick t50_77 (.bool true) t63_89) fun t64_90 =>
      cnd t64_90
        (some ((.bool false), r_14.2))
        (texttoolslaw51_PipeOrders_J8 x1 x5 x6 x7 x8 x9 x10 x11 x12 r14_13.1 H0 r_14.2))
      (bnd (ibin .eql t43_66 (.int .i64 1)) fun t73_91 =>
      cnd t73_91
        (bnd (afield 0 r14_13.1) fun t75_92 =>
        bnd (aload false 1 t75_92 r_14.2) fun t76_93 =>
        bnd (sbin .add x8 t76_93) fun t77_94 =>
        bnd (gdv x10 true (.tuple []) (afield 0 r14_13.1)) fun t80_97 =>
        bnd (gdv x10 true (.tuple []) (aload false 1 t80_97 r_14.2)) fun t81_98 =>
        bnd (gdv x10 true (.tuple []) (sbin .neq t81_98 (.str []))) fun t82_99 =>
        bnd (apick x10 t82_99 (.bool false)) fun t83_100 =>
        bnd (gdv t83_100 false (.tuple []) (afield 0 r14_13.1)) fun t85_101 =>
        bnd (gdv t83_100 false (.tuple []) (aload false 1 t85_101 r_14.2)) fun t86_102 =>
        bnd (gdv t83_100 false (.tuple []) (alenD .string t86_102)) fun t87_103 =>
        bnd (gdv t83_100 false (.tuple []) (afield 2 x12)) fun t88_104 =>
        bnd (gdv t83_100 false (.tuple []) (aload false 1 t88_104 r_14.2)) fun t89_105 =>
        bnd (gdv t83_100 false (.tuple []) (amax2 (.int .i64 0) t89_105)) fun t90_106 =>
        bnd (gdv t83_100 false (.tuple []) (ibin .gtr t87_103 t90_106)) fun t91_107 =>
        bnd (apick t83_100 (.bool true) t91_107) fun t92_108 =>
        cnd t92_108
          (some ((.bool false), r_14.2))
          (texttoolslaw51_PipeOrders_J9 x1 x5 x6 x7 t77_94 x9 x11 r14_13.1 H0 r_14.2))
        (bnd (ibin .eql t43_66 (.int .i64 2)) fun t96_109 =>
        cnd t96_109
          (texttoolslaw51_PipeOrders_J6 x1 x5 x6 x7 x8 (.bool true) x10 x11 H0 r_14.2)
          (texttoolslaw51_PipeOrders_J6 x1 x5 x6 x7 x8 x9 x10 x11 H0 r_14.2))) := (CXM_eq [3, 9, 10, 12, 18, 23, 26, 28, 30] _ _ _ _).trans (by kernel_rfl)
theorem texttoolslaw51_PipeOrders_J3_eq (x1 x5 x6 x7 x8 x9 x10 x11 : AV) (H0 H : Hp) : texttoolslaw51_PipeOrders_J3 x1 x5 x6 x7 x8 x9 x10 x11 H0 H =
    bnd (aindexS 3 x1 x11) fun t32_6 =>
    bnd (aload true 3 t32_6 H) fun t33_7 =>
    bnd (some ((.ptr H.length 0), H ++ [.cells [(.int .i64 0), (.str []), (.int .i64 0)]])) fun r12_8 =>
    bnd (astoreU 3 r12_8.1 t33_7 r12_8.2) fun r_9 =>
    bnd (afield 0 r12_8.1) fun t34_110 =>
    bnd (aload false 1 t34_110 r_9.2) fun t35_111 =>
    bnd (ibin .eql t35_111 (.int .i64 3)) fun t36_112 =>
    cnd t36_112
      (texttoolslaw51_PipeOrders_J4 x1 x5 x6 x7 x8 x9 x10 x11 H0 r_9.2)
      (texttoolslaw51_PipeOrders_J5 x1 x5 x6 x7 x8 x9 x10 x11 r12_8.1 H0 r_9.2) := (CXM_eq [3, 9, 10, 12, 18, 23, 26, 28, 30] _ _ _ _).trans (by kernel_rfl)
theorem texttoolslaw51_PipeOrders_L1_eq (x1 x5 x6 x7 x8 x9 x10 x11 : AV) (H0 H : Hp) : texttoolslaw51_PipeOrders_L1 x1 x5 x6 x7 x8 x9 x10 x11 H0 H =
    bnd (alenD (.slice 40) x1) fun t26_113 =>
    bnd (ibin .lss x11 t26_113) fun t27_114 =>
    cnd t27_114
      (texttoolslaw51_PipeOrders_J3 x1 x5 x6 x7 x8 x9 x10 x11 H0 H)
      (texttoolslaw51_PipeOrders_J2 H0 H) := (LPL_eqm (C := cfg) [3, 9, 10, 12, 18, 23, 26, 28, 30] (tame_block 0 (texttoolslaw51_PipeOrders_K1_tame H0)) _ _).trans (by kernel_rfl)
theorem texttoolslaw51_PipeOrders_J1_eq (x0 x1 : AV) (H0 H : Hp) : texttoolslaw51_PipeOrders_J1 x0 x1 H0 H =
    bnd (C_pipe_New [x0] H) fun r20_1 =>
    bnd (amin2 x0 (.int .i64 4096)) fun t22_2 =>
    bnd (amax2 (.int .i64 1) t22_2) fun t23_3 =>
    texttoolslaw51_PipeOrders_L1 x1 r20_1.1 t23_3 (.str []) (.str []) (.bool false) (.bool false) (.int .i64 0) H0 r20_1.2 := (CXM_eq [3, 9, 10, 12, 18, 23, 26, 28, 30] _ _ _ _).trans (by kernel_rfl)
theorem F_texttoolslaw51_PipeOrders_eq (p0 p1 : AV) (H : Hp) : C_texttoolslaw51_PipeOrders [p0, p1] H = F_texttoolslaw51_PipeOrders p0 p1 H := (callw_cxm (C := cfg) (fn := Try.f6) (c := bodyOf Try.f6) (n := 158) [3, 9, 10, 12, 18, 23, 26, 28, 30] Try.func6 (by kernel_rfl) (by kernel_rfl) [p0, p1] (by kernel_rfl) H).trans (by kernel_rfl)

/-! ### texttoolslaw51_PipeBreaks -/
noncomputable def texttoolslaw51_PipeBreaks_J3 (H0 H : Hp) : Res := CXL cfg (callw cfg) (LPL cfg (cfg.keep 7) 89) (cfg.keep 7) 89 seqL blockL (sub (bodyOf Try.f7) [1, 1, 1, 1, 1, 1, 1]) (retL cfg 89 7 Try.f7 H0) [] H
noncomputable def texttoolslaw51_PipeBreaks_K1 (H0 : Hp) : KL := seqL (fun k al H => CXL cfg (callw cfg) (LPL cfg (cfg.keep 7) 89) (cfg.keep 7) 89 seqL blockL (sub (bodyOf Try.f7) [1, 1, 1, 1, 1, 1, 1]) k (trimL (cfg.keep 7) (sub (bodyOf Try.f7) [1, 1, 1, 1, 1, 1, 1]) al) H) (retL cfg 89 7 Try.f7 H0)
theorem texttoolslaw51_PipeBreaks_K1_tame (H0 : Hp) : Tame 89 (texttoolslaw51_PipeBreaks_K1 H0) := tame_seq (C := cfg) (kp := cfg.keep 7) (sub (bodyOf Try.f7) [1, 1, 1, 1, 1, 1, 1]) (tame_ret 7 Try.f7 H0)
noncomputable def texttoolslaw51_PipeBreaks_J5 (x2 x7 x8 x10 : AV) (H0 H : Hp) : Res := CXL cfg (callw cfg) (LPL cfg (cfg.keep 7) 89) (cfg.keep 7) 89 seqL blockL (sub (bodyOf Try.f7) [1, 1, 1, 1, 1, 1, 0, 1, 0, 0, 1, 1]) (seqL (fun k al H => LPL cfg (cfg.keep 7) 89 (sub (bodyOf Try.f7) [1, 1, 1, 1, 1, 1, 0, 1, 0, 0]) k (trimL (cfg.keep 7) (sub (bodyOf Try.f7) [1, 1, 1, 1, 1, 1, 0, 1, 0, 0]) al) H) (blockL 2 (texttoolslaw51_PipeBreaks_K1 H0))) [(2, x2), (7, x7), (8, x8), (10, x10)] H
noncomputable def texttoolslaw51_PipeBreaks_K2 (H0 : Hp) : KL := seqL (fun k al H => CXL cfg (callw cfg) (LPL cfg (cfg.keep 7) 89) (cfg.keep 7) 89 seqL blockL (sub (bodyOf Try.f7) [1, 1, 1, 1, 1, 1, 0, 1, 0, 0, 1, 1]) k (trimL (cfg.keep 7) (sub (bodyOf Try.f7) [1, 1, 1, 1, 1, 1, 0, 1, 0, 0, 1, 1]) al) H) (seqL (fun k al H => LPL cfg (cfg.keep 7) 89 (sub (bodyOf Try.f7) [1, 1, 1, 1, 1, 1, 0, 1, 0, 0]) k (trimL (cfg.keep 7) (sub (bodyOf Try.f7) [1, 1, 1, 1, 1, 1, 0, 1, 0, 0]) al) H) (blockL 2 (texttoolslaw51_PipeBreaks_K1 H0)))
theorem texttoolslaw51_PipeBreaks_K2_tame (H0 : Hp) : Tame 89 (texttoolslaw51_PipeBreaks_K2 H0) := tame_seq (C := cfg) (kp := cfg.keep 7) (sub (bodyOf Try.f7) [1, 1, 1, 1, 1, 1, 0, 1, 0, 0, 1, 1]) (tame_loop (C := cfg) (kp := cfg.keep 7) (sub (bodyOf Try.f7) [1, 1, 1, 1, 1, 1, 0, 1, 0, 0]) (tame_block 2 (texttoolslaw51_PipeBreaks_K1_tame H0)))
noncomputable def texttoolslaw51_PipeBreaks_J6 (x2 x7 x8 x10 x11 x12 : AV) (H0 H : Hp) : Res := CXL cfg (callw cfg) (LPL cfg (cfg.keep 7) 89) (cfg.keep 7) 89 seqL blockL (sub (bodyOf Try.f7) [1, 1, 1, 1, 1, 1, 0, 1, 0, 0, 1, 0, 0, 1, 1, 1]) (blockL 3 (texttoolslaw51_PipeBreaks_K2 H0)) [(2, x2), (7, x7), (8, x8), (10, x10), (11, x11), (12, x12)] H
noncomputable def texttoolslaw51_PipeBreaks_J4 (x2 x7 x8 x10 : AV) (H0 H : Hp) : Res := CXL cfg (callw cfg) (LPL cfg (cfg.keep 7) 89) (cfg.keep 7) 89 seqL blockL (sub (bodyOf Try.f7) [1, 1, 1, 1, 1, 1, 0, 1, 0, 0, 1]) (seqL (fun k al H => LPL cfg (cfg.keep 7) 89 (sub (bodyOf Try.f7) [1, 1, 1, 1, 1, 1, 0, 1, 0, 0]) k (trimL (cfg.keep 7) (sub (bodyOf Try.f7) [1, 1, 1, 1, 1, 1, 0, 1, 0, 0]) al) H) (blockL 2 (texttoolslaw51_PipeBreaks_K1 H0))) [(2, x2), (7, x7), (8, x8), (10, x10)] H
noncomputable def texttoolslaw51_PipeBreaks_L1 (x2 x7 x8 x10 : AV) (H0 H : Hp) : Res := LPL cfg (cfg.keep 7) 89 (sub (bodyOf Try.f7) [1, 1, 1, 1, 1, 1, 0, 1, 0, 0]) (blockL 2 (texttoolslaw51_PipeBreaks_K1 H0)) [(2, x2), (7, x7), (8, x8), (10, x10)] H
noncomputable def texttoolslaw51_PipeBreaks_J2 (x2 x7 x8 : AV) (H0 H : Hp) : Res := CXL cfg (callw cfg) (LPL cfg (cfg.keep 7) 89) (cfg.keep 7) 89 seqL blockL (sub (bodyOf Try.f7) [1, 1, 1, 1, 1]) (retL cfg 89 7 Try.f7 H0) [(2, x2), (7, x7), (8, x8)] H
noncomputable def texttoolslaw51_PipeBreaks_K3 (H0 : Hp) : KL := seqL (fun k al H => CXL cfg (callw cfg) (LPL cfg (cfg.keep 7) 89) (cfg.keep 7) 89 seqL blockL (sub (bodyOf Try.f7) [1, 1, 1, 1, 1]) k (trimL (cfg.keep 7) (sub (bodyOf Try.f7) [1, 1, 1, 1, 1]) al) H) (retL cfg 89 7 Try.f7 H0)
theorem texttoolslaw51_PipeBreaks_K3_tame (H0 : Hp) : Tame 89 (texttoolslaw51_PipeBreaks_K3 H0) := tame_seq (C := cfg) (kp := cfg.keep 7) (sub (bodyOf Try.f7) [1, 1, 1, 1, 1]) (tame_ret 7 Try.f7 H0)
noncomputable def texttoolslaw51_PipeBreaks_J8 (x1 x2 x7 x8 x9 : AV) (H0 H : Hp) : Res := CXL cfg (callw cfg) (LPL cfg (cfg.keep 7) 89) (cfg.keep 7) 89 seqL blockL (sub (bodyOf Try.f7) [1, 1, 1, 1, 0, 1, 0, 0, 1, 1]) (seqL (fun k al H => LPL cfg (cfg.keep 7) 89 (sub (bodyOf Try.f7) [1, 1, 1, 1, 0, 1, 0, 0]) k (trimL (cfg.keep 7) (sub (bodyOf Try.f7) [1, 1, 1, 1, 0, 1, 0, 0]) al) H) (blockL 0 (texttoolslaw51_PipeBreaks_K3 H0))) [(1, x1), (2, x2), (7, x7), (8, x8), (9, x9)] H
noncomputable def texttoolslaw51_PipeBreaks_J7 (x1 x2 x7 x8 x9 : AV) (H0 H : Hp) : Res := CXL cfg (callw cfg) (LPL cfg (cfg.keep 7) 89) (cfg.keep 7) 89 seqL blockL (sub (bodyOf Try.f7) [1, 1, 1, 1, 0, 1, 0, 0, 1]) (seqL (fun k al H => LPL cfg (cfg.keep 7) 89 (sub (bodyOf Try.f7) [1, 1, 1, 1, 0, 1, 0, 0]) k (trimL (cfg.keep 7) (sub (bodyOf Try.f7) [1, 1, 1, 1, 0, 1, 0, 0]) al) H) (blockL 0 (texttoolslaw51_PipeBreaks_K3 H0))) [(1, x1), (2, x2), (7, x7), (8, x8), (9, x9)] H
noncomputable def texttoolslaw51_PipeBreaks_L2 (x1 x2 x7 x8 x9 : AV) (H0 H : Hp) : Res := LPL cfg (cfg.keep 7) 89 (sub (bodyOf Try.f7) [1, 1, 1, 1, 0, 1, 0, 0]) (blockL 0 (texttoolslaw51_PipeBreaks_K3 H0)) [(1, x1), (2, x2), (7, x7), (8, x8), (9, x9)] H
noncomputable def texttoolslaw51_PipeBreaks_J1 (x0 x1 x2 : AV) (H0 H : Hp) : Res := CXL cfg (callw cfg) (LPL cfg (cfg.keep 7) 89) (cfg.keep 7) 89 seqL blockL (sub (bodyOf Try.f7) [1, 1]) (retL cfg 89 7 Try.f7 H0) [(0, x0), (1, x1), (2, x2)] H
noncomputable def F_texttoolslaw51_PipeBreaks (p0 p1 p2 : AV) (H : Hp) : Res :=
  bnd (C_texttoolslaw51_few [p1] H) fun r14_51 =>
  bnd (aun .not r14_51.1) fun t15_52 =>
  bnd (gdv t15_52 false (.tuple []) (some p2)) fun t17_53 =>
  bnd (gdv t15_52 false ((.tuple []), r14_51.2) (C_texttoolslaw51_few [t17_53] r14_51.2)) fun r18_54 =>
  bnd (gdv t15_52 false (.tuple []) (aun .not r18_54.1)) fun t19_55 =>
  bnd (apick t15_52 (.bool true) t19_55) fun t20_56 =>
  cnd t20_56
    (bnd (C_texttoolslaw51_awake [] r18_54.2) fun r21_57 =>
    some (r21_57.1, r21_57.2))
    (texttoolslaw51_PipeBreaks_J1 p0 p1 p2 H r18_54.2)
theorem texttoolslaw51_PipeBreaks_J3_eq (H0 H : Hp) : texttoolslaw51_PipeBreaks_J3 H0 H =
    bnd (C_texttoolslaw51_awake [] H) fun r88_3 =>
    some (r88_3.1, r88_3.2) := (CXM_eq [3, 7, 8, 10, 13, 14, 25, 27] _ _ _ _).trans (by kernel_rfl)
theorem texttoolslaw51_PipeBreaks_J5_eq (x2 x7 x8 x10 : AV) (H0 H : Hp) : texttoolslaw51_PipeBreaks_J5 x2 x7 x8 x10 H0 H =
    bnd (ibin .add x10 (.int .i64 1)) fun t52_4 =>
    texttoolslaw51_PipeBreaks_L1 x2 x7 x8 t52_4 H0 H := (CXM_eq [3, 7, 8, 10, 13, 14, 25, 27] _ _ _ _).trans (by kernel_rfl)
theorem texttoolslaw51_PipeBreaks_J6_eq (x2 x7 x8 x10 x11 x12 : AV) (H0 H : Hp) : texttoolslaw51_PipeBreaks_J6 x2 x7 x8 x10 x11 x12 H0 H =
    bnd (aload true 4 x11 H) fun t75_13 =>
    bnd (aload true 4 x12 H) fun t76_14 =>
    bnd (aeqBin Try.prog cfg.eqok .neq 37 t75_13 t76_14) fun t77_15 =>
    bnd (gdv t77_15 false (.tuple []) (some x7)) fun t79_16 =>
    bnd (gdv t77_15 false ((.tuple []), H) (C_pipe_Pipe_Len [t79_16] H)) fun r80_17 =>
    bnd (gdv t77_15 false (.tuple []) (ibin .neq r80_17.1 (.int .i64 0))) fun t81_18 =>
    bnd (apick t77_15 (.bool true) t81_18) fun t82_19 =>
    bnd (gdv t82_19 false (.tuple []) (some x7)) fun t84_20 =>
    bnd (gdv t82_19 false ((.tuple []), r80_17.2) (C_pipe_Pipe_Free [t84_20] r80_17.2)) fun r85_21 =>
    bnd (gdv t82_19 false (.tuple []) (ibin .neq r85_21.1 (.int .i64 0))) fun t86_22 =>
    bnd (apick t82_19 (.bool true) t86_22) fun t87_23 =>
    cnd t87_23
      (some ((.bool false), r85_21.2))
      (texttoolslaw51_PipeBreaks_J5 x2 x7 x8 x10 H0 r85_21.2) := (CXM_eq [3, 7, 8, 10, 13, 14, 25, 27] _ _ _ _).trans (by kernel_rfl)
theorem texttoolslaw51_PipeBreaks_J4_eq (x2 x7 x8 x10 : AV) (H0 H : Hp) : texttoolslaw51_PipeBreaks_J4 x2 x7 x8 x10 H0 H =
    bnd (aindexS 3 x2 x10) fun t56_5 =>
    bnd (aload true 3 t56_5 H) fun t57_6 =>
    bnd (C_texttoolslaw51_do [x7, t57_6] H) fun r58_7 =>
    bnd (some ((.ptr r58_7.2.length 0), r58_7.2 ++ [.cells [(.str []), (.int .i64 0), (.bool false), (.int .i64 0)]])) fun r11_8 =>
    bnd (astoreU 4 r11_8.1 r58_7.1 r11_8.2) fun r_9 =>
    bnd (some (.agg [(.str []), (.int .i64 0), (.bool false), (.int .i64 0)])) fun t59_10 =>
    bnd (some ((.ptr r_9.2.length 0), r_9.2 ++ [.cells [(.str []), (.int .i64 0), (.bool false), (.int .i64 0)]])) fun r12_11 =>
    bnd (astoreU 4 r12_11.1 t59_10 r12_11.2) fun r_12 =>
    bnd (aindexS 3 x2 x10) fun t62_24 =>
    bnd (afield 0 t62_24) fun t63_25 =>
    bnd (aload false 1 t63_25 r_12.2) fun t64_26 =>
    bnd (ibin .eql t64_26 (.int .i64 0)) fun t66_27 =>
    cnd t66_27
      (bnd (afield 3 r12_11.1) fun t67_28 =>
      bnd (astoreU 1 t67_28 (.int .i64 15) r_12.2) fun r_29 =>
      cnd x8
        (bnd (afield 3 r12_11.1) fun t69_30 =>
        bnd (astoreU 1 t69_30 (.int .i64 8) r_29.2) fun r_31 =>
        texttoolslaw51_PipeBreaks_J6 x2 x7 x8 x10 r11_8.1 r12_11.1 H0 r_31.2)
        (texttoolslaw51_PipeBreaks_J6 x2 x7 x8 x10 r11_8.1 r12_11.1 H0 r_29.2))
      (bnd (ibin .eql t64_26 (.int .i64 1)) fun t71_32 =>
      cnd t71_32
        (bnd (afield 2 r12_11.1) fun t72_33 =>
        bnd (astoreU 1 t72_33 (.bool true) r_12.2) fun r_34 =>
        texttoolslaw51_PipeBreaks_J6 x2 x7 x8 x10 r11_8.1 r12_11.1 H0 r_34.2)
        (bnd (ibin .eql t64_26 (.int .i64 2)) fun t74_35 =>
        cnd t74_35
          (texttoolslaw51_PipeBreaks_J6 x2 x7 (.bool true) x10 r11_8.1 r12_11.1 H0 r_12.2)
          (texttoolslaw51_PipeBreaks_J6 x2 x7 x8 x10 r11_8.1 r12_11.1 H0 r_12.2))) := (CXM_eq [3, 7, 8, 10, 13, 14, 25, 27] _ _ _ _).trans (by kernel_rfl)
theorem texttoolslaw51_PipeBreaks_L1_eq (x2 x7 x8 x10 : AV) (H0 H : Hp) : texttoolslaw51_PipeBreaks_L1 x2 x7 x8 x10 H0 H =
    bnd (alenD (.slice 40) x2) fun t49_36 =>
    bnd (ibin .lss x10 t49_36) fun t50_37 =>
    cnd t50_37
      (texttoolslaw51_PipeBreaks_J4 x2 x7 x8 x10 H0 H)
      (texttoolslaw51_PipeBreaks_J3 H0 H) := (LPL_eqm (C := cfg) [3, 7, 8, 10, 13, 14, 25, 27] (tame_block 2 (texttoolslaw51_PipeBreaks_K1_tame H0)) _ _).trans (by kernel_rfl)
theorem texttoolslaw51_PipeBreaks_J2_eq (x2 x7 x8 : AV) (H0 H : Hp) : texttoolslaw51_PipeBreaks_J2 x2 x7 x8 H0 H =
    bnd (C_pipe_Pipe_CloseReader [x7] H) fun r46_2 =>
    texttoolslaw51_PipeBreaks_L1 x2 x7 x8 (.int .i64 0) H0 r46_2.2 := (CXM_eq [3, 7, 8, 10, 13, 14, 25, 27] _ _ _ _).trans (by kernel_rfl)
theorem texttoolslaw51_PipeBreaks_J8_eq (x1 x2 x7 x8 x9 : AV) (H0 H : Hp) : texttoolslaw51_PipeBreaks_J8 x1 x2 x7 x8 x9 H0 H =
    bnd (ibin .add x9 (.int .i64 1)) fun t29_38 =>
    texttoolslaw51_PipeBreaks_L2 x1 x2 x7 x8 t29_38 H0 H := (CXM_eq [3, 7, 8, 10, 13, 14, 25, 27] _ _ _ _).trans (by kernel_rfl)
theorem texttoolslaw51_PipeBreaks_J7_eq (x1 x2 x7 x8 x9 : AV) (H0 H : Hp) : texttoolslaw51_PipeBreaks_J7 x1 x2 x7 x8 x9 H0 H =
    bnd (aindexS 3 x1 x9) fun t33_39 =>
    bnd (aload true 3 t33_39 H) fun t34_40 =>
    bnd (C_texttoolslaw51_do [x7, t34_40] H) fun r35_41 =>
    bnd (gdv x8 false (.tuple []) (some x1)) fun t38_42 =>
    bnd (gdv x8 false (.tuple []) (some x9)) fun t39_43 =>
    bnd (gdv x8 false (.tuple []) (aindexS 3 t38_42 t39_43)) fun t40_44 =>
    bnd (gdv x8 false (.tuple []) (afield 0 t40_44)) fun t41_45 =>
    bnd (gdv x8 false (.tuple []) (aload false 1 t41_45 r35_41.2)) fun t42_46 =>
    bnd (gdv x8 false (.tuple []) (ibin .eql t42_46 (.int .i64 2))) fun t43_47 =>
    bnd (apick x8 (.bool true) t43_47) fun t44_48 =>
    texttoolslaw51_PipeBreaks_J8 x1 x2 x7 t44_48 x9 H0 r35_41.2 := (CXM_eq [3, 7, 8, 10, 13, 14, 25, 27] _ _ _ _).trans (by kernel_rfl)
theorem texttoolslaw51_PipeBreaks_L2_eq (x1 x2 x7 x8 x9 : AV) (H0 H : Hp) : texttoolslaw51_PipeBreaks_L2 x1 x2 x7 x8 x9 H0 H =
    bnd (alenD (.slice 40) x1) fun t26_49 =>
    bnd (ibin .lss x9 t26_49) fun t27_50 =>
    cnd t27_50
      (texttoolslaw51_PipeBreaks_J7 x1 x2 x7 x8 x9 H0 H)
      (texttoolslaw51_PipeBreaks_J2 x2 x7 x8 H0 H) := (LPL_eqm (C := cfg) [3, 7, 8, 10, 13, 14, 25, 27] (tame_block 0 (texttoolslaw51_PipeBreaks_K3_tame H0)) _ _).trans (by kernel_rfl)
theorem texttoolslaw51_PipeBreaks_J1_eq (x0 x1 x2 : AV) (H0 H : Hp) : texttoolslaw51_PipeBreaks_J1 x0 x1 x2 H0 H =
    bnd (C_pipe_New [x0] H) fun r23_1 =>
    texttoolslaw51_PipeBreaks_L2 x1 x2 r23_1.1 (.bool false) (.int .i64 0) H0 r23_1.2 := (CXM_eq [3, 7, 8, 10, 13, 14, 25, 27] _ _ _ _).trans (by kernel_rfl)
theorem F_texttoolslaw51_PipeBreaks_eq (p0 p1 p2 : AV) (H : Hp) : C_texttoolslaw51_PipeBreaks [p0, p1, p2] H = F_texttoolslaw51_PipeBreaks p0 p1 p2 H := (callw_cxm (C := cfg) (fn := Try.f7) (c := bodyOf Try.f7) (n := 89) [3, 7, 8, 10, 13, 14, 25, 27] Try.func7 (by kernel_rfl) (by kernel_rfl) [p0, p1, p2] (by kernel_rfl) H).trans (by kernel_rfl)

/-! ### texttoolslaw51_awake -/
noncomputable def F_texttoolslaw51_awake (H : Hp) : Res :=
  bnd (C_pipe_New [(.int .i64 4)] H) fun r10_1 =>
  bnd (C_pipe_Pipe_Write [r10_1.1, (.str [97, 98, 99, 100, 101, 102])] r10_1.2) fun r13_2 =>
  bnd (aext r13_2.1 0) fun t14_3 =>
  bnd (aext r13_2.1 1) fun t15_4 =>
  bnd (C_pipe_Pipe_Read [r10_1.1, (.int .i64 2)] r13_2.2) fun r18_5 =>
  bnd (aext r18_5.1 0) fun t19_6 =>
  bnd (aext r18_5.1 1) fun t20_7 =>
  bnd (C_pipe_Pipe_Write [r10_1.1, (.str [101, 102])] r18_5.2) fun r23_8 =>
  bnd (aext r23_8.1 0) fun t24_9 =>
  bnd (aext r23_8.1 1) fun t25_10 =>
  bnd (C_pipe_Pipe_Read [r10_1.1, (.int .i64 9)] r23_8.2) fun r28_11 =>
  bnd (aext r28_11.1 0) fun t29_12 =>
  bnd (aext r28_11.1 1) fun t30_13 =>
  bnd (ibin .eql t14_3 (.int .i64 4)) fun t32_14 =>
  bnd (gdv t32_14 true (.tuple []) (some t15_4)) fun t34_15 =>
  bnd (gdv t32_14 true (.tuple []) (ibin .eql t34_15 (.int .i64 0))) fun t35_16 =>
  bnd (apick t32_14 t35_16 (.bool false)) fun t36_17 =>
  bnd (gdv t36_17 true (.tuple []) (some t19_6)) fun t38_18 =>
  bnd (gdv t36_17 true (.tuple []) (sbin .eql t38_18 (.str [97, 98]))) fun t39_19 =>
  bnd (apick t36_17 t39_19 (.bool false)) fun t40_20 =>
  bnd (gdv t40_20 true (.tuple []) (some t20_7)) fun t42_21 =>
  bnd (gdv t40_20 true (.tuple []) (aun .not t42_21)) fun t43_22 =>
  bnd (apick t40_20 t43_22 (.bool false)) fun t44_23 =>
  bnd (gdv t44_23 true (.tuple []) (some t24_9)) fun t46_24 =>
  bnd (gdv t44_23 true (.tuple []) (ibin .eql t46_24 (.int .i64 2))) fun t47_25 =>
  bnd (apick t44_23 t47_25 (.bool false)) fun t48_26 =>
  bnd (gdv t48_26 true (.tuple []) (some t25_10)) fun t50_27 =>
  bnd (gdv t48_26 true (.tuple []) (ibin .eql t50_27 (.int .i64 0))) fun t51_28 =>
  bnd (apick t48_26 t51_28 (.bool false)) fun t52_29 =>
  bnd (gdv t52_29 true (.tuple []) (some t29_12)) fun t54_30 =>
  bnd (gdv t52_29 true (.tuple []) (sbin .eql t54_30 (.str [99, 100, 101, 102]))) fun t55_31 =>
  bnd (apick t52_29 t55_31 (.bool false)) fun t56_32 =>
  bnd (gdv t56_32 true (.tuple []) (some t30_13)) fun t58_33 =>
  bnd (gdv t56_32 true (.tuple []) (aun .not t58_33)) fun t59_34 =>
  bnd (apick t56_32 t59_34 (.bool false)) fun t60_35 =>
  bnd (gdv t60_35 true (.tuple []) (some r10_1.1)) fun t62_36 =>
  bnd (gdv t60_35 true ((.tuple []), r28_11.2) (C_pipe_Pipe_Len [t62_36] r28_11.2)) fun r63_37 =>
  bnd (gdv t60_35 true (.tuple []) (ibin .eql r63_37.1 (.int .i64 0))) fun t64_38 =>
  bnd (apick t60_35 t64_38 (.bool false)) fun t65_39 =>
  bnd (gdv t65_39 true (.tuple []) (some r10_1.1)) fun t67_40 =>
  bnd (gdv t65_39 true ((.tuple []), r63_37.2) (C_pipe_Pipe_Free [t67_40] r63_37.2)) fun r68_41 =>
  bnd (gdv t65_39 true (.tuple []) (ibin .eql r68_41.1 (.int .i64 4))) fun t69_42 =>
  bnd (apick t65_39 t69_42 (.bool false)) fun t70_43 =>
  some (t70_43, r68_41.2)
theorem F_texttoolslaw51_awake_eq (H : Hp) : C_texttoolslaw51_awake [] H = F_texttoolslaw51_awake H := (callw_cxm (C := cfg) (fn := Try.f8) (c := bodyOf Try.f8) (n := 71) [] Try.func8 (by kernel_rfl) (by kernel_rfl) [] (by kernel_rfl) H).trans (by kernel_rfl)

/-! ### pipe_New -/
noncomputable def F_pipe_New (p0 : AV) (H : Hp) : Res :=
  bnd (amax2 p0 (.int .i64 1)) fun t4_1 =>
  bnd (amin2 t4_1 (.int .i64 4096)) fun t5_2 =>
  bnd ((afill [(0, 1, t5_2)] [(.int .i64 0), .nils, (.bool false), (.bool false)]).map .agg) fun t6_3 =>
  bnd (abox t6_3 H) fun r7_4 =>
  some (r7_4.1, r7_4.2)
theorem F_pipe_New_eq (p0 : AV) (H : Hp) : C_pipe_New [p0] H = F_pipe_New p0 H := (callw_cxm (C := cfg) (fn := Try.f9) (c := bodyOf Try.f9) (n := 8) [] Try.func9 (by kernel_rfl) (by kernel_rfl) [p0] (by kernel_rfl) H).trans (by kernel_rfl)

/-! ### pipe_Pipe_Write -/
noncomputable def pipe_Pipe_Write_J1 (x0 x1 : AV) (H0 H : Hp) : Res := CXL cfg (callw cfg) (LPL cfg (cfg.keep 10) 37) (cfg.keep 10) 37 seqL blockL (sub (bodyOf Try.f10) [1, 1]) (retL cfg 37 10 Try.f10 H0) [(0, x0), (1, x1)] H
noncomputable def F_pipe_Pipe_Write (p0 p1 : AV) (H : Hp) : Res :=
  bnd (ebin (.pointer 46) .eql p0 .nilp) fun t9_12 =>
  cnd t9_12
    (some ((.tuple [(.int .i64 0), (.int .i64 5)]), H))
    (bnd (anil p0) fun t12_13 =>
    bnd (afield 2 t12_13) fun t13_14 =>
    bnd (aload false 1 t13_14 H) fun t14_15 =>
    cnd t14_15
      (some ((.tuple [(.int .i64 0), (.int .i64 8)]), H))
      (bnd (anil p0) fun t17_16 =>
      bnd (afield 3 t17_16) fun t18_17 =>
      bnd (aload false 1 t18_17 H) fun t19_18 =>
      cnd t19_18
        (some ((.tuple [(.int .i64 0), (.int .i64 15)]), H))
        (pipe_Pipe_Write_J1 p0 p1 H H)))
theorem pipe_Pipe_Write_J1_eq (x0 x1 : AV) (H0 H : Hp) : pipe_Pipe_Write_J1 x0 x1 H0 H =
    bnd (alenD .string x1) fun t21_1 =>
    bnd (C_pipe_Pipe_Free [x0] H) fun r23_2 =>
    bnd (amin2 t21_1 r23_2.1) fun t24_3 =>
    bnd (anil x0) fun t27_4 =>
    bnd (afield 1 t27_4) fun t28_5 =>
    bnd (aload false 1 t28_5 r23_2.2) fun t29_6 =>
    bnd (asliceS x1 none (some t24_3) none) fun t32_7 =>
    bnd (aappE 1 1 t29_6 t32_7 r23_2.2) fun r33_8 =>
    bnd (anil x0) fun t34_9 =>
    bnd (afield 1 t34_9) fun t35_10 =>
    bnd (astoreU 1 t35_10 r33_8.1 r33_8.2) fun r_11 =>
    some ((.tuple [t24_3, (.int .i64 0)]), r_11.2) := (CXM_eq [7] _ _ _ _).trans (by kernel_rfl)
theorem F_pipe_Pipe_Write_eq (p0 p1 : AV) (H : Hp) : C_pipe_Pipe_Write [p0, p1] H = F_pipe_Pipe_Write p0 p1 H := (callw_cxm (C := cfg) (fn := Try.f10) (c := bodyOf Try.f10) (n := 37) [7] Try.func10 (by kernel_rfl) (by kernel_rfl) [p0, p1] (by kernel_rfl) H).trans (by kernel_rfl)

/-! ### pipe_Pipe_Read -/
noncomputable def pipe_Pipe_Read_J1 (x0 x1 : AV) (H0 H : Hp) : Res := CXL cfg (callw cfg) (LPL cfg (cfg.keep 11) 53) (cfg.keep 11) 53 seqL blockL (sub (bodyOf Try.f11) [1, 1]) (retL cfg 53 11 Try.f11 H0) [(0, x0), (1, x1)] H
noncomputable def F_pipe_Pipe_Read (p0 p1 : AV) (H : Hp) : Res :=
  bnd (ebin (.pointer 46) .eql p0 .nilp) fun t9_29 =>
  cnd t9_29
    (some ((.tuple [(.str []), (.bool false)]), H))
    (bnd (anil p0) fun t12_30 =>
    bnd (afield 3 t12_30) fun t13_31 =>
    bnd (aload false 1 t13_31 H) fun t14_32 =>
    cnd t14_32
      (some ((.tuple [(.str []), (.bool true)]), H))
      (pipe_Pipe_Read_J1 p0 p1 H H))
theorem pipe_Pipe_Read_J1_eq (x0 x1 : AV) (H0 H : Hp) : pipe_Pipe_Read_J1 x0 x1 H0 H =
    bnd (amax2 x1 (.int .i64 0)) fun t16_1 =>
    bnd (anil x0) fun t18_2 =>
    bnd (afield 1 t18_2) fun t19_3 =>
    bnd (aload false 1 t19_3 H) fun t20_4 =>
    bnd (alenD (.slice 5) t20_4) fun t21_5 =>
    bnd (amin2 t16_1 t21_5) fun t22_6 =>
    bnd (anil x0) fun t24_7 =>
    bnd (afield 1 t24_7) fun t25_8 =>
    bnd (aload false 1 t25_8 H) fun t26_9 =>
    bnd (asliceV 1 t26_9 none (some t22_6) (some t22_6)) fun t29_10 =>
    bnd (anil x0) fun t32_11 =>
    bnd (afield 1 t32_11) fun t33_12 =>
    bnd (aload false 1 t33_12 H) fun t34_13 =>
    bnd (asliceV 1 t34_13 (some t22_6) none none) fun t36_14 =>
    bnd (anil x0) fun t37_15 =>
    bnd (afield 1 t37_15) fun t38_16 =>
    bnd (astoreU 1 t38_16 t36_14 H) fun r_17 =>
    bnd (cvOfBytes t29_10) fun t40_18 =>
    bnd (anil x0) fun t42_19 =>
    bnd (afield 1 t42_19) fun t43_20 =>
    bnd (aload false 1 t43_20 r_17.2) fun t44_21 =>
    bnd (alenD (.slice 5) t44_21) fun t45_22 =>
    bnd (ibin .eql t45_22 (.int .i64 0)) fun t46_23 =>
    bnd (gdv t46_23 true (.tuple []) (some x0)) fun t48_24 =>
    bnd (gdv t46_23 true (.tuple []) (anil t48_24)) fun t49_25 =>
    bnd (gdv t46_23 true (.tuple []) (afield 2 t49_25)) fun t50_26 =>
    bnd (gdv t46_23 true (.tuple []) (aload false 1 t50_26 r_17.2)) fun t51_27 =>
    bnd (apick t46_23 t51_27 (.bool false)) fun t52_28 =>
    some ((.tuple [t40_18, t52_28]), r_17.2) := (CXM_eq [5] _ _ _ _).trans (by kernel_rfl)
theorem F_pipe_Pipe_Read_eq (p0 p1 : AV) (H : Hp) : C_pipe_Pipe_Read [p0, p1] H = F_pipe_Pipe_Read p0 p1 H := (callw_cxm (C := cfg) (fn := Try.f11) (c := bodyOf Try.f11) (n := 53) [5] Try.func11 (by kernel_rfl) (by kernel_rfl) [p0, p1] (by kernel_rfl) H).trans (by kernel_rfl)

/-! ### pipe_Pipe_CloseWriter -/
noncomputable def F_pipe_Pipe_CloseWriter (p0 : AV) (H : Hp) : Res :=
  bnd (ebin (.pointer 46) .neq p0 .nilp) fun t3_1 =>
  cnd t3_1
    (bnd (anil p0) fun t5_2 =>
    bnd (afield 2 t5_2) fun t6_3 =>
    bnd (astoreU 1 t6_3 (.bool true) H) fun r_4 =>
    some ((.tuple []), r_4.2))
    (some ((.tuple []), H))
theorem F_pipe_Pipe_CloseWriter_eq (p0 : AV) (H : Hp) : C_pipe_Pipe_CloseWriter [p0] H = F_pipe_Pipe_CloseWriter p0 H := (callw_cxm (C := cfg) (fn := Try.f12) (c := bodyOf Try.f12) (n := 7) [] Try.func12 (by kernel_rfl) (by kernel_rfl) [p0] (by kernel_rfl) H).trans (by kernel_rfl)

/-! ### texttoolslaw51_few -/
noncomputable def texttoolslaw51_few_J1 (H0 H : Hp) : Res := CXL cfg (callw cfg) (LPL cfg (cfg.keep 13) 21) (cfg.keep 13) 21 seqL blockL (sub (bodyOf Try.f13) [1, 1]) (retL cfg 21 13 Try.f13 H0) [] H
noncomputable def texttoolslaw51_few_K1 (H0 : Hp) : KL := seqL (fun k al H => CXL cfg (callw cfg) (LPL cfg (cfg.keep 13) 21) (cfg.keep 13) 21 seqL blockL (sub (bodyOf Try.f13) [1, 1]) k (trimL (cfg.keep 13) (sub (bodyOf Try.f13) [1, 1]) al) H) (retL cfg 21 13 Try.f13 H0)
theorem texttoolslaw51_few_K1_tame (H0 : Hp) : Tame 21 (texttoolslaw51_few_K1 H0) := tame_seq (C := cfg) (kp := cfg.keep 13) (sub (bodyOf Try.f13) [1, 1]) (tame_ret 13 Try.f13 H0)
noncomputable def texttoolslaw51_few_J3 (x0 x3 : AV) (H0 H : Hp) : Res := CXL cfg (callw cfg) (LPL cfg (cfg.keep 13) 21) (cfg.keep 13) 21 seqL blockL (sub (bodyOf Try.f13) [1, 0, 1, 0, 0, 1, 1]) (seqL (fun k al H => LPL cfg (cfg.keep 13) 21 (sub (bodyOf Try.f13) [1, 0, 1, 0, 0]) k (trimL (cfg.keep 13) (sub (bodyOf Try.f13) [1, 0, 1, 0, 0]) al) H) (blockL 0 (texttoolslaw51_few_K1 H0))) [(0, x0), (3, x3)] H
noncomputable def texttoolslaw51_few_J2 (x0 x3 : AV) (H0 H : Hp) : Res := CXL cfg (callw cfg) (LPL cfg (cfg.keep 13) 21) (cfg.keep 13) 21 seqL blockL (sub (bodyOf Try.f13) [1, 0, 1, 0, 0, 1]) (seqL (fun k al H => LPL cfg (cfg.keep 13) 21 (sub (bodyOf Try.f13) [1, 0, 1, 0, 0]) k (trimL (cfg.keep 13) (sub (bodyOf Try.f13) [1, 0, 1, 0, 0]) al) H) (blockL 0 (texttoolslaw51_few_K1 H0))) [(0, x0), (3, x3)] H
noncomputable def texttoolslaw51_few_L1 (x0 x3 : AV) (H0 H : Hp) : Res := LPL cfg (cfg.keep 13) 21 (sub (bodyOf Try.f13) [1, 0, 1, 0, 0]) (blockL 0 (texttoolslaw51_few_K1 H0)) [(0, x0), (3, x3)] H
noncomputable def F_texttoolslaw51_few (p0 : AV) (H : Hp) : Res :=
  texttoolslaw51_few_L1 p0 (.int .i64 0) H H
theorem texttoolslaw51_few_J1_eq (H0 H : Hp) : texttoolslaw51_few_J1 H0 H =
    some ((.bool true), H) := (CXM_eq [3, 4, 6] _ _ _ _).trans (by kernel_rfl)
theorem texttoolslaw51_few_J3_eq (x0 x3 : AV) (H0 H : Hp) : texttoolslaw51_few_J3 x0 x3 H0 H =
    bnd (ibin .add x3 (.int .i64 1)) fun t9_1 =>
    texttoolslaw51_few_L1 x0 t9_1 H0 H := (CXM_eq [3, 4, 6] _ _ _ _).trans (by kernel_rfl)
theorem texttoolslaw51_few_J2_eq (x0 x3 : AV) (H0 H : Hp) : texttoolslaw51_few_J2 x0 x3 H0 H =
    bnd (ibin .geq x3 (.int .i64 60)) fun t11_2 =>
    bnd (gdv t11_2 false (.tuple []) (some x0)) fun t13_3 =>
    bnd (gdv t11_2 false (.tuple []) (some x3)) fun t14_4 =>
    bnd (gdv t11_2 false (.tuple []) (aindexS 3 t13_3 t14_4)) fun t15_5 =>
    bnd (gdv t11_2 false (.tuple []) (afield 1 t15_5)) fun t16_6 =>
    bnd (gdv t11_2 false (.tuple []) (aload false 1 t16_6 H)) fun t17_7 =>
    bnd (gdv t11_2 false (.tuple []) (alenD .string t17_7)) fun t18_8 =>
    bnd (gdv t11_2 false (.tuple []) (ibin .gtr t18_8 (.int .i64 100))) fun t19_9 =>
    bnd (apick t11_2 (.bool true) t19_9) fun t20_10 =>
    cnd t20_10
      (some ((.bool false), H))
      (texttoolslaw51_few_J3 x0 x3 H0 H) := (CXM_eq [3, 4, 6] _ _ _ _).trans (by kernel_rfl)
theorem texttoolslaw51_few_L1_eq (x0 x3 : AV) (H0 H : Hp) : texttoolslaw51_few_L1 x0 x3 H0 H =
    bnd (alenD (.slice 40) x0) fun t6_11 =>
    bnd (ibin .lss x3 t6_11) fun t7_12 =>
    cnd t7_12
      (texttoolslaw51_few_J2 x0 x3 H0 H)
      (texttoolslaw51_few_J1 H0 H) := (LPL_eqm (C := cfg) [3, 4, 6] (tame_block 0 (texttoolslaw51_few_K1_tame H0)) _ _).trans (by kernel_rfl)
theorem F_texttoolslaw51_few_eq (p0 : AV) (H : Hp) : C_texttoolslaw51_few [p0] H = F_texttoolslaw51_few p0 H := (callw_cxm (C := cfg) (fn := Try.f13) (c := bodyOf Try.f13) (n := 21) [3, 4, 6] Try.func13 (by kernel_rfl) (by kernel_rfl) [p0] (by kernel_rfl) H).trans (by kernel_rfl)

/-! ### texttoolsref51_New -/
noncomputable def F_texttoolsref51_New (p0 : AV) (H : Hp) : Res :=
  bnd (amin2 p0 (.int .i64 4096)) fun t4_1 =>
  bnd (amax2 (.int .i64 1) t4_1) fun t5_2 =>
  bnd ((afill [(0, 1, t5_2)] [(.int .i64 0), (.str []), (.bool false), (.bool false)]).map .agg) fun t6_3 =>
  bnd (abox t6_3 H) fun r7_4 =>
  some (r7_4.1, r7_4.2)
theorem F_texttoolsref51_New_eq (p0 : AV) (H : Hp) : C_texttoolsref51_New [p0] H = F_texttoolsref51_New p0 H := (callw_cxm (C := cfg) (fn := Try.f14) (c := bodyOf Try.f14) (n := 8) [] Try.func14 (by kernel_rfl) (by kernel_rfl) [p0] (by kernel_rfl) H).trans (by kernel_rfl)

/-! ### pipe_Pipe_Len -/
noncomputable def pipe_Pipe_Len_J1 (x0 : AV) (H0 H : Hp) : Res := CXL cfg (callw cfg) (LPL cfg (cfg.keep 15) 10) (cfg.keep 15) 10 seqL blockL (sub (bodyOf Try.f15) [1, 1]) (retL cfg 10 15 Try.f15 H0) [(0, x0)] H
noncomputable def F_pipe_Pipe_Len (p0 : AV) (H : Hp) : Res :=
  bnd (ebin (.pointer 46) .eql p0 .nilp) fun t4_5 =>
  cnd t4_5
    (some ((.int .i64 0), H))
    (pipe_Pipe_Len_J1 p0 H H)
theorem pipe_Pipe_Len_J1_eq (x0 : AV) (H0 H : Hp) : pipe_Pipe_Len_J1 x0 H0 H =
    bnd (anil x0) fun t6_1 =>
    bnd (afield 1 t6_1) fun t7_2 =>
    bnd (aload false 1 t7_2 H) fun t8_3 =>
    bnd (alenD (.slice 5) t8_3) fun t9_4 =>
    some (t9_4, H) := (CXM_eq [3] _ _ _ _).trans (by kernel_rfl)
theorem F_pipe_Pipe_Len_eq (p0 : AV) (H : Hp) : C_pipe_Pipe_Len [p0] H = F_pipe_Pipe_Len p0 H := (callw_cxm (C := cfg) (fn := Try.f15) (c := bodyOf Try.f15) (n := 10) [3] Try.func15 (by kernel_rfl) (by kernel_rfl) [p0] (by kernel_rfl) H).trans (by kernel_rfl)

/-! ### texttoolsref51_Pipe_Len -/
noncomputable def texttoolsref51_Pipe_Len_J1 (x0 : AV) (H0 H : Hp) : Res := CXL cfg (callw cfg) (LPL cfg (cfg.keep 16) 10) (cfg.keep 16) 10 seqL blockL (sub (bodyOf Try.f16) [1, 1]) (retL cfg 10 16 Try.f16 H0) [(0, x0)] H
noncomputable def F_texttoolsref51_Pipe_Len (p0 : AV) (H : Hp) : Res :=
  bnd (ebin (.pointer 48) .eql p0 .nilp) fun t4_5 =>
  cnd t4_5
    (some ((.int .i64 0), H))
    (texttoolsref51_Pipe_Len_J1 p0 H H)
theorem texttoolsref51_Pipe_Len_J1_eq (x0 : AV) (H0 H : Hp) : texttoolsref51_Pipe_Len_J1 x0 H0 H =
    bnd (anil x0) fun t6_1 =>
    bnd (afield 1 t6_1) fun t7_2 =>
    bnd (aload false 1 t7_2 H) fun t8_3 =>
    bnd (alenD .string t8_3) fun t9_4 =>
    some (t9_4, H) := (CXM_eq [3] _ _ _ _).trans (by kernel_rfl)
theorem F_texttoolsref51_Pipe_Len_eq (p0 : AV) (H : Hp) : C_texttoolsref51_Pipe_Len [p0] H = F_texttoolsref51_Pipe_Len p0 H := (callw_cxm (C := cfg) (fn := Try.f16) (c := bodyOf Try.f16) (n := 10) [3] Try.func16 (by kernel_rfl) (by kernel_rfl) [p0] (by kernel_rfl) H).trans (by kernel_rfl)

/-! ### pipe_Pipe_Free -/
noncomputable def pipe_Pipe_Free_J1 (x0 : AV) (H0 H : Hp) : Res := CXL cfg (callw cfg) (LPL cfg (cfg.keep 17) 27) (cfg.keep 17) 27 seqL blockL (sub (bodyOf Try.f17) [1, 1]) (retL cfg 27 17 Try.f17 H0) [(0, x0)] H
noncomputable def F_pipe_Pipe_Free (p0 : AV) (H : Hp) : Res :=
  bnd (ebin (.pointer 46) .eql p0 .nilp) fun t4_9 =>
  bnd (gdv t4_9 false (.tuple []) (some p0)) fun t6_10 =>
  bnd (gdv t4_9 false (.tuple []) (anil t6_10)) fun t7_11 =>
  bnd (gdv t4_9 false (.tuple []) (afield 2 t7_11)) fun t8_12 =>
  bnd (gdv t4_9 false (.tuple []) (aload false 1 t8_12 H)) fun t9_13 =>
  bnd (apick t4_9 (.bool true) t9_13) fun t10_14 =>
  bnd (gdv t10_14 false (.tuple []) (some p0)) fun t12_15 =>
  bnd (gdv t10_14 false (.tuple []) (anil t12_15)) fun t13_16 =>
  bnd (gdv t10_14 false (.tuple []) (afield 3 t13_16)) fun t14_17 =>
  bnd (gdv t10_14 false (.tuple []) (aload false 1 t14_17 H)) fun t15_18 =>
  bnd (apick t10_14 (.bool true) t15_18) fun t16_19 =>
  cnd t16_19
    (some ((.int .i64 0), H))
    (pipe_Pipe_Free_J1 p0 H H)
theorem pipe_Pipe_Free_J1_eq (x0 : AV) (H0 H : Hp) : pipe_Pipe_Free_J1 x0 H0 H =
    bnd (anil x0) fun t18_1 =>
    bnd (afield 0 t18_1) fun t19_2 =>
    bnd (aload false 1 t19_2 H) fun t20_3 =>
    bnd (anil x0) fun t22_4 =>
    bnd (afield 1 t22_4) fun t23_5 =>
    bnd (aload false 1 t23_5 H) fun t24_6 =>
    bnd (alenD (.slice 5) t24_6) fun t25_7 =>
    bnd (ibin .sub t20_3 t25_7) fun t26_8 =>
    some (t26_8, H) := (CXM_eq [3] _ _ _ _).trans (by kernel_rfl)
theorem F_pipe_Pipe_Free_eq (p0 : AV) (H : Hp) : C_pipe_Pipe_Free [p0] H = F_pipe_Pipe_Free p0 H := (callw_cxm (C := cfg) (fn := Try.f17) (c := bodyOf Try.f17) (n := 27) [3] Try.func17 (by kernel_rfl) (by kernel_rfl) [p0] (by kernel_rfl) H).trans (by kernel_rfl)

/-! ### texttoolsref51_Pipe_Free -/
noncomputable def texttoolsref51_Pipe_Free_J1 (x0 : AV) (H0 H : Hp) : Res := CXL cfg (callw cfg) (LPL cfg (cfg.keep 18) 27) (cfg.keep 18) 27 seqL blockL (sub (bodyOf Try.f18) [1, 1]) (retL cfg 27 18 Try.f18 H0) [(0, x0)] H
noncomputable def F_texttoolsref51_Pipe_Free (p0 : AV) (H : Hp) : Res :=
  bnd (ebin (.pointer 48) .eql p0 .nilp) fun t4_9 =>
  bnd (gdv t4_9 false (.tuple []) (some p0)) fun t6_10 =>
  bnd (gdv t4_9 false (.tuple []) (anil t6_10)) fun t7_11 =>
  bnd (gdv t4_9 false (.tuple []) (afield 2 t7_11)) fun t8_12 =>
  bnd (gdv t4_9 false (.tuple []) (aload false 1 t8_12 H)) fun t9_13 =>
  bnd (apick t4_9 (.bool true) t9_13) fun t10_14 =>
  bnd (gdv t10_14 false (.tuple []) (some p0)) fun t12_15 =>
  bnd (gdv t10_14 false (.tuple []) (anil t12_15)) fun t13_16 =>
  bnd (gdv t10_14 false (.tuple []) (afield 3 t13_16)) fun t14_17 =>
  bnd (gdv t10_14 false (.tuple []) (aload false 1 t14_17 H)) fun t15_18 =>
  bnd (apick t10_14 (.bool true) t15_18) fun t16_19 =>
  cnd t16_19
    (some ((.int .i64 0), H))
    (texttoolsref51_Pipe_Free_J1 p0 H H)
theorem texttoolsref51_Pipe_Free_J1_eq (x0 : AV) (H0 H : Hp) : texttoolsref51_Pipe_Free_J1 x0 H0 H =
    bnd (anil x0) fun t18_1 =>
    bnd (afield 0 t18_1) fun t19_2 =>
    bnd (aload false 1 t19_2 H) fun t20_3 =>
    bnd (anil x0) fun t22_4 =>
    bnd (afield 1 t22_4) fun t23_5 =>
    bnd (aload false 1 t23_5 H) fun t24_6 =>
    bnd (alenD .string t24_6) fun t25_7 =>
    bnd (ibin .sub t20_3 t25_7) fun t26_8 =>
    some (t26_8, H) := (CXM_eq [3] _ _ _ _).trans (by kernel_rfl)
theorem F_texttoolsref51_Pipe_Free_eq (p0 : AV) (H : Hp) : C_texttoolsref51_Pipe_Free [p0] H = F_texttoolsref51_Pipe_Free p0 H := (callw_cxm (C := cfg) (fn := Try.f18) (c := bodyOf Try.f18) (n := 27) [3] Try.func18 (by kernel_rfl) (by kernel_rfl) [p0] (by kernel_rfl) H).trans (by kernel_rfl)

/-! ### texttoolslaw51_do -/
noncomputable def texttoolslaw51_do_J1 (x4 : AV) (H0 H : Hp) : Res := CXL cfg (callw cfg) (LPL cfg (cfg.keep 19) 44) (cfg.keep 19) 44 seqL blockL (sub (bodyOf Try.f19) [1, 1]) (retL cfg 44 19 Try.f19 H0) [(4, x4)] H
noncomputable def F_texttoolslaw51_do (p0 p1 : AV) (H : Hp) : Res :=
  bnd (abox p1 H) fun r3_1 =>
  bnd (some ((.ptr r3_1.2.length 0), r3_1.2 ++ [.cells [(.str []), (.int .i64 0), (.bool false), (.int .i64 0)]])) fun r4_2 =>
  bnd (afield 0 r3_1.1) fun t9_6 =>
  bnd (aload false 1 t9_6 r4_2.2) fun t10_7 =>
  bnd (ibin .eql t10_7 (.int .i64 0)) fun t12_8 =>
  cnd t12_8
    (bnd (afield 1 r3_1.1) fun t15_9 =>
    bnd (aload false 1 t15_9 r4_2.2) fun t16_10 =>
    bnd (C_pipe_Pipe_Write [p0, t16_10] r4_2.2) fun r17_11 =>
    bnd (aext r17_11.1 0) fun t18_12 =>
    bnd (aext r17_11.1 1) fun t19_13 =>
    bnd ((afill [(1, 1, t18_12), (3, 1, t19_13)] [(.str []), (.int .i64 0), (.bool false), (.int .i64 0)]).map .agg) fun t22_14 =>
    bnd (astoreU 4 r4_2.1 t22_14 r17_11.2) fun r_15 =>
    bnd (aload true 4 r4_2.1 r_15.2) fun v4_16 =>
    some (v4_16, r_15.2))
    (bnd (ibin .eql t10_7 (.int .i64 1)) fun t24_17 =>
    cnd t24_17
      (bnd (afield 2 r3_1.1) fun t27_18 =>
      bnd (aload false 1 t27_18 r4_2.2) fun t28_19 =>
      bnd (C_pipe_Pipe_Read [p0, t28_19] r4_2.2) fun r29_20 =>
      bnd (aext r29_20.1 0) fun t30_21 =>
      bnd (aext r29_20.1 1) fun t31_22 =>
      bnd ((afill [(0, 1, t30_21), (2, 1, t31_22)] [(.str []), (.int .i64 0), (.bool false), (.int .i64 0)]).map .agg) fun t34_23 =>
      bnd (astoreU 4 r4_2.1 t34_23 r29_20.2) fun r_24 =>
      bnd (aload true 4 r4_2.1 r_24.2) fun v4_25 =>
      some (v4_25, r_24.2))
      (bnd (ibin .eql t10_7 (.int .i64 2)) fun t36_26 =>
      cnd t36_26
        (bnd (C_pipe_Pipe_CloseWriter [p0] r4_2.2) fun r38_27 =>
        texttoolslaw51_do_J1 r4_2.1 H r38_27.2)
        (bnd (ibin .eql t10_7 (.int .i64 3)) fun t40_28 =>
        cnd t40_28
          (bnd (C_pipe_Pipe_CloseReader [p0] r4_2.2) fun r42_29 =>
          texttoolslaw51_do_J1 r4_2.1 H r42_29.2)
          (texttoolslaw51_do_J1 r4_2.1 H r4_2.2))))
theorem texttoolslaw51_do_J1_eq (x4 : AV) (H0 H : Hp) : texttoolslaw51_do_J1 x4 H0 H =
    bnd (some (.agg [(.str []), (.int .i64 0), (.bool false), (.int .i64 0)])) fun t43_3 =>
    bnd (astoreU 4 x4 t43_3 H) fun r_4 =>
    bnd (aload true 4 x4 r_4.2) fun v4_5 =>
    some (v4_5, r_4.2) := (CXM_eq [12] _ _ _ _).trans (by kernel_rfl)
theorem F_texttoolslaw51_do_eq (p0 p1 : AV) (H : Hp) : C_texttoolslaw51_do [p0, p1] H = F_texttoolslaw51_do p0 p1 H := (callw_cxm (C := cfg) (fn := Try.f19) (c := bodyOf Try.f19) (n := 44) [12] Try.func19 (by kernel_rfl) (by kernel_rfl) [p0, p1] (by kernel_rfl) H).trans (by kernel_rfl)

/-! ### texttoolslaw51_model -/
noncomputable def texttoolslaw51_model_J1 (x4 : AV) (H0 H : Hp) : Res := CXL cfg (callw cfg) (LPL cfg (cfg.keep 20) 44) (cfg.keep 20) 44 seqL blockL (sub (bodyOf Try.f20) [1, 1]) (retL cfg 44 20 Try.f20 H0) [(4, x4)] H
noncomputable def F_texttoolslaw51_model (p0 p1 : AV) (H : Hp) : Res :=
  bnd (abox p1 H) fun r3_1 =>
  bnd (some ((.ptr r3_1.2.length 0), r3_1.2 ++ [.cells [(.str []), (.int .i64 0), (.bool false), (.int .i64 0)]])) fun r4_2 =>
  bnd (afield 0 r3_1.1) fun t9_6 =>
  bnd (aload false 1 t9_6 r4_2.2) fun t10_7 =>
  bnd (ibin .eql t10_7 (.int .i64 0)) fun t12_8 =>
  cnd t12_8
    (bnd (afield 1 r3_1.1) fun t15_9 =>
    bnd (aload false 1 t15_9 r4_2.2) fun t16_10 =>
    bnd (C_texttoolsref51_Pipe_Write [p0, t16_10] r4_2.2) fun r17_11 =>
    bnd (aext r17_11.1 0) fun t18_12 =>
    bnd (aext r17_11.1 1) fun t19_13 =>
    bnd ((afill [(1, 1, t18_12), (3, 1, t19_13)] [(.str []), (.int .i64 0), (.bool false), (.int .i64 0)]).map .agg) fun t22_14 =>
    bnd (astoreU 4 r4_2.1 t22_14 r17_11.2) fun r_15 =>
    bnd (aload true 4 r4_2.1 r_15.2) fun v4_16 =>
    some (v4_16, r_15.2))
    (bnd (ibin .eql t10_7 (.int .i64 1)) fun t24_17 =>
    cnd t24_17
      (bnd (afield 2 r3_1.1) fun t27_18 =>
      bnd (aload false 1 t27_18 r4_2.2) fun t28_19 =>
      bnd (C_texttoolsref51_Pipe_Read [p0, t28_19] r4_2.2) fun r29_20 =>
      bnd (aext r29_20.1 0) fun t30_21 =>
      bnd (aext r29_20.1 1) fun t31_22 =>
      bnd ((afill [(0, 1, t30_21), (2, 1, t31_22)] [(.str []), (.int .i64 0), (.bool false), (.int .i64 0)]).map .agg) fun t34_23 =>
      bnd (astoreU 4 r4_2.1 t34_23 r29_20.2) fun r_24 =>
      bnd (aload true 4 r4_2.1 r_24.2) fun v4_25 =>
      some (v4_25, r_24.2))
      (bnd (ibin .eql t10_7 (.int .i64 2)) fun t36_26 =>
      cnd t36_26
        (bnd (C_texttoolsref51_Pipe_CloseWriter [p0] r4_2.2) fun r38_27 =>
        texttoolslaw51_model_J1 r4_2.1 H r38_27.2)
        (bnd (ibin .eql t10_7 (.int .i64 3)) fun t40_28 =>
        cnd t40_28
          (bnd (C_texttoolsref51_Pipe_CloseReader [p0] r4_2.2) fun r42_29 =>
          texttoolslaw51_model_J1 r4_2.1 H r42_29.2)
          (texttoolslaw51_model_J1 r4_2.1 H r4_2.2))))
theorem texttoolslaw51_model_J1_eq (x4 : AV) (H0 H : Hp) : texttoolslaw51_model_J1 x4 H0 H =
    bnd (some (.agg [(.str []), (.int .i64 0), (.bool false), (.int .i64 0)])) fun t43_3 =>
    bnd (astoreU 4 x4 t43_3 H) fun r_4 =>
    bnd (aload true 4 x4 r_4.2) fun v4_5 =>
    some (v4_5, r_4.2) := (CXM_eq [12] _ _ _ _).trans (by kernel_rfl)
theorem F_texttoolslaw51_model_eq (p0 p1 : AV) (H : Hp) : C_texttoolslaw51_model [p0, p1] H = F_texttoolslaw51_model p0 p1 H := (callw_cxm (C := cfg) (fn := Try.f20) (c := bodyOf Try.f20) (n := 44) [12] Try.func20 (by kernel_rfl) (by kernel_rfl) [p0, p1] (by kernel_rfl) H).trans (by kernel_rfl)

/-! ### pipe_Pipe_CloseReader -/
noncomputable def F_pipe_Pipe_CloseReader (p0 : AV) (H : Hp) : Res :=
  bnd (ebin (.pointer 46) .neq p0 .nilp) fun t3_1 =>
  cnd t3_1
    (bnd (anil p0) fun t6_2 =>
    bnd (afield 3 t6_2) fun t7_3 =>
    bnd (astoreU 1 t7_3 (.bool true) H) fun r_4 =>
    bnd (anil p0) fun t8_5 =>
    bnd (afield 1 t8_5) fun t9_6 =>
    bnd (astoreU 1 t9_6 .nils r_4.2) fun r_7 =>
    some ((.tuple []), r_7.2))
    (some ((.tuple []), H))
theorem F_pipe_Pipe_CloseReader_eq (p0 : AV) (H : Hp) : C_pipe_Pipe_CloseReader [p0] H = F_pipe_Pipe_CloseReader p0 H := (callw_cxm (C := cfg) (fn := Try.f21) (c := bodyOf Try.f21) (n := 10) [] Try.func21 (by kernel_rfl) (by kernel_rfl) [p0] (by kernel_rfl) H).trans (by kernel_rfl)

/-! ### texttoolsref51_Pipe_Write -/
noncomputable def texttoolsref51_Pipe_Write_J3 (x0 x1 : AV) (H0 H : Hp) : Res := CXL cfg (callw cfg) (LPL cfg (cfg.keep 22) 42) (cfg.keep 22) 42 seqL blockL (sub (bodyOf Try.f22) [1, 1, 1, 1]) (retL cfg 42 22 Try.f22 H0) [(0, x0), (1, x1)] H
noncomputable def texttoolsref51_Pipe_Write_J2 (x0 x1 : AV) (H0 H : Hp) : Res := CXL cfg (callw cfg) (LPL cfg (cfg.keep 22) 42) (cfg.keep 22) 42 seqL blockL (sub (bodyOf Try.f22) [1, 1, 1]) (retL cfg 42 22 Try.f22 H0) [(0, x0), (1, x1)] H
noncomputable def texttoolsref51_Pipe_Write_J1 (x0 x1 : AV) (H0 H : Hp) : Res := CXL cfg (callw cfg) (LPL cfg (cfg.keep 22) 42) (cfg.keep 22) 42 seqL blockL (sub (bodyOf Try.f22) [1, 1]) (retL cfg 42 22 Try.f22 H0) [(0, x0), (1, x1)] H
noncomputable def F_texttoolsref51_Pipe_Write (p0 p1 : AV) (H : Hp) : Res :=
  bnd (ebin (.pointer 48) .eql p0 .nilp) fun t8_25 =>
  cnd t8_25
    (some ((.tuple [(.int .i64 0), (.int .i64 5)]), H))
    (texttoolsref51_Pipe_Write_J1 p0 p1 H H)
theorem texttoolsref51_Pipe_Write_J3_eq (x0 x1 : AV) (H0 H : Hp) : texttoolsref51_Pipe_Write_J3 x0 x1 H0 H =
    bnd (alenD .string x1) fun t18_1 =>
    bnd (anil x0) fun t20_2 =>
    bnd (afield 0 t20_2) fun t21_3 =>
    bnd (aload false 1 t21_3 H) fun t22_4 =>
    bnd (anil x0) fun t24_5 =>
    bnd (afield 1 t24_5) fun t25_6 =>
    bnd (aload false 1 t25_6 H) fun t26_7 =>
    bnd (alenD .string t26_7) fun t27_8 =>
    bnd (ibin .sub t22_4 t27_8) fun t28_9 =>
    bnd (amin2 t18_1 t28_9) fun t29_10 =>
    bnd (anil x0) fun t32_11 =>
    bnd (afield 1 t32_11) fun t33_12 =>
    bnd (aload false 1 t33_12 H) fun t34_13 =>
    bnd (asliceS x1 none (some t29_10) none) fun t37_14 =>
    bnd (sbin .add t34_13 t37_14) fun t38_15 =>
    bnd (anil x0) fun t39_16 =>
    bnd (afield 1 t39_16) fun t40_17 =>
    bnd (astoreU 1 t40_17 t38_15 H) fun r_18 =>
    some ((.tuple [t29_10, (.int .i64 0)]), r_18.2) := (CXM_eq [3, 5, 7] _ _ _ _).trans (by kernel_rfl)
theorem texttoolsref51_Pipe_Write_J2_eq (x0 x1 : AV) (H0 H : Hp) : texttoolsref51_Pipe_Write_J2 x0 x1 H0 H =
    bnd (anil x0) fun t14_19 =>
    bnd (afield 3 t14_19) fun t15_20 =>
    bnd (aload false 1 t15_20 H) fun t16_21 =>
    cnd t16_21
      (some ((.tuple [(.int .i64 0), (.int .i64 15)]), H))
      (texttoolsref51_Pipe_Write_J3 x0 x1 H0 H) := (CXM_eq [3, 5, 7] _ _ _ _).trans (by kernel_rfl)
theorem texttoolsref51_Pipe_Write_J1_eq (x0 x1 : AV) (H0 H : Hp) : texttoolsref51_Pipe_Write_J1 x0 x1 H0 H =
    bnd (anil x0) fun t10_22 =>
    bnd (afield 2 t10_22) fun t11_23 =>
    bnd (aload false 1 t11_23 H) fun t12_24 =>
    cnd t12_24
      (some ((.tuple [(.int .i64 0), (.int .i64 8)]), H))
      (texttoolsref51_Pipe_Write_J2 x0 x1 H0 H) := (CXM_eq [3, 5, 7] _ _ _ _).trans (by kernel_rfl)
theorem F_texttoolsref51_Pipe_Write_eq (p0 p1 : AV) (H : Hp) : C_texttoolsref51_Pipe_Write [p0, p1] H = F_texttoolsref51_Pipe_Write p0 p1 H := (callw_cxm (C := cfg) (fn := Try.f22) (c := bodyOf Try.f22) (n := 42) [3, 5, 7] Try.func22 (by kernel_rfl) (by kernel_rfl) [p0, p1] (by kernel_rfl) H).trans (by kernel_rfl)

/-! ### texttoolsref51_Pipe_Read -/
noncomputable def texttoolsref51_Pipe_Read_J2 (x0 x1 : AV) (H0 H : Hp) : Res := CXL cfg (callw cfg) (LPL cfg (cfg.keep 23) 48) (cfg.keep 23) 48 seqL blockL (sub (bodyOf Try.f23) [1, 1, 1]) (retL cfg 48 23 Try.f23 H0) [(0, x0), (1, x1)] H
noncomputable def texttoolsref51_Pipe_Read_J1 (x0 x1 : AV) (H0 H : Hp) : Res := CXL cfg (callw cfg) (LPL cfg (cfg.keep 23) 48) (cfg.keep 23) 48 seqL blockL (sub (bodyOf Try.f23) [1, 1]) (retL cfg 48 23 Try.f23 H0) [(0, x0), (1, x1)] H
noncomputable def F_texttoolsref51_Pipe_Read (p0 p1 : AV) (H : Hp) : Res :=
  bnd (ebin (.pointer 48) .eql p0 .nilp) fun t8_30 =>
  cnd t8_30
    (some ((.tuple [(.str []), (.bool false)]), H))
    (texttoolsref51_Pipe_Read_J1 p0 p1 H H)
theorem texttoolsref51_Pipe_Read_J2_eq (x0 x1 : AV) (H0 H : Hp) : texttoolsref51_Pipe_Read_J2 x0 x1 H0 H =
    bnd (anil x0) fun t15_1 =>
    bnd (afield 1 t15_1) fun t16_2 =>
    bnd (aload false 1 t16_2 H) fun t17_3 =>
    bnd (alenD .string t17_3) fun t18_4 =>
    bnd (amin2 x1 t18_4) fun t19_5 =>
    bnd (amax2 (.int .i64 0) t19_5) fun t20_6 =>
    bnd (anil x0) fun t22_7 =>
    bnd (afield 1 t22_7) fun t23_8 =>
    bnd (aload false 1 t23_8 H) fun t24_9 =>
    bnd (asliceS t24_9 none (some t20_6) none) fun t26_10 =>
    bnd (anil x0) fun t29_11 =>
    bnd (afield 1 t29_11) fun t30_12 =>
    bnd (aload false 1 t30_12 H) fun t31_13 =>
    bnd (asliceS t31_13 (some t20_6) none none) fun t33_14 =>
    bnd (anil x0) fun t34_15 =>
    bnd (afield 1 t34_15) fun t35_16 =>
    bnd (astoreU 1 t35_16 t33_14 H) fun r_17 =>
    bnd (anil x0) fun t38_18 =>
    bnd (afield 2 t38_18) fun t39_19 =>
    bnd (aload false 1 t39_19 r_17.2) fun t40_20 =>
    bnd (gdv t40_20 true (.tuple []) (some x0)) fun t42_21 =>
    bnd (gdv t40_20 true (.tuple []) (anil t42_21)) fun t43_22 =>
    bnd (gdv t40_20 true (.tuple []) (afield 1 t43_22)) fun t44_23 =>
    bnd (gdv t40_20 true (.tuple []) (aload false 1 t44_23 r_17.2)) fun t45_24 =>
    bnd (gdv t40_20 true (.tuple []) (sbin .eql t45_24 (.str []))) fun t46_25 =>
    bnd (apick t40_20 t46_25 (.bool false)) fun t47_26 =>
    some ((.tuple [t26_10, t47_26]), r_17.2) := (CXM_eq [3, 5] _ _ _ _).trans (by kernel_rfl)
theorem texttoolsref51_Pipe_Read_J1_eq (x0 x1 : AV) (H0 H : Hp) : texttoolsref51_Pipe_Read_J1 x0 x1 H0 H =
    bnd (anil x0) fun t10_27 =>
    bnd (afield 3 t10_27) fun t11_28 =>
    bnd (aload false 1 t11_28 H) fun t12_29 =>
    cnd t12_29
      (some ((.tuple [(.str []), (.bool true)]), H))
      (texttoolsref51_Pipe_Read_J2 x0 x1 H0 H) := (CXM_eq [3, 5] _ _ _ _).trans (by kernel_rfl)
theorem F_texttoolsref51_Pipe_Read_eq (p0 p1 : AV) (H : Hp) : C_texttoolsref51_Pipe_Read [p0, p1] H = F_texttoolsref51_Pipe_Read p0 p1 H := (callw_cxm (C := cfg) (fn := Try.f23) (c := bodyOf Try.f23) (n := 48) [3, 5] Try.func23 (by kernel_rfl) (by kernel_rfl) [p0, p1] (by kernel_rfl) H).trans (by kernel_rfl)

/-! ### texttoolsref51_Pipe_CloseWriter -/
noncomputable def F_texttoolsref51_Pipe_CloseWriter (p0 : AV) (H : Hp) : Res :=
  bnd (ebin (.pointer 48) .neq p0 .nilp) fun t3_1 =>
  cnd t3_1
    (bnd (anil p0) fun t5_2 =>
    bnd (afield 2 t5_2) fun t6_3 =>
    bnd (astoreU 1 t6_3 (.bool true) H) fun r_4 =>
    some ((.tuple []), r_4.2))
    (some ((.tuple []), H))
theorem F_texttoolsref51_Pipe_CloseWriter_eq (p0 : AV) (H : Hp) : C_texttoolsref51_Pipe_CloseWriter [p0] H = F_texttoolsref51_Pipe_CloseWriter p0 H := (callw_cxm (C := cfg) (fn := Try.f24) (c := bodyOf Try.f24) (n := 7) [] Try.func24 (by kernel_rfl) (by kernel_rfl) [p0] (by kernel_rfl) H).trans (by kernel_rfl)

/-! ### texttoolsref51_Pipe_CloseReader -/
noncomputable def F_texttoolsref51_Pipe_CloseReader (p0 : AV) (H : Hp) : Res :=
  bnd (ebin (.pointer 48) .neq p0 .nilp) fun t3_1 =>
  cnd t3_1
    (bnd (anil p0) fun t5_2 =>
    bnd (afield 3 t5_2) fun t6_3 =>
    bnd (astoreU 1 t6_3 (.bool true) H) fun r_4 =>
    bnd (anil p0) fun t8_5 =>
    bnd (afield 1 t8_5) fun t9_6 =>
    bnd (astoreU 1 t9_6 (.str []) r_4.2) fun r_7 =>
    some ((.tuple []), r_7.2))
    (some ((.tuple []), H))
theorem F_texttoolsref51_Pipe_CloseReader_eq (p0 : AV) (H : Hp) : C_texttoolsref51_Pipe_CloseReader [p0] H = F_texttoolsref51_Pipe_CloseReader p0 H := (callw_cxm (C := cfg) (fn := Try.f25) (c := bodyOf Try.f25) (n := 10) [] Try.func25 (by kernel_rfl) (by kernel_rfl) [p0] (by kernel_rfl) H).trans (by kernel_rfl)

theorem user_ok : ∀ f ∈ userList, ∀ (args : Array Value) (w : World), (callFunc f args).run Try.prog w = .ok (.enter f args) w := by
  intro f hf
  simp only [userList, List.mem_cons, List.not_mem_nil, or_false] at hf
  rcases hf with rfl | rfl | rfl | rfl | rfl | rfl | rfl | rfl | rfl | rfl | rfl | rfl | rfl | rfl | rfl | rfl | rfl | rfl | rfl | rfl | rfl | rfl | rfl
  · exact Try.call3
  · exact Try.call4
  · exact Try.call5
  · exact Try.call6
  · exact Try.call7
  · exact Try.call8
  · exact Try.call9
  · exact Try.call10
  · exact Try.call11
  · exact Try.call12
  · exact Try.call13
  · exact Try.call14
  · exact Try.call15
  · exact Try.call16
  · exact Try.call17
  · exact Try.call18
  · exact Try.call19
  · exact Try.call20
  · exact Try.call21
  · exact Try.call22
  · exact Try.call23
  · exact Try.call24
  · exact Try.call25
theorem eq_ok : ∀ t ∈ eqList, Try.prog.stoodInHeld t = false ∧ Try.prog.eqGuardType Try.prog.depth t = false := by
  intro t ht
  simp only [eqList, List.mem_cons, List.not_mem_nil, or_false] at ht
  rcases ht with rfl
  · exact ⟨Try.stoodInHeld37, Try.eqGuardType37⟩
theorem cfg_ok : okCfg cfg :=
  ⟨fun t h => eq_ok t (List.contains_iff_mem.1 h), fun f h => user_ok f (List.contains_iff_mem.1 h), by kernel_rfl⟩
end Go.Am
