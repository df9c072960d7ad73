/-
  The functions of the translation over the abstract machine, a further part: written by program (wip/gen.py).
-/
import Derived.Test.YtnaneekpogohaaaGreatDoorXeGx
namespace Go.Am
open Go.Proofs
set_option maxRecDepth 100000
set_option linter.unusedVariables false
set_option linter.unusedSimpArgs false

noncomputable def R23_Plan_J3 (x5:AV) (H0 H:Hp):Res:=CXL cfg (callw cfg) (LPL cfg (cfg.keep 70) 37) (cfg.keep 70) 37 seqL blockL (sub (bodyOf Tryz.f70) [1,1,1,1,1]) (retL cfg 37 70 Tryz.f70 H0) [(5,x5)] H
noncomputable def R23_Plan_K1 (H0:Hp):KL:=seqL (fun k al H=>CXL cfg (callw cfg) (LPL cfg (cfg.keep 70) 37) (cfg.keep 70) 37 seqL blockL (sub (bodyOf Tryz.f70) [1,1,1,1,1]) k (trimL (cfg.keep 70) (sub (bodyOf Tryz.f70) [1,1,1,1,1]) al) H) (retL cfg 37 70 Tryz.f70 H0)
theorem R23_Plan_K1_tame (H0:Hp):Tame 37 (R23_Plan_K1 H0):=tame_seq (C:=cfg) (kp:=cfg.keep 70) (sub (bodyOf Tryz.f70) [1,1,1,1,1]) (tame_ret 70 Tryz.f70 H0)
noncomputable def R23_Plan_J5 (x0 x1 x5 x6 x7:AV) (H0 H:Hp):Res:=CXL cfg (callw cfg) (LPL cfg (cfg.keep 70) 37) (cfg.keep 70) 37 seqL blockL (sub (bodyOf Tryz.f70) [1,1,1,1,0,1,0,0,1,0,1,1]) (blockL 1 (seqL (fun k al H=>LPL cfg (cfg.keep 70) 37 (sub (bodyOf Tryz.f70) [1,1,1,1,0,1,0,0]) k (trimL (cfg.keep 70) (sub (bodyOf Tryz.f70) [1,1,1,1,0,1,0,0]) al) H) (blockL 0 (R23_Plan_K1 H0)))) [(0,x0),(1,x1),(5,x5),(6,x6),(7,x7)] H
noncomputable def R23_Plan_K2 (H0:Hp):KL:=seqL (fun k al H=>CXL cfg (callw cfg) (LPL cfg (cfg.keep 70) 37) (cfg.keep 70) 37 seqL blockL (sub (bodyOf Tryz.f70) [1,1,1,1,0,1,0,0,1,0,1,1]) k (trimL (cfg.keep 70) (sub (bodyOf Tryz.f70) [1,1,1,1,0,1,0,0,1,0,1,1]) al) H) (blockL 1 (seqL (fun k al H=>LPL cfg (cfg.keep 70) 37 (sub (bodyOf Tryz.f70) [1,1,1,1,0,1,0,0]) k (trimL (cfg.keep 70) (sub (bodyOf Tryz.f70) [1,1,1,1,0,1,0,0]) al) H) (blockL 0 (R23_Plan_K1 H0))))
theorem R23_Plan_K2_tame (H0:Hp):Tame 37 (R23_Plan_K2 H0):=tame_seq (C:=cfg) (kp:=cfg.keep 70) (sub (bodyOf Tryz.f70) [1,1,1,1,0,1,0,0,1,0,1,1]) (tame_block 1 (tame_loop (C:=cfg) (kp:=cfg.keep 70) (sub (bodyOf Tryz.f70) [1,1,1,1,0,1,0,0]) (tame_block 0 (R23_Plan_K1_tame H0))))
noncomputable def R23_Plan_J7 (x0 x1 x5 x6 x7 x8:AV) (H0 H:Hp):Res:=CXL cfg (callw cfg) (LPL cfg (cfg.keep 70) 37) (cfg.keep 70) 37 seqL blockL (sub (bodyOf Tryz.f70) [1,1,1,1,0,1,0,0,1,0,1,0,1,0,0,1,1]) (seqL (fun k al H=>LPL cfg (cfg.keep 70) 37 (sub (bodyOf Tryz.f70) [1,1,1,1,0,1,0,0,1,0,1,0,1,0,0]) k (trimL (cfg.keep 70) (sub (bodyOf Tryz.f70) [1,1,1,1,0,1,0,0,1,0,1,0,1,0,0]) al) H) (blockL 2 (R23_Plan_K2 H0))) [(0,x0),(1,x1),(5,x5),(6,x6),(7,x7),(8,x8)] H
noncomputable def R23_Plan_J6 (x0 x1 x5 x6 x7 x8:AV) (H0 H:Hp):Res:=CXL cfg (callw cfg) (LPL cfg (cfg.keep 70) 37) (cfg.keep 70) 37 seqL blockL (sub (bodyOf Tryz.f70) [1,1,1,1,0,1,0,0,1,0,1,0,1,0,0,1]) (seqL (fun k al H=>LPL cfg (cfg.keep 70) 37 (sub (bodyOf Tryz.f70) [1,1,1,1,0,1,0,0,1,0,1,0,1,0,0]) k (trimL (cfg.keep 70) (sub (bodyOf Tryz.f70) [1,1,1,1,0,1,0,0,1,0,1,0,1,0,0]) al) H) (blockL 2 (R23_Plan_K2 H0))) [(0,x0),(1,x1),(5,x5),(6,x6),(7,x7),(8,x8)] H
noncomputable def R23_Plan_L2 (x0 x1 x5 x6 x7 x8:AV) (H0 H:Hp):Res:=LPL cfg (cfg.keep 70) 37 (sub (bodyOf Tryz.f70) [1,1,1,1,0,1,0,0,1,0,1,0,1,0,0]) (blockL 2 (R23_Plan_K2 H0)) [(0,x0),(1,x1),(5,x5),(6,x6),(7,x7),(8,x8)] H
noncomputable def R23_Plan_J4 (x0 x1 x5 x6:AV) (H0 H:Hp):Res:=CXL cfg (callw cfg) (LPL cfg (cfg.keep 70) 37) (cfg.keep 70) 37 seqL blockL (sub (bodyOf Tryz.f70) [1,1,1,1,0,1,0,0,1]) (seqL (fun k al H=>LPL cfg (cfg.keep 70) 37 (sub (bodyOf Tryz.f70) [1,1,1,1,0,1,0,0]) k (trimL (cfg.keep 70) (sub (bodyOf Tryz.f70) [1,1,1,1,0,1,0,0]) al) H) (blockL 0 (R23_Plan_K1 H0))) [(0,x0),(1,x1),(5,x5),(6,x6)] H
noncomputable def R23_Plan_L1 (x0 x1 x5 x6:AV) (H0 H:Hp):Res:=LPL cfg (cfg.keep 70) 37 (sub (bodyOf Tryz.f70) [1,1,1,1,0,1,0,0]) (blockL 0 (R23_Plan_K1 H0)) [(0,x0),(1,x1),(5,x5),(6,x6)] H
noncomputable def R23_Plan_J2 (x0 x1:AV) (H0 H:Hp):Res:=CXL cfg (callw cfg) (LPL cfg (cfg.keep 70) 37) (cfg.keep 70) 37 seqL blockL (sub (bodyOf Tryz.f70) [1,1,1]) (retL cfg 37 70 Tryz.f70 H0) [(0,x0),(1,x1)] H
noncomputable def R23_Plan_J1 (x0 x1:AV) (H0 H:Hp):Res:=CXL cfg (callw cfg) (LPL cfg (cfg.keep 70) 37) (cfg.keep 70) 37 seqL blockL (sub (bodyOf Tryz.f70) [1,1]) (retL cfg 37 70 Tryz.f70 H0) [(0,x0),(1,x1)] H
noncomputable def F_R23_Plan (p0 p1:AV) (H:Hp):Res :=
 bnd (ibin .lss p1 (.int .i64 2)) fun t10_14 =>
 cnd t10_14
  (R23_Plan_J1 p0 (.int .i64 2) H H)
  (R23_Plan_J1 p0 p1 H H)
theorem R23_Plan_J3_eq (x5 : AV) (H0 H : Hp) : R23_Plan_J3 x5 H0 H =
    some (x5,H):=(CXM_eq [3,5,8,11,12,14,15] _ _ _ _).trans (by kernel_rfl)
theorem R23_Plan_J5_eq (x0 x1 x5 x6 x7 : AV) (H0 H : Hp) : R23_Plan_J5 x0 x1 x5 x6 x7 H0 H =
    bnd ((setElems 1 [(0,x7)] [.nils]).map (.vs 1 .clip)) fun t34_1 =>
    bnd (aappEL false 1 24 x5 t34_1 H) fun r35_2 =>
    R23_Plan_L1 x0 x1 r35_2.1 x6 H0 r35_2.2:=(CXM_eq [3,5,8,11,12,14,15] _ _ _ _).trans (by kernel_rfl)
theorem R23_Plan_J7_eq (x0 x1 x5 x6 x7 x8 : AV) (H0 H : Hp) : R23_Plan_J7 x0 x1 x5 x6 x7 x8 H0 H =
    bnd (ibin .add x8 (.int .i64 1)) fun t25_3 =>
    R23_Plan_L2 x0 x1 x5 x6 x7 t25_3 H0 H:=(CXM_eq [3,5,8,11,12,14,15] _ _ _ _).trans (by kernel_rfl)
theorem R23_Plan_J6_eq (x0 x1 x5 x6 x7 x8 : AV) (H0 H : Hp) : R23_Plan_J6 x0 x1 x5 x6 x7 x8 H0 H =
    bnd ((setElems 1 [(0,x6)] [(.int .i64 0)]).map (.vs 1 .clip)) fun t28_4 =>
    bnd (aappE 1 8 x7 t28_4 H) fun r29_5 =>
    bnd (ibin .add x6 (.int .i64 1)) fun t31_6 =>
    R23_Plan_J7 x0 x1 x5 t31_6 r29_5.1 x8 H0 r29_5.2:=(CXM_eq [3,5,8,11,12,14,15] _ _ _ _).trans (by kernel_rfl)
theorem R23_Plan_L2_eq (x0 x1 x5 x6 x7 x8 : AV) (H0 H : Hp) : R23_Plan_L2 x0 x1 x5 x6 x7 x8 H0 H =
    bnd (ibin .lss x8 x1) fun t18_7 =>
    bnd (gdv t18_7 true (.tuple []) (some x6)) fun t20_8 =>
    bnd (gdv t18_7 true (.tuple []) (some x0)) fun t21_9 =>
    bnd (gdv t18_7 true (.tuple []) (ibin .lss t20_8 t21_9)) fun t22_10 =>
    bnd (apick t18_7 t22_10 (.bool false)) fun t23_11 =>
    cnd t23_11
     (R23_Plan_J6 x0 x1 x5 x6 x7 x8 H0 H)
     (R23_Plan_J5 x0 x1 x5 x6 x7 H0 H):=(LPL_eqm (C:=cfg) [3,5,8,11,12,14,15] (tame_block 2 (R23_Plan_K2_tame H0)) _ _).trans (by kernel_rfl)
theorem R23_Plan_J4_eq (x0 x1 x5 x6 : AV) (H0 H : Hp) : R23_Plan_J4 x0 x1 x5 x6 H0 H =
    R23_Plan_L2 x0 x1 x5 x6 .nils (.int .i64 0) H0 H:=(CXM_eq [3,5,8,11,12,14,15] _ _ _ _).trans (by kernel_rfl)
theorem R23_Plan_L1_eq (x0 x1 x5 x6 : AV) (H0 H : Hp) : R23_Plan_L1 x0 x1 x5 x6 H0 H =
    bnd (ibin .lss x6 x0) fun t15_12 =>
    cnd t15_12
     (R23_Plan_J4 x0 x1 x5 x6 H0 H)
     (R23_Plan_J3 x5 H0 H):=(LPL_eqm (C:=cfg) [3,5,8,11,12,14,15] (tame_block 0 (R23_Plan_K1_tame H0)) _ _).trans (by kernel_rfl)
theorem R23_Plan_J2_eq (x0 x1 : AV) (H0 H : Hp) : R23_Plan_J2 x0 x1 H0 H =
    R23_Plan_L1 x0 x1 .nils (.int .i64 0) H0 H:=(CXM_eq [3,5,8,11,12,14,15] _ _ _ _).trans (by kernel_rfl)
theorem R23_Plan_J1_eq (x0 x1 : AV) (H0 H : Hp) : R23_Plan_J1 x0 x1 H0 H =
    bnd (ibin .gtr x1 (.int .i64 32)) fun t12_13 =>
    cnd t12_13
     (R23_Plan_J2 x0 (.int .i64 32) H0 H)
     (R23_Plan_J2 x0 x1 H0 H):=(CXM_eq [3,5,8,11,12,14,15] _ _ _ _).trans (by kernel_rfl)
theorem F_R23_Plan_eq (p0 p1:AV) (H:Hp):C_R23_Plan [p0,p1] H=F_R23_Plan p0 p1 H:=(callw_cxm (C:=cfg) (fn:=Tryz.f70) (c:=bodyOf Tryz.f70) (n:=37) [3,5,8,11,12,14,15] Tryz.func70 (by kernel_rfl) (by kernel_rfl) [p0,p1] (by kernel_rfl) H).trans (by kernel_rfl)

end Go.Am
