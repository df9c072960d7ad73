/-
  The functions of the translation over the abstract machine, a further part: written by program (wip/gen.py).
-/
import Derived.Test.YtnaneekpogohaaaGreatDoorXeGx
namespace Go.Am
open Go.Proofs
set_option maxRecDepth 100000
set_option linter.unusedVariables false
set_option linter.unusedSimpArgs false

noncomputable def extsort_Cost_J3 (x4 x5:AV) (H0 H:Hp):Res:=CXL cfg (callw cfg) (LPL cfg (cfg.keep 35) 62) (cfg.keep 35) 62 seqL blockL (sub (bodyOf Tryz.f35) [1,1,1,1,1]) (retL cfg 62 35 Tryz.f35 H0) [(4,x4),(5,x5)] H
noncomputable def extsort_Cost_K1 (H0:Hp):KL:=seqL (fun k al H=>CXL cfg (callw cfg) (LPL cfg (cfg.keep 35) 62) (cfg.keep 35) 62 seqL blockL (sub (bodyOf Tryz.f35) [1,1,1,1,1]) k (trimL (cfg.keep 35) (sub (bodyOf Tryz.f35) [1,1,1,1,1]) al) H) (retL cfg 62 35 Tryz.f35 H0)
theorem extsort_Cost_K1_tame (H0:Hp):Tame 62 (extsort_Cost_K1 H0):=tame_seq (C:=cfg) (kp:=cfg.keep 35) (sub (bodyOf Tryz.f35) [1,1,1,1,1]) (tame_ret 35 Tryz.f35 H0)
noncomputable def extsort_Cost_J5 (x3 x4 x5 x10:AV) (H0 H:Hp):Res:=CXL cfg (callw cfg) (LPL cfg (cfg.keep 35) 62) (cfg.keep 35) 62 seqL blockL (sub (bodyOf Tryz.f35) [1,1,1,1,0,1,0,0,1,1]) (seqL (fun k al H=>LPL cfg (cfg.keep 35) 62 (sub (bodyOf Tryz.f35) [1,1,1,1,0,1,0,0]) k (trimL (cfg.keep 35) (sub (bodyOf Tryz.f35) [1,1,1,1,0,1,0,0]) al) H) (blockL 2 (extsort_Cost_K1 H0))) [(3,x3),(4,x4),(5,x5),(10,x10)] H
noncomputable def extsort_Cost_J4 (x3 x4 x5 x10:AV) (H0 H:Hp):Res:=CXL cfg (callw cfg) (LPL cfg (cfg.keep 35) 62) (cfg.keep 35) 62 seqL blockL (sub (bodyOf Tryz.f35) [1,1,1,1,0,1,0,0,1]) (seqL (fun k al H=>LPL cfg (cfg.keep 35) 62 (sub (bodyOf Tryz.f35) [1,1,1,1,0,1,0,0]) k (trimL (cfg.keep 35) (sub (bodyOf Tryz.f35) [1,1,1,1,0,1,0,0]) al) H) (blockL 2 (extsort_Cost_K1 H0))) [(3,x3),(4,x4),(5,x5),(10,x10)] H
noncomputable def extsort_Cost_L1 (x3 x4 x5 x10:AV) (H0 H:Hp):Res:=LPL cfg (cfg.keep 35) 62 (sub (bodyOf Tryz.f35) [1,1,1,1,0,1,0,0]) (blockL 2 (extsort_Cost_K1 H0)) [(3,x3),(4,x4),(5,x5),(10,x10)] H
noncomputable def extsort_Cost_J2 (x3 x4 x5:AV) (H0 H:Hp):Res:=CXL cfg (callw cfg) (LPL cfg (cfg.keep 35) 62) (cfg.keep 35) 62 seqL blockL (sub (bodyOf Tryz.f35) [1,1,1,1]) (retL cfg 62 35 Tryz.f35 H0) [(3,x3),(4,x4),(5,x5)] H
noncomputable def extsort_Cost_K2 (H0:Hp):KL:=seqL (fun k al H=>CXL cfg (callw cfg) (LPL cfg (cfg.keep 35) 62) (cfg.keep 35) 62 seqL blockL (sub (bodyOf Tryz.f35) [1,1,1,1]) k (trimL (cfg.keep 35) (sub (bodyOf Tryz.f35) [1,1,1,1]) al) H) (retL cfg 62 35 Tryz.f35 H0)
theorem extsort_Cost_K2_tame (H0:Hp):Tame 62 (extsort_Cost_K2 H0):=tame_seq (C:=cfg) (kp:=cfg.keep 35) (sub (bodyOf Tryz.f35) [1,1,1,1]) (tame_ret 35 Tryz.f35 H0)
noncomputable def extsort_Cost_J7 (x3 x4 x5 x6 x14 x15 x16:AV) (H0 H:Hp):Res:=CXL cfg (callw cfg) (LPL cfg (cfg.keep 35) 62) (cfg.keep 35) 62 seqL blockL (sub (bodyOf Tryz.f35) [1,1,1,0,1,0,0,1,1,1]) (seqL (fun k al H=>LPL cfg (cfg.keep 35) 62 (sub (bodyOf Tryz.f35) [1,1,1,0,1,0,0]) k (trimL (cfg.keep 35) (sub (bodyOf Tryz.f35) [1,1,1,0,1,0,0]) al) H) (blockL 0 (extsort_Cost_K2 H0))) [(3,x3),(4,x4),(5,x5),(6,x6),(14,x14),(15,x15),(16,x16)] H
noncomputable def extsort_Cost_K3 (H0:Hp):KL:=seqL (fun k al H=>CXL cfg (callw cfg) (LPL cfg (cfg.keep 35) 62) (cfg.keep 35) 62 seqL blockL (sub (bodyOf Tryz.f35) [1,1,1,0,1,0,0,1,1,1]) k (trimL (cfg.keep 35) (sub (bodyOf Tryz.f35) [1,1,1,0,1,0,0,1,1,1]) al) H) (seqL (fun k al H=>LPL cfg (cfg.keep 35) 62 (sub (bodyOf Tryz.f35) [1,1,1,0,1,0,0]) k (trimL (cfg.keep 35) (sub (bodyOf Tryz.f35) [1,1,1,0,1,0,0]) al) H) (blockL 0 (extsort_Cost_K2 H0)))
noncomputable def extsort_Cost_J9 (x3 x4 x5 x6 x9 x14 x15 x16:AV) (H0 H:Hp):Res:=CXL cfg (callw cfg) (LPL cfg (cfg.keep 35) 62) (cfg.keep 35) 62 seqL blockL (sub (bodyOf Tryz.f35) [1,1,1,0,1,0,0,1,1,0,0,1,1,1,1]) (blockL 1 (extsort_Cost_K3 H0)) [(3,x3),(4,x4),(5,x5),(6,x6),(9,x9),(14,x14),(15,x15),(16,x16)] H
noncomputable def extsort_Cost_J8 (x3 x4 x5 x6 x7 x8 x14 x15 x16:AV) (H0 H:Hp):Res:=CXL cfg (callw cfg) (LPL cfg (cfg.keep 35) 62) (cfg.keep 35) 62 seqL blockL (sub (bodyOf Tryz.f35) [1,1,1,0,1,0,0,1,1,0,0,1,1]) (blockL 1 (extsort_Cost_K3 H0)) [(3,x3),(4,x4),(5,x5),(6,x6),(7,x7),(8,x8),(14,x14),(15,x15),(16,x16)] H
noncomputable def extsort_Cost_J6 (x3 x4 x5 x6 x14 x15 x16 x17:AV) (H0 H:Hp):Res:=CXL cfg (callw cfg) (LPL cfg (cfg.keep 35) 62) (cfg.keep 35) 62 seqL blockL (sub (bodyOf Tryz.f35) [1,1,1,0,1,0,0,1,1]) (seqL (fun k al H=>LPL cfg (cfg.keep 35) 62 (sub (bodyOf Tryz.f35) [1,1,1,0,1,0,0]) k (trimL (cfg.keep 35) (sub (bodyOf Tryz.f35) [1,1,1,0,1,0,0]) al) H) (blockL 0 (extsort_Cost_K2 H0))) [(3,x3),(4,x4),(5,x5),(6,x6),(14,x14),(15,x15),(16,x16),(17,x17)] H
noncomputable def extsort_Cost_L2 (x3 x4 x5 x6 x14 x15 x16:AV) (H0 H:Hp):Res:=LPL cfg (cfg.keep 35) 62 (sub (bodyOf Tryz.f35) [1,1,1,0,1,0,0]) (blockL 0 (extsort_Cost_K2 H0)) [(3,x3),(4,x4),(5,x5),(6,x6),(14,x14),(15,x15),(16,x16)] H
noncomputable def extsort_Cost_J1 (x0 x3 x4 x5:AV) (H0 H:Hp):Res:=CXL cfg (callw cfg) (LPL cfg (cfg.keep 35) 62) (cfg.keep 35) 62 seqL blockL (sub (bodyOf Tryz.f35) [1,1]) (retL cfg 62 35 Tryz.f35 H0) [(0,x0),(3,x3),(4,x4),(5,x5)] H
noncomputable def F_extsort_Cost (p0 p1:AV) (H:Hp):Res :=
 bnd (abox p1 H) fun r3_1 =>
 bnd (aload true 2 r3_1.1 r3_1.2) fun t11_33 =>
 bnd (flatC C_extsort_valid [t11_33] r3_1.2) fun r12_34 =>
 bnd (aun .not r12_34.1) fun t13_35 =>
 cnd t13_35
  (some ((.tuple [(.int .i64 0),(.int .i64 0)]),r12_34.2))
  (extsort_Cost_J1 p0 r3_1.1 (.int .i64 0) (.int .i64 0) H r12_34.2)
theorem extsort_Cost_J3_eq (x4 x5 : AV) (H0 H : Hp) : extsort_Cost_J3 x4 x5 H0 H =
    some ((.tuple [x4,x5]),H):=(CXM_eq [3,6,9,12,13,14,16,17,18] _ _ _ _).trans (by kernel_rfl)
theorem extsort_Cost_J5_eq (x3 x4 x5 x10 : AV) (H0 H : Hp) : extsort_Cost_J5 x3 x4 x5 x10 H0 H =
    bnd (afield 1 x3) fun t51_2 =>
    bnd (aload false 1 t51_2 H) fun t52_3 =>
    bnd (ibin .add x10 t52_3) fun t53_4 =>
    bnd (ibin .sub t53_4 (.int .i64 1)) fun t54_5 =>
    bnd (afield 1 x3) fun t55_6 =>
    bnd (aload false 1 t55_6 H) fun t56_7 =>
    bnd (ibin .quo t54_5 t56_7) fun t57_8 =>
    extsort_Cost_L1 x3 x4 x5 t57_8 H0 H:=(CXM_eq [3,6,9,12,13,14,16,17,18] _ _ _ _).trans (by kernel_rfl)
theorem extsort_Cost_J4_eq (x3 x4 x5 x10 : AV) (H0 H : Hp) : extsort_Cost_J4 x3 x4 x5 x10 H0 H =
    bnd (ibin .add x5 (.int .i64 1)) fun t59_9 =>
    extsort_Cost_J5 x3 x4 t59_9 x10 H0 H:=(CXM_eq [3,6,9,12,13,14,16,17,18] _ _ _ _).trans (by kernel_rfl)
theorem extsort_Cost_L1_eq (x3 x4 x5 x10 : AV) (H0 H : Hp) : extsort_Cost_L1 x3 x4 x5 x10 H0 H =
    bnd (afield 1 x3) fun t47_10 =>
    bnd (aload false 1 t47_10 H) fun t48_11 =>
    bnd (ibin .gtr x10 t48_11) fun t49_12 =>
    cnd t49_12
     (extsort_Cost_J4 x3 x4 x5 x10 H0 H)
     (extsort_Cost_J3 x4 x5 H0 H):=(LPL_eqm (C:=cfg) [3,6,9,12,13,14,16,17,18] (tame_block 2 (extsort_Cost_K1_tame H0)) _ _).trans (by kernel_rfl)
theorem extsort_Cost_J2_eq (x3 x4 x5 : AV) (H0 H : Hp) : extsort_Cost_J2 x3 x4 x5 H0 H =
    extsort_Cost_L1 x3 x4 x5 x4 H0 H:=(CXM_eq [3,6,9,12,13,14,16,17,18] _ _ _ _).trans (by kernel_rfl)
theorem extsort_Cost_J7_eq (x3 x4 x5 x6 x14 x15 x16 : AV) (H0 H : Hp) : extsort_Cost_J7 x3 x4 x5 x6 x14 x15 x16 H0 H =
    bnd (ibin .add x16 (.int .i64 1)) fun t44_15 =>
    extsort_Cost_L2 x3 x4 x5 x6 x14 x15 t44_15 H0 H:=(CXM_eq [3,6,9,12,13,14,16,17,18] _ _ _ _).trans (by kernel_rfl)
theorem extsort_Cost_J9_eq (x3 x4 x5 x6 x9 x14 x15 x16 : AV) (H0 H : Hp) : extsort_Cost_J9 x3 x4 x5 x6 x9 x14 x15 x16 H0 H =
    bnd (ibin .add x6 x9) fun t43_19 =>
    extsort_Cost_J7 x3 x4 x5 t43_19 x14 x15 x16 H0 H:=(CXM_eq [3,6,9,12,13,14,16,17,18] _ _ _ _).trans (by kernel_rfl)
theorem extsort_Cost_J8_eq (x3 x4 x5 x6 x7 x8 x14 x15 x16 : AV) (H0 H : Hp) : extsort_Cost_J8 x3 x4 x5 x6 x7 x8 x14 x15 x16 H0 H =
    bnd (ibin .add x8 (.int .i64 16)) fun t28_18 =>
    bnd (ibin .eql x7 (.int .i64 0)) fun t30_20 =>
    bnd (gdv t30_20 false (.tuple []) (some x6)) fun t32_21 =>
    bnd (gdv t30_20 false (.tuple []) (some t28_18)) fun t33_22 =>
    bnd (gdv t30_20 false (.tuple []) (ibin .add t32_21 t33_22)) fun t34_23 =>
    bnd (gdv t30_20 false (.tuple []) (afield 0 x3)) fun t35_24 =>
    bnd (gdv t30_20 false (.tuple []) (aload false 1 t35_24 H)) fun t36_25 =>
    bnd (gdv t30_20 false (.tuple []) (ibin .gtr t34_23 t36_25)) fun t37_26 =>
    bnd (apick t30_20 (.bool true) t37_26) fun t38_27 =>
    cnd t38_27
     (bnd (ibin .add x4 (.int .i64 1)) fun t40_28 =>
     extsort_Cost_J9 x3 t40_28 x5 (.int .i64 0) t28_18 x14 x15 x16 H0 H)
     (extsort_Cost_J9 x3 x4 x5 x6 t28_18 x14 x15 x16 H0 H):=(CXM_eq [3,6,9,12,13,14,16,17,18] _ _ _ _).trans (by kernel_rfl)
theorem extsort_Cost_J6_eq (x3 x4 x5 x6 x14 x15 x16 x17 : AV) (H0 H : Hp) : extsort_Cost_J6 x3 x4 x5 x6 x14 x15 x16 x17 H0 H =
    bnd (aindexS 1 x14 x16) fun t19_16 =>
    bnd (aload false 1 t19_16 H) fun t20_17 =>
    bnd (ibin .lss t20_17 (.int .i64 0)) fun t22_29 =>
    bnd (gdv t22_29 false (.tuple []) (some t20_17)) fun t24_30 =>
    bnd (gdv t22_29 false (.tuple []) (ibin .gtr t24_30 (.int .i64 4096))) fun t25_31 =>
    bnd (apick t22_29 (.bool true) t25_31) fun t26_32 =>
    cnd t26_32
     (some ((.tuple [(.int .i64 0),(.int .i64 0)]),H))
     (extsort_Cost_J8 x3 x4 x5 x6 x16 t20_17 x14 x15 x16 H0 H):=(CXM_eq [3,6,9,12,13,14,16,17,18] _ _ _ _).trans (by kernel_rfl)
theorem extsort_Cost_L2_eq (x3 x4 x5 x6 x14 x15 x16 : AV) (H0 H : Hp) : extsort_Cost_L2 x3 x4 x5 x6 x14 x15 x16 H0 H =
    bnd (ibin .lss x16 x15) fun t17_14 =>
    cnd t17_14
     (extsort_Cost_J6 x3 x4 x5 x6 x14 x15 x16 t17_14 H0 H)
     (extsort_Cost_J2 x3 x4 x5 H0 H):=(LPL_eqm (C:=cfg) [3,6,9,12,13,14,16,17,18] (tame_block 0 (extsort_Cost_K2_tame H0)) _ _).trans (by kernel_rfl)
theorem extsort_Cost_J1_eq (x0 x3 x4 x5 : AV) (H0 H : Hp) : extsort_Cost_J1 x0 x3 x4 x5 H0 H =
    bnd (alenD (.slice 3) x0) fun t15_13 =>
    extsort_Cost_L2 x3 x4 x5 (.int .i64 0) x0 t15_13 (.int .i64 0) H0 H:=(CXM_eq [3,6,9,12,13,14,16,17,18] _ _ _ _).trans (by kernel_rfl)
theorem F_extsort_Cost_eq (p0 p1:AV) (H:Hp):C_extsort_Cost [p0,p1] H=F_extsort_Cost p0 p1 H:=(callw_cxm (C:=cfg) (fn:=Tryz.f35) (c:=bodyOf Tryz.f35) (n:=62) [3,6,9,12,13,14,16,17,18] Tryz.func35 (by kernel_rfl) (by kernel_rfl) [p0,p1] (by kernel_rfl) H).trans (by kernel_rfl)

noncomputable def F_extsort_valid (p0:AV) (H:Hp):Res :=
 bnd (abox p0 H) fun r1_1 =>
 bnd (afield 0 r1_1.1) fun t3_2 =>
 bnd (aload false 1 t3_2 r1_1.2) fun t4_3 =>
 bnd (ibin .geq t4_3 (.int .i64 64)) fun t5_4 =>
 bnd (gdv t5_4 true (.tuple []) (afield 0 r1_1.1)) fun t7_5 =>
 bnd (gdv t5_4 true (.tuple []) (aload false 1 t7_5 r1_1.2)) fun t8_6 =>
 bnd (gdv t5_4 true (.tuple []) (ibin .leq t8_6 (.int .i64 65536))) fun t9_7 =>
 bnd (apick t5_4 t9_7 (.bool false)) fun t10_8 =>
 bnd (gdv t10_8 true (.tuple []) (afield 1 r1_1.1)) fun t12_9 =>
 bnd (gdv t10_8 true (.tuple []) (aload false 1 t12_9 r1_1.2)) fun t13_10 =>
 bnd (gdv t10_8 true (.tuple []) (ibin .geq t13_10 (.int .i64 2))) fun t14_11 =>
 bnd (apick t10_8 t14_11 (.bool false)) fun t15_12 =>
 bnd (gdv t15_12 true (.tuple []) (afield 1 r1_1.1)) fun t17_13 =>
 bnd (gdv t15_12 true (.tuple []) (aload false 1 t17_13 r1_1.2)) fun t18_14 =>
 bnd (gdv t15_12 true (.tuple []) (ibin .leq t18_14 (.int .i64 32))) fun t19_15 =>
 bnd (apick t15_12 t19_15 (.bool false)) fun t20_16 =>
 some (t20_16,r1_1.2)
theorem F_extsort_valid_eq (p0:AV) (H:Hp):C_extsort_valid [p0] H=F_extsort_valid p0 H:=(callw_cxm (C:=cfg) (fn:=Tryz.f69) (c:=bodyOf Tryz.f69) (n:=21) [] Tryz.func69 (by kernel_rfl) (by kernel_rfl) [p0] (by kernel_rfl) H).trans (by kernel_rfl)

end Go.Am
