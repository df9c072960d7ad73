/-
  The functions of the translation over the abstract machine, a further part: written by program (wip/gen.py).
-/
import Derived.Test.YtnaneekpogohaaaGreatDoorXeGx
namespace Go.Am
open Go.Proofs
set_option maxRecDepth 100000
set_option linter.unusedVariables false
set_option linter.unusedSimpArgs false

noncomputable def R24_Cost_J4 (x4 x5:AV) (H0 H:Hp):Res:=CXL cfg (callw cfg) (LPL cfg (cfg.keep 36) 72) (cfg.keep 36) 72 seqL blockL (sub (bodyOf Tryz.f36) [1,1,1,1,1,1]) (retL cfg 72 36 Tryz.f36 H0) [(4,x4),(5,x5)] H
noncomputable def R24_Cost_K1 (H0:Hp):KL:=seqL (fun k al H=>CXL cfg (callw cfg) (LPL cfg (cfg.keep 36) 72) (cfg.keep 36) 72 seqL blockL (sub (bodyOf Tryz.f36) [1,1,1,1,1,1]) k (trimL (cfg.keep 36) (sub (bodyOf Tryz.f36) [1,1,1,1,1,1]) al) H) (retL cfg 72 36 Tryz.f36 H0)
theorem R24_Cost_K1_tame (H0:Hp):Tame 72 (R24_Cost_K1 H0):=tame_seq (C:=cfg) (kp:=cfg.keep 36) (sub (bodyOf Tryz.f36) [1,1,1,1,1,1]) (tame_ret 36 Tryz.f36 H0)
noncomputable def R24_Cost_J6 (x3 x4 x5 x10:AV) (H0 H:Hp):Res:=CXL cfg (callw cfg) (LPL cfg (cfg.keep 36) 72) (cfg.keep 36) 72 seqL blockL (sub (bodyOf Tryz.f36) [1,1,1,1,1,0,1,0,0,1,1]) (seqL (fun k al H=>LPL cfg (cfg.keep 36) 72 (sub (bodyOf Tryz.f36) [1,1,1,1,1,0,1,0,0]) k (trimL (cfg.keep 36) (sub (bodyOf Tryz.f36) [1,1,1,1,1,0,1,0,0]) al) H) (blockL 4 (R24_Cost_K1 H0))) [(3,x3),(4,x4),(5,x5),(10,x10)] H
noncomputable def R24_Cost_J5 (x3 x4 x5 x10:AV) (H0 H:Hp):Res:=CXL cfg (callw cfg) (LPL cfg (cfg.keep 36) 72) (cfg.keep 36) 72 seqL blockL (sub (bodyOf Tryz.f36) [1,1,1,1,1,0,1,0,0,1]) (seqL (fun k al H=>LPL cfg (cfg.keep 36) 72 (sub (bodyOf Tryz.f36) [1,1,1,1,1,0,1,0,0]) k (trimL (cfg.keep 36) (sub (bodyOf Tryz.f36) [1,1,1,1,1,0,1,0,0]) al) H) (blockL 4 (R24_Cost_K1 H0))) [(3,x3),(4,x4),(5,x5),(10,x10)] H
noncomputable def R24_Cost_L1 (x3 x4 x5 x10:AV) (H0 H:Hp):Res:=LPL cfg (cfg.keep 36) 72 (sub (bodyOf Tryz.f36) [1,1,1,1,1,0,1,0,0]) (blockL 4 (R24_Cost_K1 H0)) [(3,x3),(4,x4),(5,x5),(10,x10)] H
noncomputable def R24_Cost_J3 (x3 x4 x5:AV) (H0 H:Hp):Res:=CXL cfg (callw cfg) (LPL cfg (cfg.keep 36) 72) (cfg.keep 36) 72 seqL blockL (sub (bodyOf Tryz.f36) [1,1,1,1,1]) (retL cfg 72 36 Tryz.f36 H0) [(3,x3),(4,x4),(5,x5)] H
noncomputable def R24_Cost_K2 (H0:Hp):KL:=seqL (fun k al H=>CXL cfg (callw cfg) (LPL cfg (cfg.keep 36) 72) (cfg.keep 36) 72 seqL blockL (sub (bodyOf Tryz.f36) [1,1,1,1,1]) k (trimL (cfg.keep 36) (sub (bodyOf Tryz.f36) [1,1,1,1,1]) al) H) (retL cfg 72 36 Tryz.f36 H0)
theorem R24_Cost_K2_tame (H0:Hp):Tame 72 (R24_Cost_K2 H0):=tame_seq (C:=cfg) (kp:=cfg.keep 36) (sub (bodyOf Tryz.f36) [1,1,1,1,1]) (tame_ret 36 Tryz.f36 H0)
noncomputable def R24_Cost_J8 (x0 x3 x4 x5 x7 x8:AV) (H0 H:Hp):Res:=CXL cfg (callw cfg) (LPL cfg (cfg.keep 36) 72) (cfg.keep 36) 72 seqL blockL (sub (bodyOf Tryz.f36) [1,1,1,1,0,1,0,0,1,1]) (seqL (fun k al H=>LPL cfg (cfg.keep 36) 72 (sub (bodyOf Tryz.f36) [1,1,1,1,0,1,0,0]) k (trimL (cfg.keep 36) (sub (bodyOf Tryz.f36) [1,1,1,1,0,1,0,0]) al) H) (blockL 2 (R24_Cost_K2 H0))) [(0,x0),(3,x3),(4,x4),(5,x5),(7,x7),(8,x8)] H
noncomputable def R24_Cost_K3 (H0:Hp):KL:=seqL (fun k al H=>CXL cfg (callw cfg) (LPL cfg (cfg.keep 36) 72) (cfg.keep 36) 72 seqL blockL (sub (bodyOf Tryz.f36) [1,1,1,1,0,1,0,0,1,1]) k (trimL (cfg.keep 36) (sub (bodyOf Tryz.f36) [1,1,1,1,0,1,0,0,1,1]) al) H) (seqL (fun k al H=>LPL cfg (cfg.keep 36) 72 (sub (bodyOf Tryz.f36) [1,1,1,1,0,1,0,0]) k (trimL (cfg.keep 36) (sub (bodyOf Tryz.f36) [1,1,1,1,0,1,0,0]) al) H) (blockL 2 (R24_Cost_K2 H0)))
noncomputable def R24_Cost_J9 (x0 x3 x4 x5 x7 x8 x9:AV) (H0 H:Hp):Res:=CXL cfg (callw cfg) (LPL cfg (cfg.keep 36) 72) (cfg.keep 36) 72 seqL blockL (sub (bodyOf Tryz.f36) [1,1,1,1,0,1,0,0,1,0,0,1,1]) (blockL 3 (R24_Cost_K3 H0)) [(0,x0),(3,x3),(4,x4),(5,x5),(7,x7),(8,x8),(9,x9)] H
noncomputable def R24_Cost_J7 (x0 x3 x4 x5 x7 x8:AV) (H0 H:Hp):Res:=CXL cfg (callw cfg) (LPL cfg (cfg.keep 36) 72) (cfg.keep 36) 72 seqL blockL (sub (bodyOf Tryz.f36) [1,1,1,1,0,1,0,0,1]) (seqL (fun k al H=>LPL cfg (cfg.keep 36) 72 (sub (bodyOf Tryz.f36) [1,1,1,1,0,1,0,0]) k (trimL (cfg.keep 36) (sub (bodyOf Tryz.f36) [1,1,1,1,0,1,0,0]) al) H) (blockL 2 (R24_Cost_K2 H0))) [(0,x0),(3,x3),(4,x4),(5,x5),(7,x7),(8,x8)] H
noncomputable def R24_Cost_L2 (x0 x3 x4 x5 x7 x8:AV) (H0 H:Hp):Res:=LPL cfg (cfg.keep 36) 72 (sub (bodyOf Tryz.f36) [1,1,1,1,0,1,0,0]) (blockL 2 (R24_Cost_K2 H0)) [(0,x0),(3,x3),(4,x4),(5,x5),(7,x7),(8,x8)] H
noncomputable def R24_Cost_J2 (x0 x3 x4 x5:AV) (H0 H:Hp):Res:=CXL cfg (callw cfg) (LPL cfg (cfg.keep 36) 72) (cfg.keep 36) 72 seqL blockL (sub (bodyOf Tryz.f36) [1,1,1]) (retL cfg 72 36 Tryz.f36 H0) [(0,x0),(3,x3),(4,x4),(5,x5)] H
noncomputable def R24_Cost_K4 (H0:Hp):KL:=seqL (fun k al H=>CXL cfg (callw cfg) (LPL cfg (cfg.keep 36) 72) (cfg.keep 36) 72 seqL blockL (sub (bodyOf Tryz.f36) [1,1,1]) k (trimL (cfg.keep 36) (sub (bodyOf Tryz.f36) [1,1,1]) al) H) (retL cfg 72 36 Tryz.f36 H0)
theorem R24_Cost_K4_tame (H0:Hp):Tame 72 (R24_Cost_K4 H0):=tame_seq (C:=cfg) (kp:=cfg.keep 36) (sub (bodyOf Tryz.f36) [1,1,1]) (tame_ret 36 Tryz.f36 H0)
noncomputable def R24_Cost_J11 (x0 x3 x4 x5 x6:AV) (H0 H:Hp):Res:=CXL cfg (callw cfg) (LPL cfg (cfg.keep 36) 72) (cfg.keep 36) 72 seqL blockL (sub (bodyOf Tryz.f36) [1,1,0,1,0,0,1,1]) (seqL (fun k al H=>LPL cfg (cfg.keep 36) 72 (sub (bodyOf Tryz.f36) [1,1,0,1,0,0]) k (trimL (cfg.keep 36) (sub (bodyOf Tryz.f36) [1,1,0,1,0,0]) al) H) (blockL 0 (R24_Cost_K4 H0))) [(0,x0),(3,x3),(4,x4),(5,x5),(6,x6)] H
noncomputable def R24_Cost_J10 (x0 x3 x4 x5 x6:AV) (H0 H:Hp):Res:=CXL cfg (callw cfg) (LPL cfg (cfg.keep 36) 72) (cfg.keep 36) 72 seqL blockL (sub (bodyOf Tryz.f36) [1,1,0,1,0,0,1]) (seqL (fun k al H=>LPL cfg (cfg.keep 36) 72 (sub (bodyOf Tryz.f36) [1,1,0,1,0,0]) k (trimL (cfg.keep 36) (sub (bodyOf Tryz.f36) [1,1,0,1,0,0]) al) H) (blockL 0 (R24_Cost_K4 H0))) [(0,x0),(3,x3),(4,x4),(5,x5),(6,x6)] H
noncomputable def R24_Cost_L3 (x0 x3 x4 x5 x6:AV) (H0 H:Hp):Res:=LPL cfg (cfg.keep 36) 72 (sub (bodyOf Tryz.f36) [1,1,0,1,0,0]) (blockL 0 (R24_Cost_K4 H0)) [(0,x0),(3,x3),(4,x4),(5,x5),(6,x6)] H
noncomputable def R24_Cost_J1 (x0 x3 x4 x5:AV) (H0 H:Hp):Res:=CXL cfg (callw cfg) (LPL cfg (cfg.keep 36) 72) (cfg.keep 36) 72 seqL blockL (sub (bodyOf Tryz.f36) [1,1]) (retL cfg 72 36 Tryz.f36 H0) [(0,x0),(3,x3),(4,x4),(5,x5)] H
noncomputable def F_R24_Cost (p0 p1:AV) (H:Hp):Res :=
 bnd (abox p1 H) fun r3_1 =>
 bnd (aload true 2 r3_1.1 r3_1.2) fun t11_38 =>
 bnd (flatC C_R24_Valid [t11_38] r3_1.2) fun r12_39 =>
 bnd (aun .not r12_39.1) fun t13_40 =>
 cnd t13_40
  (some ((.tuple [(.int .i64 0),(.int .i64 0)]),r12_39.2))
  (R24_Cost_J1 p0 r3_1.1 (.int .i64 0) (.int .i64 0) H r12_39.2)
theorem R24_Cost_J4_eq (x4 x5 : AV) (H0 H : Hp) : R24_Cost_J4 x4 x5 H0 H =
    some ((.tuple [x4,x5]),H):=(CXM_eq [3,5,6,8,11,12,16,17,19,20,21] _ _ _ _).trans (by kernel_rfl)
theorem R24_Cost_J6_eq (x3 x4 x5 x10 : AV) (H0 H : Hp) : R24_Cost_J6 x3 x4 x5 x10 H0 H =
    bnd (afield 1 x3) fun t64_2 =>
    bnd (aload false 1 t64_2 H) fun t65_3 =>
    bnd (flatC C_R23_Plan [x10,t65_3] H) fun r66_4 =>
    bnd (alenD (.slice 38) r66_4.1) fun t67_5 =>
    R24_Cost_L1 x3 x4 x5 t67_5 H0 r66_4.2:=(CXM_eq [3,5,6,8,11,12,16,17,19,20,21] _ _ _ _).trans (by kernel_rfl)
theorem R24_Cost_J5_eq (x3 x4 x5 x10 : AV) (H0 H : Hp) : R24_Cost_J5 x3 x4 x5 x10 H0 H =
    bnd (ibin .add x5 (.int .i64 1)) fun t69_6 =>
    R24_Cost_J6 x3 x4 t69_6 x10 H0 H:=(CXM_eq [3,5,6,8,11,12,16,17,19,20,21] _ _ _ _).trans (by kernel_rfl)
theorem R24_Cost_L1_eq (x3 x4 x5 x10 : AV) (H0 H : Hp) : R24_Cost_L1 x3 x4 x5 x10 H0 H =
    bnd (afield 1 x3) fun t60_7 =>
    bnd (aload false 1 t60_7 H) fun t61_8 =>
    bnd (ibin .gtr x10 t61_8) fun t62_9 =>
    cnd t62_9
     (R24_Cost_J5 x3 x4 x5 x10 H0 H)
     (R24_Cost_J4 x4 x5 H0 H):=(LPL_eqm (C:=cfg) [3,5,6,8,11,12,16,17,19,20,21] (tame_block 4 (R24_Cost_K1_tame H0)) _ _).trans (by kernel_rfl)
theorem R24_Cost_J3_eq (x3 x4 x5 : AV) (H0 H : Hp) : R24_Cost_J3 x3 x4 x5 H0 H =
    R24_Cost_L1 x3 x4 x5 x4 H0 H:=(CXM_eq [3,5,6,8,11,12,16,17,19,20,21] _ _ _ _).trans (by kernel_rfl)
theorem R24_Cost_J8_eq (x0 x3 x4 x5 x7 x8 : AV) (H0 H : Hp) : R24_Cost_J8 x0 x3 x4 x5 x7 x8 H0 H =
    bnd (ibin .add x8 (.int .i64 1)) fun t37_10 =>
    R24_Cost_L2 x0 x3 x4 x5 x7 t37_10 H0 H:=(CXM_eq [3,5,6,8,11,12,16,17,19,20,21] _ _ _ _).trans (by kernel_rfl)
theorem R24_Cost_J9_eq (x0 x3 x4 x5 x7 x8 x9 : AV) (H0 H : Hp) : R24_Cost_J9 x0 x3 x4 x5 x7 x8 x9 H0 H =
    bnd (ibin .add x7 x9) fun t57_14 =>
    R24_Cost_J8 x0 x3 x4 x5 t57_14 x8 H0 H:=(CXM_eq [3,5,6,8,11,12,16,17,19,20,21] _ _ _ _).trans (by kernel_rfl)
theorem R24_Cost_J7_eq (x0 x3 x4 x5 x7 x8 : AV) (H0 H : Hp) : R24_Cost_J7 x0 x3 x4 x5 x7 x8 H0 H =
    bnd (aindexS 1 x0 x8) fun t40_11 =>
    bnd (aload false 1 t40_11 H) fun t41_12 =>
    bnd (ibin .add t41_12 (.int .i64 16)) fun t42_13 =>
    bnd (ibin .eql x8 (.int .i64 0)) fun t44_15 =>
    bnd (gdv t44_15 false (.tuple []) (some x7)) fun t46_16 =>
    bnd (gdv t44_15 false (.tuple []) (some t42_13)) fun t47_17 =>
    bnd (gdv t44_15 false (.tuple []) (ibin .add t46_16 t47_17)) fun t48_18 =>
    bnd (gdv t44_15 false (.tuple []) (afield 0 x3)) fun t49_19 =>
    bnd (gdv t44_15 false (.tuple []) (aload false 1 t49_19 H)) fun t50_20 =>
    bnd (gdv t44_15 false (.tuple []) (ibin .gtr t48_18 t50_20)) fun t51_21 =>
    bnd (apick t44_15 (.bool true) t51_21) fun t52_22 =>
    cnd t52_22
     (bnd (ibin .add x4 (.int .i64 1)) fun t54_23 =>
     R24_Cost_J9 x0 x3 t54_23 x5 (.int .i64 0) x8 t42_13 H0 H)
     (R24_Cost_J9 x0 x3 x4 x5 x7 x8 t42_13 H0 H):=(CXM_eq [3,5,6,8,11,12,16,17,19,20,21] _ _ _ _).trans (by kernel_rfl)
theorem R24_Cost_L2_eq (x0 x3 x4 x5 x7 x8 : AV) (H0 H : Hp) : R24_Cost_L2 x0 x3 x4 x5 x7 x8 H0 H =
    bnd (alenD (.slice 3) x0) fun t34_24 =>
    bnd (ibin .lss x8 t34_24) fun t35_25 =>
    cnd t35_25
     (R24_Cost_J7 x0 x3 x4 x5 x7 x8 H0 H)
     (R24_Cost_J3 x3 x4 x5 H0 H):=(LPL_eqm (C:=cfg) [3,5,6,8,11,12,16,17,19,20,21] (tame_block 2 (R24_Cost_K2_tame H0)) _ _).trans (by kernel_rfl)
theorem R24_Cost_J2_eq (x0 x3 x4 x5 : AV) (H0 H : Hp) : R24_Cost_J2 x0 x3 x4 x5 H0 H =
    R24_Cost_L2 x0 x3 x4 x5 (.int .i64 0) (.int .i64 0) H0 H:=(CXM_eq [3,5,6,8,11,12,16,17,19,20,21] _ _ _ _).trans (by kernel_rfl)
theorem R24_Cost_J11_eq (x0 x3 x4 x5 x6 : AV) (H0 H : Hp) : R24_Cost_J11 x0 x3 x4 x5 x6 H0 H =
    bnd (ibin .add x6 (.int .i64 1)) fun t19_26 =>
    R24_Cost_L3 x0 x3 x4 x5 t19_26 H0 H:=(CXM_eq [3,5,6,8,11,12,16,17,19,20,21] _ _ _ _).trans (by kernel_rfl)
theorem R24_Cost_J10_eq (x0 x3 x4 x5 x6 : AV) (H0 H : Hp) : R24_Cost_J10 x0 x3 x4 x5 x6 H0 H =
    bnd (aindexS 1 x0 x6) fun t22_27 =>
    bnd (aload false 1 t22_27 H) fun t23_28 =>
    bnd (ibin .lss t23_28 (.int .i64 0)) fun t24_29 =>
    bnd (gdv t24_29 false (.tuple []) (some x0)) fun t26_30 =>
    bnd (gdv t24_29 false (.tuple []) (some x6)) fun t27_31 =>
    bnd (gdv t24_29 false (.tuple []) (aindexS 1 t26_30 t27_31)) fun t28_32 =>
    bnd (gdv t24_29 false (.tuple []) (aload false 1 t28_32 H)) fun t29_33 =>
    bnd (gdv t24_29 false (.tuple []) (ibin .gtr t29_33 (.int .i64 4096))) fun t30_34 =>
    bnd (apick t24_29 (.bool true) t30_34) fun t31_35 =>
    cnd t31_35
     (some ((.tuple [(.int .i64 0),(.int .i64 0)]),H))
     (R24_Cost_J11 x0 x3 x4 x5 x6 H0 H):=(CXM_eq [3,5,6,8,11,12,16,17,19,20,21] _ _ _ _).trans (by kernel_rfl)
theorem R24_Cost_L3_eq (x0 x3 x4 x5 x6 : AV) (H0 H : Hp) : R24_Cost_L3 x0 x3 x4 x5 x6 H0 H =
    bnd (alenD (.slice 3) x0) fun t16_36 =>
    bnd (ibin .lss x6 t16_36) fun t17_37 =>
    cnd t17_37
     (R24_Cost_J10 x0 x3 x4 x5 x6 H0 H)
     (R24_Cost_J2 x0 x3 x4 x5 H0 H):=(LPL_eqm (C:=cfg) [3,5,6,8,11,12,16,17,19,20,21] (tame_block 0 (R24_Cost_K4_tame H0)) _ _).trans (by kernel_rfl)
theorem R24_Cost_J1_eq (x0 x3 x4 x5 : AV) (H0 H : Hp) : R24_Cost_J1 x0 x3 x4 x5 H0 H =
    R24_Cost_L3 x0 x3 x4 x5 (.int .i64 0) H0 H:=(CXM_eq [3,5,6,8,11,12,16,17,19,20,21] _ _ _ _).trans (by kernel_rfl)
theorem F_R24_Cost_eq (p0 p1:AV) (H:Hp):C_R24_Cost [p0,p1] H=F_R24_Cost p0 p1 H:=(callw_cxm (C:=cfg) (fn:=Tryz.f36) (c:=bodyOf Tryz.f36) (n:=72) [3,5,6,8,11,12,16,17,19,20,21] Tryz.func36 (by kernel_rfl) (by kernel_rfl) [p0,p1] (by kernel_rfl) H).trans (by kernel_rfl)

noncomputable def F_R24_Valid (p0:AV) (H:Hp):Res :=
 bnd (abox p0 H) fun r1_1 =>
 bnd (afield 0 r1_1.1) fun t3_2 =>
 bnd (aload false 1 t3_2 r1_1.2) fun t4_3 =>
 bnd (ibin .geq t4_3 (.int .i64 64)) fun t5_4 =>
 bnd (gdv t5_4 true (.tuple []) (afield 0 r1_1.1)) fun t7_5 =>
 bnd (gdv t5_4 true (.tuple []) (aload false 1 t7_5 r1_1.2)) fun t8_6 =>
 bnd (gdv t5_4 true (.tuple []) (ibin .leq t8_6 (.int .i64 65536))) fun t9_7 =>
 bnd (apick t5_4 t9_7 (.bool false)) fun t10_8 =>
 bnd (gdv t10_8 true (.tuple []) (afield 1 r1_1.1)) fun t12_9 =>
 bnd (gdv t10_8 true (.tuple []) (aload false 1 t12_9 r1_1.2)) fun t13_10 =>
 bnd (gdv t10_8 true (.tuple []) (ibin .geq t13_10 (.int .i64 2))) fun t14_11 =>
 bnd (apick t10_8 t14_11 (.bool false)) fun t15_12 =>
 bnd (gdv t15_12 true (.tuple []) (afield 1 r1_1.1)) fun t17_13 =>
 bnd (gdv t15_12 true (.tuple []) (aload false 1 t17_13 r1_1.2)) fun t18_14 =>
 bnd (gdv t15_12 true (.tuple []) (ibin .leq t18_14 (.int .i64 32))) fun t19_15 =>
 bnd (apick t15_12 t19_15 (.bool false)) fun t20_16 =>
 some (t20_16,r1_1.2)
theorem F_R24_Valid_eq (p0:AV) (H:Hp):C_R24_Valid [p0] H=F_R24_Valid p0 H:=(callw_cxm (C:=cfg) (fn:=Tryz.f38) (c:=bodyOf Tryz.f38) (n:=21) [] Tryz.func38 (by kernel_rfl) (by kernel_rfl) [p0] (by kernel_rfl) H).trans (by kernel_rfl)

end Go.Am
