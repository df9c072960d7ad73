/-
  The functions of the translation over the abstract machine, a further part: written by program (wip/gen.py).
-/
import Derived.Test.YtnaneekpogohaaaGreatDoorXeGx
namespace Go.Am
open Go.Proofs
set_option maxRecDepth 100000
set_option linter.unusedVariables false
set_option linter.unusedSimpArgs false

noncomputable def L24_ExtsortCosts_J1 (x0 x3:AV) (H0 H:Hp):Res:=CXL cfg (callw cfg) (LPL cfg (cfg.keep 9) 36) (cfg.keep 9) 36 seqL blockL (sub (bodyOf Tryz.f9) [1,1]) (retL cfg 36 9 Tryz.f9 H0) [(0,x0),(3,x3)] H
noncomputable def F_L24_ExtsortCosts (p0 p1:AV) (H:Hp):Res :=
 bnd (abox p1 H) fun r3_1 =>
 bnd (alenD (.slice 3) p0) fun t10_17 =>
 bnd (ibin .gtr t10_17 (.int .i64 400)) fun t11_18 =>
 cnd t11_18
  (bnd (flatC C_L24_awake [] r3_1.2) fun r12_19 =>
  some (r12_19.1,r12_19.2))
  (L24_ExtsortCosts_J1 p0 r3_1.1 H r3_1.2)
theorem L24_ExtsortCosts_J1_eq (x0 x3 : AV) (H0 H : Hp) : L24_ExtsortCosts_J1 x0 x3 H0 H =
    bnd (aload true 2 x3 H) fun t15_2 =>
    bnd (flatC C_extsort_Cost [x0,t15_2] H) fun r16_3 =>
    bnd (aext r16_3.1 0) fun t17_4 =>
    bnd (aext r16_3.1 1) fun t18_5 =>
    bnd (aload true 2 x3 r16_3.2) fun t21_6 =>
    bnd (flatC C_R24_Cost [x0,t21_6] r16_3.2) fun r22_7 =>
    bnd (aext r22_7.1 0) fun t23_8 =>
    bnd (aext r22_7.1 1) fun t24_9 =>
    bnd (ibin .eql t17_4 t23_8) fun t27_10 =>
    bnd (gdv t27_10 true (.tuple []) (some t18_5)) fun t29_11 =>
    bnd (gdv t27_10 true (.tuple []) (some t24_9)) fun t30_12 =>
    bnd (gdv t27_10 true (.tuple []) (ibin .eql t29_11 t30_12)) fun t31_13 =>
    bnd (apick t27_10 t31_13 (.bool false)) fun t32_14 =>
    bnd (gdv t32_14 true ((.tuple []),r22_7.2) (flatC C_L24_awake [] r22_7.2)) fun r34_15 =>
    bnd (apick t32_14 r34_15.1 (.bool false)) fun t35_16 =>
    some (t35_16,r34_15.2):=(CXM_eq [3] _ _ _ _).trans (by kernel_rfl)
theorem F_L24_ExtsortCosts_eq (p0 p1:AV) (H:Hp):C_L24_ExtsortCosts [p0,p1] H=F_L24_ExtsortCosts p0 p1 H:=(callw_cxm (C:=cfg) (fn:=Tryz.f9) (c:=bodyOf Tryz.f9) (n:=36) [3] Tryz.func9 (by kernel_rfl) (by kernel_rfl) [p0,p1] (by kernel_rfl) H).trans (by kernel_rfl)

end Go.Am
