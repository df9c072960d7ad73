/-
  Functions of the translation that are worked out at given arguments: written by program (wip/gen.py).
-/
import Derived.Test.YtijddagljnlfmaaGreatDoorTkGF1x
import Derived.Test.YtijddagljnlfmaaGreatDoorDmWx
namespace Go.Am
open Go.Proofs
set_option maxRecDepth 100000
set_option linter.unusedVariables false

/-! sortkey_key -/
noncomputable def c77 (p0 : AV) (H : Hp) : Res := callw cfg 77 [p0] H
noncomputable def j77_4 (H0 : Hp) (x2 x4 x5 : AV) (H : Hp) : Res := CXf 77 107 (sub (bodyOf Tryz.f77) [1, 1, 1, 1, 1, 1, 1, 1]) (retL cfg 107 77 Tryz.f77 H0) [(2, x2), (4, x4), (5, x5)] H
noncomputable def j77_3 (H0 : Hp) (x2 x4 x5 x7 : AV) (H : Hp) : Res := CXf 77 107 (sub (bodyOf Tryz.f77) [1, 1, 1, 1, 1, 1, 1]) (retL cfg 107 77 Tryz.f77 H0) [(2, x2), (4, x4), (5, x5), (7, x7)] H
noncomputable def j77_2 (H0 : Hp) (x2 x4 x5 x7 : AV) (H : Hp) : Res := CXf 77 107 (sub (bodyOf Tryz.f77) [1, 1, 1, 1, 1, 1]) (retL cfg 107 77 Tryz.f77 H0) [(2, x2), (4, x4), (5, x5), (7, x7)] H
noncomputable def j77_1 (H0 : Hp) (x0 x2 x4 x5 x6 x7 : AV) (H : Hp) : Res := CXf 77 107 (sub (bodyOf Tryz.f77) [1, 1, 1, 1, 1]) (retL cfg 107 77 Tryz.f77 H0) [(0, x0), (2, x2), (4, x4), (5, x5), (6, x6), (7, x7)] H
noncomputable def b77_4 (x2 x4 x5 : AV) (H : Hp) : Res :=
  bnd (anil x4) fun t82_12 =>
  bnd (afield 0 t82_12) fun t83_13 =>
  bnd (aload false 1 t83_13 H) fun t84_14 =>
  bnd (anil x4) fun t86_15 =>
  bnd (afield 1 t86_15) fun t87_16 =>
  bnd (aload false 1 t87_16 H) fun t88_17 =>
  bnd (anil x5) fun t90_18 =>
  bnd (afield 0 t90_18) fun t91_19 =>
  bnd (aload false 1 t91_19 H) fun t92_20 =>
  bnd (anil x5) fun t94_21 =>
  bnd (afield 1 t94_21) fun t95_22 =>
  bnd (aload false 1 t95_22 H) fun t96_23 =>
  bnd (anil x4) fun t98_24 =>
  bnd (afield 2 t98_24) fun t99_25 =>
  bnd (aload false 1 t99_25 H) fun t100_26 =>
  bnd (anil x5) fun t102_27 =>
  bnd (afield 2 t102_27) fun t103_28 =>
  bnd (aload false 1 t103_28 H) fun t104_29 =>
  bnd (ibin .or t100_26 t104_29) fun t105_30 =>
  bnd ((afill [(0, 1, t84_14), (1, 1, t88_17), (2, 1, t92_20), (3, 1, t96_23), (4, 1, t105_30)] [(.int .i64 0), (.int .i64 0), (.int .i64 0), (.int .i64 0), (.int .i64 0)]).map .agg) fun t106_31 =>
  bnd (astoreU 5 x2 t106_31 H) fun r_32 =>
  bnd (aload true 5 x2 r_32.2) fun v2_33 =>
  some ((.tuple [v2_33, (.int .i64 0)]), r_32.2)
theorem e77_4 (H0 : Hp) (x2 x4 x5 : AV) (H : Hp) : j77_4 H0 x2 x4 x5 H = b77_4 x2 x4 x5 H := (CXM_eq [6, 8, 10, 12] _ _ _ _).trans (by kernel_rfl)
theorem m77_4 : L3 (b77_4) (b77_4) := fun _ _ _ _ =>
  bR fun _ => bR fun _ => bR fun _ => bR fun _ => bR fun _ => bR fun _ => bR fun _ => bR fun _ => bR fun _ => bR fun _ => bR fun _ => bR fun _ => bR fun _ => bR fun _ => bR fun _ => bR fun _ => bR fun _ => bR fun _ => bR fun _ => bR fun _ => bR fun _ => bR fun _ => le_refl _
noncomputable def b77_3 (j77_4 : A3) (x2 x4 x5 x7 : AV) (H : Hp) : Res :=
  bnd (anil x4) fun t47_34 =>
  bnd (afield 4 t47_34) fun t48_35 =>
  bnd (aload false 1 t48_35 H) fun t49_36 =>
  bnd (gdv t49_36 false (.tuple []) (some x5)) fun t51_37 =>
  bnd (gdv t49_36 false (.tuple []) (anil t51_37)) fun t52_38 =>
  bnd (gdv t49_36 false (.tuple []) (afield 4 t52_38)) fun t53_39 =>
  bnd (gdv t49_36 false (.tuple []) (aload false 1 t53_39 H)) fun t54_40 =>
  bnd (apick t49_36 (.bool true) t54_40) fun t55_41 =>
  bnd (gdv t55_41 false (.tuple []) (some x4)) fun t57_42 =>
  bnd (gdv t55_41 false (.tuple []) (anil t57_42)) fun t58_43 =>
  bnd (gdv t55_41 false (.tuple []) (afield 0 t58_43)) fun t59_44 =>
  bnd (gdv t55_41 false (.tuple []) (aload false 1 t59_44 H)) fun t60_45 =>
  bnd (gdv t55_41 false (.tuple []) (ibin .lss t60_45 (.int .i64 1))) fun t61_46 =>
  bnd (apick t55_41 (.bool true) t61_46) fun t62_47 =>
  bnd (gdv t62_47 false (.tuple []) (some x4)) fun t64_48 =>
  bnd (gdv t62_47 false (.tuple []) (anil t64_48)) fun t65_49 =>
  bnd (gdv t62_47 false (.tuple []) (afield 1 t65_49)) fun t66_50 =>
  bnd (gdv t62_47 false (.tuple []) (aload false 1 t66_50 H)) fun t67_51 =>
  bnd (gdv t62_47 false (.tuple []) (ibin .lss t67_51 (.int .i64 1))) fun t68_52 =>
  bnd (apick t62_47 (.bool true) t68_52) fun t69_53 =>
  bnd (gdv t69_53 false (.tuple []) (some x7)) fun t71_54 =>
  bnd (gdv t69_53 false (.tuple []) (some t71_54)) fun t72_55 =>
  bnd (gdv t72_55 true (.tuple []) (some x5)) fun t73_56 =>
  bnd (gdv t72_55 true (.tuple []) (anil t73_56)) fun t74_57 =>
  bnd (gdv t72_55 true (.tuple []) (afield 0 t74_57)) fun t75_58 =>
  bnd (gdv t72_55 true (.tuple []) (aload false 1 t75_58 H)) fun t76_59 =>
  bnd (gdv t72_55 true (.tuple []) (ibin .lss t76_59 (.int .i64 1))) fun t77_60 =>
  bnd (gdv t69_53 false (.tuple []) (apick t72_55 t77_60 (.bool false))) fun t78_61 =>
  bnd (apick t69_53 (.bool true) t78_61) fun t79_62 =>
  cnd t79_62
    (bnd (some (.agg [(.int .i64 0), (.int .i64 0), (.int .i64 0), (.int .i64 0), (.int .i64 0)])) fun t80_63 =>
    bnd (astoreU 5 x2 t80_63 H) fun r_64 =>
    bnd (aload true 5 x2 r_64.2) fun v2_65 =>
    some ((.tuple [v2_65, (.int .i64 2)]), r_64.2))
    (j77_4 x2 x4 x5 H)
theorem e77_3 (H0 : Hp) (x2 x4 x5 x7 : AV) (H : Hp) : j77_3 H0 x2 x4 x5 x7 H = b77_3 (j77_4 H0) x2 x4 x5 x7 H := (CXM_eq [6, 8, 10, 12] _ _ _ _).trans (by kernel_rfl)
theorem m77_3 {j77_4 dj77_4 : A3} (hj77_4 : L3 j77_4 dj77_4) : L4 (b77_3 j77_4) (b77_3 dj77_4) := fun _ _ _ _ _ =>
  bR fun _ => bR fun _ => bR fun _ => bR fun _ => bR fun _ => bR fun _ => bR fun _ => bR fun _ => bR fun _ => bR fun _ => bR fun _ => bR fun _ => bR fun _ => bR fun _ => bR fun _ => bR fun _ => bR fun _ => bR fun _ => bR fun _ => bR fun _ => bR fun _ => bR fun _ => bR fun _ => bR fun _ => bR fun _ => bR fun _ => bR fun _ => bR fun _ => bR fun _ => bK (bR fun _ => bR fun _ => bR fun _ => le_refl _) (hj77_4 _ _ _ _)
noncomputable def b77_2 (j77_3 : A4) (x2 x4 x5 x7 : AV) (H : Hp) : Res :=
  bnd (anil x4) fun t39_66 =>
  bnd (afield 3 t39_66) fun t40_67 =>
  bnd (aload false 1 t40_67 H) fun t41_68 =>
  bnd (aun .not t41_68) fun t42_69 =>
  cnd t42_69
    (bnd (anil x4) fun t44_70 =>
    bnd (afield 1 t44_70) fun t45_71 =>
    bnd (astoreU 1 t45_71 (.int .i64 1) H) fun r_72 =>
    j77_3 x2 x4 x5 x7 r_72.2)
    (j77_3 x2 x4 x5 x7 H)
theorem e77_2 (H0 : Hp) (x2 x4 x5 x7 : AV) (H : Hp) : j77_2 H0 x2 x4 x5 x7 H = b77_2 (j77_3 H0) x2 x4 x5 x7 H := (CXM_eq [6, 8, 10, 12] _ _ _ _).trans (by kernel_rfl)
theorem m77_2 {j77_3 dj77_3 : A4} (hj77_3 : L4 j77_3 dj77_3) : L4 (b77_2 j77_3) (b77_2 dj77_3) := fun _ _ _ _ _ =>
  bR fun _ => bR fun _ => bR fun _ => bR fun _ => bK (bR fun _ => bR fun _ => bR fun _ => hj77_3 _ _ _ _ _) (hj77_3 _ _ _ _ _)
noncomputable def b77_1 (j77_2 : A4) (x0 x2 x4 x5 x6 x7 : AV) (H : Hp) : Res :=
  bnd (aun .not x6) fun t32_73 =>
  bnd (gdv t32_73 false (.tuple []) (some x0)) fun t34_74 =>
  bnd (gdv t32_73 false (.tuple []) (sbin .neq t34_74 (.str []))) fun t35_75 =>
  bnd (apick t32_73 (.bool true) t35_75) fun t36_76 =>
  cnd t36_76
    (bnd (some (.agg [(.int .i64 0), (.int .i64 0), (.int .i64 0), (.int .i64 0), (.int .i64 0)])) fun t37_77 =>
    bnd (astoreU 5 x2 t37_77 H) fun r_78 =>
    bnd (aload true 5 x2 r_78.2) fun v2_79 =>
    some ((.tuple [v2_79, (.int .i64 1)]), r_78.2))
    (j77_2 x2 x4 x5 x7 H)
theorem e77_1 (H0 : Hp) (x0 x2 x4 x5 x6 x7 : AV) (H : Hp) : j77_1 H0 x0 x2 x4 x5 x6 x7 H = b77_1 (j77_2 H0) x0 x2 x4 x5 x6 x7 H := (CXM_eq [6, 8, 10, 12] _ _ _ _).trans (by kernel_rfl)
theorem m77_1 {j77_2 dj77_2 : A4} (hj77_2 : L4 j77_2 dj77_2) : L6 (b77_1 j77_2) (b77_1 dj77_2) := fun _ _ _ _ _ _ _ =>
  bR fun _ => bR fun _ => bR fun _ => bR fun _ => bK (bR fun _ => bR fun _ => bR fun _ => le_refl _) (hj77_2 _ _ _ _ _)
noncomputable def rj77_4 : A3 := b77_4
theorem sj77_4 (H0 : Hp) : L3 (rj77_4) (j77_4 H0) := fun _ _ _ _ => le_eq (m77_4 _ _ _ _) (e77_4 H0 _ _ _ _)
noncomputable def rj77_3 : A4 := b77_3 (rj77_4)
theorem sj77_3 (H0 : Hp) : L4 (rj77_3) (j77_3 H0) := fun _ _ _ _ _ => le_eq (m77_3 (sj77_4 H0) _ _ _ _ _) (e77_3 H0 _ _ _ _ _)
noncomputable def rj77_2 : A4 := b77_2 (rj77_3)
theorem sj77_2 (H0 : Hp) : L4 (rj77_2) (j77_2 H0) := fun _ _ _ _ _ => le_eq (m77_2 (sj77_3 H0) _ _ _ _ _) (e77_2 H0 _ _ _ _ _)
noncomputable def rj77_1 : A6 := b77_1 (rj77_2)
theorem sj77_1 (H0 : Hp) : L6 (rj77_1) (j77_1 H0) := fun _ _ _ _ _ _ _ => le_eq (m77_1 (sj77_2 H0) _ _ _ _ _ _ _) (e77_1 H0 _ _ _ _ _ _ _)
noncomputable def bc77 (c100 : A2) (c99 : A2) (j77_1 : A6) (p0 : AV) (H : Hp) : Res :=
  bnd (some ((.ptr H.length 0), H ++ [.cells [(.int .i64 0), (.int .i64 0), (.int .i64 0), (.int .i64 0), (.int .i64 0)]])) fun r2_1 =>
  bnd (some (.agg [(.int .i64 0), (.int .i64 0), (.int .i64 0), (.bool false), (.bool false)])) fun t8_2 =>
  bnd (abox t8_2 r2_1.2) fun r9_3 =>
  bnd (some (.agg [(.int .i64 0), (.int .i64 0), (.int .i64 0), (.bool false), (.bool false)])) fun t10_4 =>
  bnd (abox t10_4 r9_3.2) fun r11_5 =>
  bnd (c99 r9_3.1 p0 r11_5.2) fun r15_6 =>
  bnd (aext r15_6.1 0) fun t16_7 =>
  bnd (aext r15_6.1 1) fun t17_8 =>
  bnd (gdv t17_8 true (.tuple []) (some t16_7)) fun t20_9 =>
  bnd (gdv t17_8 true ((.tuple []), r15_6.2) (c100 t20_9 (.str [44]) r15_6.2)) fun r21_10 =>
  bnd (apick t17_8 r21_10.1 (.bool false)) fun t22_11 =>
  cnd t22_11
    (bnd (asliceS t16_7 (some (.int .i64 1)) none none) fun t27_80 =>
    bnd (c99 r11_5.1 t27_80 r21_10.2) fun r28_81 =>
    bnd (aext r28_81.1 0) fun t29_82 =>
    bnd (aext r28_81.1 1) fun t30_83 =>
    j77_1 t29_82 r2_1.1 r9_3.1 r11_5.1 t30_83 t22_11 r28_81.2)
    (j77_1 t16_7 r2_1.1 r9_3.1 r11_5.1 t17_8 t22_11 r21_10.2)
theorem ec77 (p0 : AV) (H : Hp) : c77 p0 H = bc77 c100 c99 (j77_1 H) p0 H := (callw_cxm (C := cfg) (fn := Tryz.f77) (c := bodyOf Tryz.f77) (n := 107) [6, 8, 10, 12] Tryz.func77 (by kernel_rfl) (by kernel_rfl) [p0] (by kernel_rfl) H).trans (by kernel_rfl)
theorem mc77 {c100 dc100 : A2} (hc100 : L2 c100 dc100) {c99 dc99 : A2} (hc99 : L2 c99 dc99) {j77_1 dj77_1 : A6} (hj77_1 : L6 j77_1 dj77_1) : L1 (bc77 c100 c99 j77_1) (bc77 dc100 dc99 dj77_1) := fun _ _ =>
  bR fun _ => bR fun _ => bR fun _ => bR fun _ => bR fun _ => bC (hc99 _ _ _) fun _ => bR fun _ => bR fun _ => bR fun _ => bG (hc100 _ _ _) fun _ => bR fun _ => bK (bR fun _ => bC (hc99 _ _ _) fun _ => bR fun _ => bR fun _ => hj77_1 _ _ _ _ _ _ _) (hj77_1 _ _ _ _ _ _ _)
noncomputable def rc77 : A1 := fun p0 H => bc77 rc100 rc99 (rj77_1) p0 H
theorem sc77 : L1 rc77 c77 := fun _ H => le_eq (mc77 sc100 sc99 (sj77_1 H) _ _) (ec77 _ _)
noncomputable def q77 : A1 := fun p0 H => flatC (callw cfg 77) [p0] H
noncomputable def rq77 : A1 := fun p0 H => flatC (ofL1 (rc77)) [p0] H
theorem sq77 : L1 rq77 q77 := fun _ _ => flat_le (ofL1_le (sc77)) _ _

/-! sortkey_reader_key -/
noncomputable def c48 (p0 p1 : AV) (H : Hp) : Res := callw cfg 48 [p0, p1] H
noncomputable def j48_2 (H0 : Hp) (x6 : AV) (H : Hp) : Res := CXf 48 34 (sub (bodyOf Tryz.f48) [1, 1, 1, 1]) (retL cfg 34 48 Tryz.f48 H0) [(6, x6)] H
noncomputable def j48_1 (H0 : Hp) (x0 x1 : AV) (H : Hp) : Res := CXf 48 34 (sub (bodyOf Tryz.f48) [1, 1]) (retL cfg 34 48 Tryz.f48 H0) [(0, x0), (1, x1)] H
noncomputable def b48_2 (x6 : AV) (H : Hp) : Res :=
  some (x6, H)
theorem e48_2 (H0 : Hp) (x6 : AV) (H : Hp) : j48_2 H0 x6 H = b48_2 x6 H := (CXM_eq [3, 6] _ _ _ _).trans (by kernel_rfl)
theorem m48_2 : L1 (b48_2) (b48_2) := fun _ _ =>
  le_refl _
noncomputable def b48_1 (q77 : A1) (j48_2 : A1) (x0 x1 : AV) (H : Hp) : Res :=
  bnd (q77 x1 H) fun r16_1 =>
  bnd (aext r16_1.1 0) fun t17_2 =>
  bnd (aext r16_1.1 1) fun t18_3 =>
  bnd (some ((.ptr r16_1.2.length 0), r16_1.2 ++ [.cells [(.int .i64 0), (.int .i64 0), (.int .i64 0), (.int .i64 0), (.int .i64 0)]])) fun r5_4 =>
  bnd (astoreU 5 r5_4.1 t17_2 r5_4.2) fun r_5 =>
  bnd (ibin .eql t18_3 (.int .i64 0)) fun t20_6 =>
  cnd t20_6
    (bnd (anil x0) fun t23_7 =>
    bnd (afield 0 t23_7) fun t24_8 =>
    bnd (afield 0 t24_8) fun t25_9 =>
    bnd (aload false 1 t25_9 r_5.2) fun t26_10 =>
    bnd (aload true 5 r5_4.1 r_5.2) fun t27_11 =>
    bnd ((setElems 5 [(0, t27_11)] [(.agg [(.int .i64 0), (.int .i64 0), (.int .i64 0), (.int .i64 0), (.int .i64 0)])]).map (.vs 5 .clip)) fun t28_12 =>
    bnd (aappE 5 40 t26_10 t28_12 r_5.2) fun r29_13 =>
    bnd (anil x0) fun t30_14 =>
    bnd (afield 0 t30_14) fun t31_15 =>
    bnd (afield 0 t31_15) fun t32_16 =>
    bnd (astoreU 1 t32_16 r29_13.1 r29_13.2) fun r_17 =>
    j48_2 t18_3 r_17.2)
    (j48_2 t18_3 r_5.2)
theorem e48_1 (H0 : Hp) (x0 x1 : AV) (H : Hp) : j48_1 H0 x0 x1 H = b48_1 q77 (j48_2 H0) x0 x1 H := (CXM_eq [3, 6] _ _ _ _).trans (by kernel_rfl)
theorem m48_1 {q77 dq77 : A1} (hq77 : L1 q77 dq77) {j48_2 dj48_2 : A1} (hj48_2 : L1 j48_2 dj48_2) : L2 (b48_1 q77 j48_2) (b48_1 dq77 dj48_2) := fun _ _ _ =>
  bC (hq77 _ _) fun _ => bR fun _ => bR fun _ => bR fun _ => bR fun _ => bR fun _ => bK (bR fun _ => bR fun _ => bR fun _ => bR fun _ => bR fun _ => bR fun _ => bR fun _ => bR fun _ => bR fun _ => bR fun _ => bR fun _ => hj48_2 _ _) (hj48_2 _ _)
noncomputable def rj48_2 : A1 := b48_2
theorem sj48_2 (H0 : Hp) : L1 (rj48_2) (j48_2 H0) := fun _ _ => le_eq (m48_2 _ _) (e48_2 H0 _ _)
noncomputable def rj48_1 : A2 := b48_1 rq77 (rj48_2)
theorem sj48_1 (H0 : Hp) : L2 (rj48_1) (j48_1 H0) := fun _ _ _ => le_eq (m48_1 sq77 (sj48_2 H0) _ _ _) (e48_1 H0 _ _ _)
noncomputable def bc48 (j48_1 : A2) (p0 p1 : AV) (H : Hp) : Res :=
  bnd (anil p0) fun t8_18 =>
  bnd (afield 0 t8_18) fun t9_19 =>
  bnd (afield 0 t9_19) fun t10_20 =>
  bnd (aload false 1 t10_20 H) fun t11_21 =>
  bnd (alenD (.slice 34) t11_21) fun t12_22 =>
  bnd (ibin .eql t12_22 (.int .i64 8)) fun t13_23 =>
  cnd t13_23
    (some ((.int .i64 3), H))
    (j48_1 p0 p1 H)
theorem ec48 (p0 p1 : AV) (H : Hp) : c48 p0 p1 H = bc48 (j48_1 H) p0 p1 H := (callw_cxm (C := cfg) (fn := Tryz.f48) (c := bodyOf Tryz.f48) (n := 34) [3, 6] Tryz.func48 (by kernel_rfl) (by kernel_rfl) [p0, p1] (by kernel_rfl) H).trans (by kernel_rfl)
theorem mc48 {j48_1 dj48_1 : A2} (hj48_1 : L2 j48_1 dj48_1) : L2 (bc48 j48_1) (bc48 dj48_1) := fun _ _ _ =>
  bR fun _ => bR fun _ => bR fun _ => bR fun _ => bR fun _ => bR fun _ => bK (le_refl _) (hj48_1 _ _ _)
noncomputable def rc48 : A2 := fun p0 p1 H => bc48 (rj48_1) p0 p1 H
theorem sc48 : L2 rc48 c48 := fun _ _ H => le_eq (mc48 (sj48_1 H) _ _ _) (ec48 _ _ _)

/-! sortkey_reader_separator -/
noncomputable def c49 (p0 p1 : AV) (H : Hp) : Res := callw cfg 49 [p0, p1] H
noncomputable def j49_1 (H0 : Hp) (x0 x1 : AV) (H : Hp) : Res := CXf 49 19 (sub (bodyOf Tryz.f49) [1, 1]) (retL cfg 19 49 Tryz.f49 H0) [(0, x0), (1, x1)] H
noncomputable def b49_1 (x0 x1 : AV) (H : Hp) : Res :=
  bnd (aindexStr x1 (.int .i64 0)) fun t14_1 =>
  bnd (cvInt .i64 t14_1) fun t15_2 =>
  bnd (anil x0) fun t16_3 =>
  bnd (afield 0 t16_3) fun t17_4 =>
  bnd (afield 1 t17_4) fun t18_5 =>
  bnd (astoreU 1 t18_5 t15_2 H) fun r_6 =>
  some ((.int .i64 0), r_6.2)
theorem e49_1 (H0 : Hp) (x0 x1 : AV) (H : Hp) : j49_1 H0 x0 x1 H = b49_1 x0 x1 H := (CXM_eq [3] _ _ _ _).trans (by kernel_rfl)
theorem m49_1 : L2 (b49_1) (b49_1) := fun _ _ _ =>
  bR fun _ => bR fun _ => bR fun _ => bR fun _ => bR fun _ => bR fun _ => le_refl _
noncomputable def rj49_1 : A2 := b49_1
theorem sj49_1 (H0 : Hp) : L2 (rj49_1) (j49_1 H0) := fun _ _ _ => le_eq (m49_1 _ _ _) (e49_1 H0 _ _ _)
noncomputable def bc49 (j49_1 : A2) (p0 p1 : AV) (H : Hp) : Res :=
  bnd (alenD .string p1) fun t6_7 =>
  bnd (ibin .neq t6_7 (.int .i64 1)) fun t7_8 =>
  bnd (gdv t7_8 false (.tuple []) (some p1)) fun t9_9 =>
  bnd (gdv t7_8 false (.tuple []) (sbin .eql t9_9 (.str [10]))) fun t10_10 =>
  bnd (apick t7_8 (.bool true) t10_10) fun t11_11 =>
  cnd t11_11
    (some ((.int .i64 18), H))
    (j49_1 p0 p1 H)
theorem ec49 (p0 p1 : AV) (H : Hp) : c49 p0 p1 H = bc49 (j49_1 H) p0 p1 H := (callw_cxm (C := cfg) (fn := Tryz.f49) (c := bodyOf Tryz.f49) (n := 19) [3] Tryz.func49 (by kernel_rfl) (by kernel_rfl) [p0, p1] (by kernel_rfl) H).trans (by kernel_rfl)
theorem mc49 {j49_1 dj49_1 : A2} (hj49_1 : L2 j49_1 dj49_1) : L2 (bc49 j49_1) (bc49 dj49_1) := fun _ _ _ =>
  bR fun _ => bR fun _ => bR fun _ => bR fun _ => bR fun _ => bK (le_refl _) (hj49_1 _ _ _)
noncomputable def rc49 : A2 := fun p0 p1 H => bc49 (rj49_1) p0 p1 H
theorem sc49 : L2 rc49 c49 := fun _ _ H => le_eq (mc49 (sj49_1 H) _ _ _) (ec49 _ _ _)

/-! sortkey_parts_1 -/
noncomputable def c57 (p0 p1 p2 p3 p4 : AV) (H : Hp) : Res := callw cfg 57 [p0, p1, p2, p3, p4] H
noncomputable def bc57 (cV : AV → List AV → Hp → Res) (p0 p1 p2 p3 p4 : AV) (H : Hp) : Res :=
  bnd (aload false 1 p2 H) fun t7_1 =>
  bnd (ibin .and t7_1 p0) fun t9_2 =>
  bnd (ibin .neq t9_2 (.int .i64 0)) fun t10_3 =>
  cnd t10_3
    (bnd (aload false 1 p3 H) fun t12_4 =>
    bnd (cV p1 [t12_4] H) fun r13_5 =>
    bnd (aloadv false 1 p4) fun t15_6 =>
    bnd (cV p1 [t15_6] r13_5.2) fun r16_7 =>
    bnd (astoreU 1 p3 r13_5.1 r16_7.2) fun r_8 =>
    bnd (astoreU 1 p4 r16_7.1 r_8.2) fun r_9 =>
    some ((.tuple []), r_9.2))
    (some ((.tuple []), H))
theorem ec57 (p0 p1 p2 p3 p4 : AV) (H : Hp) : c57 p0 p1 p2 p3 p4 H = bc57 (acall cfg (callw cfg)) p0 p1 p2 p3 p4 H := (callw_cxm (C := cfg) (fn := Tryz.f57) (c := bodyOf Tryz.f57) (n := 17) [] Tryz.func57 (by kernel_rfl) (by kernel_rfl) [p0, p1, p2, p3, p4] (by kernel_rfl) H).trans (by kernel_rfl)
theorem mc57 {cV dcV : AV → List AV → Hp → Res} (hcV : LV cV dcV) : L5 (bc57 cV) (bc57 dcV) := fun _ _ _ _ _ _ =>
  bR fun _ => bR fun _ => bR fun _ => bK (bR fun _ => bC (hcV _ _ _) fun _ => bR fun _ => bC (hcV _ _ _) fun _ => bR fun _ => bR fun _ => le_refl _) (le_refl _)
noncomputable def rc57 (gV : AV → List AV → Hp → Res) : A5 := fun p0 p1 p2 p3 p4 H => bc57 gV p0 p1 p2 p3 p4 H
theorem sc57 {gV : AV → List AV → Hp → Res} (hV : LV gV (acall cfg (callw cfg))) : L5 (rc57 gV) c57 := fun _ _ _ _ _ H => le_eq (mc57 hV _ _ _ _ _ _) (ec57 _ _ _ _ _ _)

/-! strings_trimLeftByte -/
noncomputable def c83 (p0 p1 : AV) (H : Hp) : Res := callw cfg 83 [p0, p1] H
noncomputable def j83_1 (H0 : Hp) (x0 : AV) (H : Hp) : Res := CXf 83 17 (sub (bodyOf Tryz.f83) [1, 1]) (retL cfg 17 83 Tryz.f83 H0) [(0, x0)] H
noncomputable def k83_1 (H0 : Hp) : KL := seqL (fun k al H => CXf 83 17 (sub (bodyOf Tryz.f83) [1, 1]) k (trimL (cfg.keep 83) (sub (bodyOf Tryz.f83) [1, 1]) al) H) (retL cfg 17 83 Tryz.f83 H0)
theorem k83_1_tame (H0 : Hp) : Tame 17 (k83_1 H0) := tame_seq (C := cfg) (kp := cfg.keep 83) (sub (bodyOf Tryz.f83) [1, 1]) (tame_ret 83 Tryz.f83 H0)
noncomputable def j83_2 (H0 : Hp) (x0 x1 : AV) (H : Hp) : Res := CXf 83 17 (sub (bodyOf Tryz.f83) [1, 0, 0, 0, 1]) (seqL (fun k al H => LPf 83 17 (sub (bodyOf Tryz.f83) [1, 0, 0, 0]) k (trimL (cfg.keep 83) (sub (bodyOf Tryz.f83) [1, 0, 0, 0]) al) H) (blockL 0 (k83_1 H0))) [(0, x0), (1, x1)] H
noncomputable def j83_l1 (H0 : Hp) (x0 x1 : AV) (H : Hp) : Res := LPf 83 17 (sub (bodyOf Tryz.f83) [1, 0, 0, 0]) (blockL 0 (k83_1 H0)) [(0, x0), (1, x1)] H
noncomputable def b83_1 (x0 : AV) (H : Hp) : Res :=
  some (x0, H)
theorem e83_1 (H0 : Hp) (x0 : AV) (H : Hp) : j83_1 H0 x0 H = b83_1 x0 H := (CXM_eq [2, 3] _ _ _ _).trans (by kernel_rfl)
theorem m83_1 : L1 (b83_1) (b83_1) := fun _ _ =>
  le_refl _
noncomputable def b83_2 (j83_l1 : A2) (x0 x1 : AV) (H : Hp) : Res :=
  bnd (asliceS x0 (some (.int .i64 1)) none none) fun t15_1 =>
  j83_l1 t15_1 x1 H
theorem e83_2 (H0 : Hp) (x0 x1 : AV) (H : Hp) : j83_2 H0 x0 x1 H = b83_2 (j83_l1 H0) x0 x1 H := (CXM_eq [2, 3] _ _ _ _).trans (by kernel_rfl)
theorem m83_2 {j83_l1 dj83_l1 : A2} (hj83_l1 : L2 j83_l1 dj83_l1) : L2 (b83_2 j83_l1) (b83_2 dj83_l1) := fun _ _ _ =>
  bR fun _ => hj83_l1 _ _ _
noncomputable def b83_l1 (j83_1 : A1) (j83_2 : A2) (x0 x1 : AV) (H : Hp) : Res :=
  bnd (alenD .string x0) fun t6_2 =>
  bnd (ibin .gtr t6_2 (.int .i64 0)) fun t7_3 =>
  bnd (gdv t7_3 true (.tuple []) (some x0)) fun t9_4 =>
  bnd (gdv t7_3 true (.tuple []) (aindexStr t9_4 (.int .i64 0))) fun t10_5 =>
  bnd (gdv t7_3 true (.tuple []) (some x1)) fun t11_6 =>
  bnd (gdv t7_3 true (.tuple []) (ibin .eql t10_5 t11_6)) fun t12_7 =>
  bnd (apick t7_3 t12_7 (.bool false)) fun t13_8 =>
  cnd t13_8
    (j83_2 x0 x1 H)
    (j83_1 x0 H)
theorem e83_l1 (H0 : Hp) (x0 x1 : AV) (H : Hp) : j83_l1 H0 x0 x1 H = b83_l1 (j83_1 H0) (j83_2 H0) x0 x1 H := (LPL_eqm (C := cfg) [2, 3] (tame_block 0 (k83_1_tame H0)) _ _).trans (by kernel_rfl)
theorem m83_l1 {j83_1 dj83_1 : A1} (hj83_1 : L1 j83_1 dj83_1) {j83_2 dj83_2 : A2} (hj83_2 : L2 j83_2 dj83_2) : L2 (b83_l1 j83_1 j83_2) (b83_l1 dj83_1 dj83_2) := fun _ _ _ =>
  bR fun _ => bR fun _ => bR fun _ => bR fun _ => bR fun _ => bR fun _ => bR fun _ => bK (hj83_2 _ _ _) (hj83_1 _ _)
noncomputable def rj83_1 : A1 := b83_1
theorem sj83_1 (H0 : Hp) : L1 (rj83_1) (j83_1 H0) := fun _ _ => le_eq (m83_1 _ _) (e83_1 H0 _ _)
noncomputable def rj83_2 (j83_l1 : A2) : A2 := b83_2 j83_l1
theorem sj83_2 (H0 : Hp) {yj83_l1 : A2} (hj83_l1 : L2 yj83_l1 (j83_l1 H0)) : L2 (rj83_2 yj83_l1) (j83_2 H0) := fun _ _ _ => le_eq (m83_2 hj83_l1 _ _ _) (e83_2 H0 _ _ _)
noncomputable def rj83_l1 (n : Nat) : A2 := @Nat.rec (fun _ => A2) (fun _ _ _ => none) (fun _ j83_l1 => b83_l1 (rj83_1) (rj83_2 j83_l1)) n
theorem sj83_l1 (H0 : Hp) (n : Nat) : L2 (rj83_l1 n) (j83_l1 H0) := by
  induction n with
  | zero => exact fun _ _ _ => le_none _
  | succ n hj83_l1 => exact fun _ _ _ => le_eq (m83_l1 (sj83_1 H0) (sj83_2 H0 hj83_l1) _ _ _) (e83_l1 H0 _ _ _)
noncomputable def bc83 (j83_l1 : A2) (p0 p1 : AV) (H : Hp) : Res :=
  j83_l1 p0 p1 H
theorem ec83 (p0 p1 : AV) (H : Hp) : c83 p0 p1 H = bc83 (j83_l1 H) p0 p1 H := (callw_cxm (C := cfg) (fn := Tryz.f83) (c := bodyOf Tryz.f83) (n := 17) [2, 3] Tryz.func83 (by kernel_rfl) (by kernel_rfl) [p0, p1] (by kernel_rfl) H).trans (by kernel_rfl)
theorem mc83 {j83_l1 dj83_l1 : A2} (hj83_l1 : L2 j83_l1 dj83_l1) : L2 (bc83 j83_l1) (bc83 dj83_l1) := fun _ _ _ =>
  hj83_l1 _ _ _
noncomputable def rc83 : A2 := fun p0 p1 H => bc83 (rj83_l1 100000) p0 p1 H
theorem sc83 : L2 rc83 c83 := fun _ _ H => le_eq (mc83 (sj83_l1 H 100000) _ _ _) (ec83 _ _ _)

/-! strings_makeASCIISet -/
noncomputable def c84 (p0 : AV) (H : Hp) : Res := callw cfg 84 [p0] H
noncomputable def j84_1 (H0 : Hp) (x2 : AV) (H : Hp) : Res := CXf 84 21 (sub (bodyOf Tryz.f84) [1, 1]) (retL cfg 21 84 Tryz.f84 H0) [(2, x2)] H
noncomputable def k84_1 (H0 : Hp) : KL := seqL (fun k al H => CXf 84 21 (sub (bodyOf Tryz.f84) [1, 1]) k (trimL (cfg.keep 84) (sub (bodyOf Tryz.f84) [1, 1]) al) H) (retL cfg 21 84 Tryz.f84 H0)
theorem k84_1_tame (H0 : Hp) : Tame 21 (k84_1 H0) := tame_seq (C := cfg) (kp := cfg.keep 84) (sub (bodyOf Tryz.f84) [1, 1]) (tame_ret 84 Tryz.f84 H0)
noncomputable def j84_3 (H0 : Hp) (x0 x2 x4 : AV) (H : Hp) : Res := CXf 84 21 (sub (bodyOf Tryz.f84) [1, 0, 1, 0, 0, 1, 1]) (seqL (fun k al H => LPf 84 21 (sub (bodyOf Tryz.f84) [1, 0, 1, 0, 0]) k (trimL (cfg.keep 84) (sub (bodyOf Tryz.f84) [1, 0, 1, 0, 0]) al) H) (blockL 0 (k84_1 H0))) [(0, x0), (2, x2), (4, x4)] H
noncomputable def k84_2 (H0 : Hp) : KL := seqL (fun k al H => CXf 84 21 (sub (bodyOf Tryz.f84) [1, 0, 1, 0, 0, 1, 1]) k (trimL (cfg.keep 84) (sub (bodyOf Tryz.f84) [1, 0, 1, 0, 0, 1, 1]) al) H) (seqL (fun k al H => LPf 84 21 (sub (bodyOf Tryz.f84) [1, 0, 1, 0, 0]) k (trimL (cfg.keep 84) (sub (bodyOf Tryz.f84) [1, 0, 1, 0, 0]) al) H) (blockL 0 (k84_1 H0)))
noncomputable def j84_4 (H0 : Hp) (x0 x2 x4 x5 : AV) (H : Hp) : Res := CXf 84 21 (sub (bodyOf Tryz.f84) [1, 0, 1, 0, 0, 1, 0, 0, 1, 1]) (blockL 1 (k84_2 H0)) [(0, x0), (2, x2), (4, x4), (5, x5)] H
noncomputable def j84_2 (H0 : Hp) (x0 x2 x4 : AV) (H : Hp) : Res := CXf 84 21 (sub (bodyOf Tryz.f84) [1, 0, 1, 0, 0, 1]) (seqL (fun k al H => LPf 84 21 (sub (bodyOf Tryz.f84) [1, 0, 1, 0, 0]) k (trimL (cfg.keep 84) (sub (bodyOf Tryz.f84) [1, 0, 1, 0, 0]) al) H) (blockL 0 (k84_1 H0))) [(0, x0), (2, x2), (4, x4)] H
noncomputable def j84_l1 (H0 : Hp) (x0 x2 x4 : AV) (H : Hp) : Res := LPf 84 21 (sub (bodyOf Tryz.f84) [1, 0, 1, 0, 0]) (blockL 0 (k84_1 H0)) [(0, x0), (2, x2), (4, x4)] H
noncomputable def b84_1 (x2 : AV) (H : Hp) : Res :=
  bnd (aload true 256 x2 H) fun t20_2 =>
  bnd (astoreU 256 x2 t20_2 H) fun r_3 =>
  bnd (aload true 256 x2 r_3.2) fun v2_4 =>
  some ((.tuple [v2_4, (.bool true)]), r_3.2)
theorem e84_1 (H0 : Hp) (x2 : AV) (H : Hp) : j84_1 H0 x2 H = b84_1 x2 H := (CXM_eq [3, 4, 7, 8] _ _ _ _).trans (by kernel_rfl)
theorem m84_1 : L1 (b84_1) (b84_1) := fun _ _ =>
  bR fun _ => bR fun _ => bR fun _ => le_refl _
noncomputable def b84_3 (j84_l1 : A3) (x0 x2 x4 : AV) (H : Hp) : Res :=
  bnd (ibin .add x4 (.int .i64 1)) fun t11_5 =>
  j84_l1 x0 x2 t11_5 H
theorem e84_3 (H0 : Hp) (x0 x2 x4 : AV) (H : Hp) : j84_3 H0 x0 x2 x4 H = b84_3 (j84_l1 H0) x0 x2 x4 H := (CXM_eq [3, 4, 7, 8] _ _ _ _).trans (by kernel_rfl)
theorem m84_3 {j84_l1 dj84_l1 : A3} (hj84_l1 : L3 j84_l1 dj84_l1) : L3 (b84_3 j84_l1) (b84_3 dj84_l1) := fun _ _ _ _ =>
  bR fun _ => hj84_l1 _ _ _ _
noncomputable def b84_4 (j84_3 : A3) (x0 x2 x4 x5 : AV) (H : Hp) : Res :=
  bnd (aindexA 256 1 x2 x5) fun t19_7 =>
  bnd (astoreU 1 t19_7 (.bool true) H) fun r_8 =>
  j84_3 x0 x2 x4 r_8.2
theorem e84_4 (H0 : Hp) (x0 x2 x4 x5 : AV) (H : Hp) : j84_4 H0 x0 x2 x4 x5 H = b84_4 (j84_3 H0) x0 x2 x4 x5 H := (CXM_eq [3, 4, 7, 8] _ _ _ _).trans (by kernel_rfl)
theorem m84_4 {j84_3 dj84_3 : A3} (hj84_3 : L3 j84_3 dj84_3) : L4 (b84_4 j84_3) (b84_4 dj84_3) := fun _ _ _ _ _ =>
  bR fun _ => bR fun _ => hj84_3 _ _ _ _
noncomputable def b84_2 (j84_4 : A4) (x0 x2 x4 : AV) (H : Hp) : Res :=
  bnd (aindexStr x0 x4) fun t14_6 =>
  bnd (ibin .geq t14_6 (.int .u8 128)) fun t16_9 =>
  cnd t16_9
    (bnd (aload true 256 x2 H) fun t17_10 =>
    bnd (astoreU 256 x2 t17_10 H) fun r_11 =>
    bnd (aload true 256 x2 r_11.2) fun v2_12 =>
    some ((.tuple [v2_12, (.bool false)]), r_11.2))
    (j84_4 x0 x2 x4 t14_6 H)
theorem e84_2 (H0 : Hp) (x0 x2 x4 : AV) (H : Hp) : j84_2 H0 x0 x2 x4 H = b84_2 (j84_4 H0) x0 x2 x4 H := (CXM_eq [3, 4, 7, 8] _ _ _ _).trans (by kernel_rfl)
theorem m84_2 {j84_4 dj84_4 : A4} (hj84_4 : L4 j84_4 dj84_4) : L3 (b84_2 j84_4) (b84_2 dj84_4) := fun _ _ _ _ =>
  bR fun _ => bR fun _ => bK (bR fun _ => bR fun _ => bR fun _ => le_refl _) (hj84_4 _ _ _ _ _)
noncomputable def b84_l1 (j84_1 : A1) (j84_2 : A3) (x0 x2 x4 : AV) (H : Hp) : Res :=
  bnd (alenD .string x0) fun t8_13 =>
  bnd (ibin .lss x4 t8_13) fun t9_14 =>
  cnd t9_14
    (j84_2 x0 x2 x4 H)
    (j84_1 x2 H)
theorem e84_l1 (H0 : Hp) (x0 x2 x4 : AV) (H : Hp) : j84_l1 H0 x0 x2 x4 H = b84_l1 (j84_1 H0) (j84_2 H0) x0 x2 x4 H := (LPL_eqm (C := cfg) [3, 4, 7, 8] (tame_block 0 (k84_1_tame H0)) _ _).trans (by kernel_rfl)
theorem m84_l1 {j84_1 dj84_1 : A1} (hj84_1 : L1 j84_1 dj84_1) {j84_2 dj84_2 : A3} (hj84_2 : L3 j84_2 dj84_2) : L3 (b84_l1 j84_1 j84_2) (b84_l1 dj84_1 dj84_2) := fun _ _ _ _ =>
  bR fun _ => bR fun _ => bK (hj84_2 _ _ _ _) (hj84_1 _ _)
noncomputable def rj84_1 : A1 := b84_1
theorem sj84_1 (H0 : Hp) : L1 (rj84_1) (j84_1 H0) := fun _ _ => le_eq (m84_1 _ _) (e84_1 H0 _ _)
noncomputable def rj84_3 (j84_l1 : A3) : A3 := b84_3 j84_l1
theorem sj84_3 (H0 : Hp) {yj84_l1 : A3} (hj84_l1 : L3 yj84_l1 (j84_l1 H0)) : L3 (rj84_3 yj84_l1) (j84_3 H0) := fun _ _ _ _ => le_eq (m84_3 hj84_l1 _ _ _ _) (e84_3 H0 _ _ _ _)
noncomputable def rj84_4 (j84_l1 : A3) : A4 := b84_4 (rj84_3 j84_l1)
theorem sj84_4 (H0 : Hp) {yj84_l1 : A3} (hj84_l1 : L3 yj84_l1 (j84_l1 H0)) : L4 (rj84_4 yj84_l1) (j84_4 H0) := fun _ _ _ _ _ => le_eq (m84_4 (sj84_3 H0 hj84_l1) _ _ _ _ _) (e84_4 H0 _ _ _ _ _)
noncomputable def rj84_2 (j84_l1 : A3) : A3 := b84_2 (rj84_4 j84_l1)
theorem sj84_2 (H0 : Hp) {yj84_l1 : A3} (hj84_l1 : L3 yj84_l1 (j84_l1 H0)) : L3 (rj84_2 yj84_l1) (j84_2 H0) := fun _ _ _ _ => le_eq (m84_2 (sj84_4 H0 hj84_l1) _ _ _ _) (e84_2 H0 _ _ _ _)
noncomputable def rj84_l1 (n : Nat) : A3 := @Nat.rec (fun _ => A3) (fun _ _ _ _ => none) (fun _ j84_l1 => b84_l1 (rj84_1) (rj84_2 j84_l1)) n
theorem sj84_l1 (H0 : Hp) (n : Nat) : L3 (rj84_l1 n) (j84_l1 H0) := by
  induction n with
  | zero => exact fun _ _ _ _ => le_none _
  | succ n hj84_l1 => exact fun _ _ _ _ => le_eq (m84_l1 (sj84_1 H0) (sj84_2 H0 hj84_l1) _ _ _ _) (e84_l1 H0 _ _ _ _)
noncomputable def bc84 (j84_l1 : A3) (p0 : AV) (H : Hp) : Res :=
  bnd (some ((.ptr H.length 0), H ++ [.cells [(.bool false), (.bool false), (.bool false), (.bool false), (.bool false), (.bool false), (.bool false), (.bool false), (.bool false), (.bool false), (.bool false), (.bool false), (.bool false), (.bool false), (.bool false), (.bool false), (.bool false), (.bool false), (.bool false), (.bool false), (.bool false), (.bool false), (.bool false), (.bool false), (.bool false), (.bool false), (.bool false), (.bool false), (.bool false), (.bool false), (.bool false), (.bool false), (.bool false), (.bool false), (.bool false), (.bool false), (.bool false), (.bool false), (.bool false), (.bool false), (.bool false), (.bool false), (.bool false), (.bool false), (.bool false), (.bool false), (.bool false), (.bool false), (.bool false), (.bool false), (.bool false), (.bool false), (.bool false), (.bool false), (.bool false), (.bool false), (.bool false), (.bool false), (.bool false), (.bool false), (.bool false), (.bool false), (.bool false), (.bool false), (.bool false), (.bool false), (.bool false), (.bool false), (.bool false), (.bool false), (.bool false), (.bool false), (.bool false), (.bool false), (.bool false), (.bool false), (.bool false), (.bool false), (.bool false), (.bool false), (.bool false), (.bool false), (.bool false), (.bool false), (.bool false), (.bool false), (.bool false), (.bool false), (.bool false), (.bool false), (.bool false), (.bool false), (.bool false), (.bool false), (.bool false), (.bool false), (.bool false), (.bool false), (.bool false), (.bool false), (.bool false), (.bool false), (.bool false), (.bool false), (.bool false), (.bool false), (.bool false), (.bool false), (.bool false), (.bool false), (.bool false), (.bool false), (.bool false), (.bool false), (.bool false), (.bool false), (.bool false), (.bool false), (.bool false), (.bool false), (.bool false), (.bool false), (.bool false), (.bool false), (.bool false), (.bool false), (.bool false), (.bool false), (.bool false), (.bool false), (.bool false), (.bool false), (.bool false), (.bool false), (.bool false), (.bool false), (.bool false), (.bool false), (.bool false), (.bool false), (.bool false), (.bool false), (.bool false), (.bool false), (.bool false), (.bool false), (.bool false), (.bool false), (.bool false), (.bool false), (.bool false), (.bool false), (.bool false), (.bool false), (.bool false), (.bool false), (.bool false), (.bool false), (.bool false), (.bool false), (.bool false), (.bool false), (.bool false), (.bool false), (.bool false), (.bool false), (.bool false), (.bool false), (.bool false), (.bool false), (.bool false), (.bool false), (.bool false), (.bool false), (.bool false), (.bool false), (.bool false), (.bool false), (.bool false), (.bool false), (.bool false), (.bool false), (.bool false), (.bool false), (.bool false), (.bool false), (.bool false), (.bool false), (.bool false), (.bool false), (.bool false), (.bool false), (.bool false), (.bool false), (.bool false), (.bool false), (.bool false), (.bool false), (.bool false), (.bool false), (.bool false), (.bool false), (.bool false), (.bool false), (.bool false), (.bool false), (.bool false), (.bool false), (.bool false), (.bool false), (.bool false), (.bool false), (.bool false), (.bool false), (.bool false), (.bool false), (.bool false), (.bool false), (.bool false), (.bool false), (.bool false), (.bool false), (.bool false), (.bool false), (.bool false), (.bool false), (.bool false), (.bool false), (.bool false), (.bool false), (.bool false), (.bool false), (.bool false), (.bool false), (.bool false), (.bool false), (.bool false), (.bool false), (.bool false), (.bool false), (.bool false), (.bool false), (.bool false), (.bool false), (.bool false), (.bool false), (.bool false), (.bool false), (.bool false), (.bool false), (.bool false), (.bool false), (.bool false), (.bool false), (.bool false), (.bool false)]])) fun r2_1 =>
  j84_l1 p0 r2_1.1 (.int .i64 0) r2_1.2
theorem ec84 (p0 : AV) (H : Hp) : c84 p0 H = bc84 (j84_l1 H) p0 H := (callw_cxm (C := cfg) (fn := Tryz.f84) (c := bodyOf Tryz.f84) (n := 21) [3, 4, 7, 8] Tryz.func84 (by kernel_rfl) (by kernel_rfl) [p0] (by kernel_rfl) H).trans (by kernel_rfl)
theorem mc84 {j84_l1 dj84_l1 : A3} (hj84_l1 : L3 j84_l1 dj84_l1) : L1 (bc84 j84_l1) (bc84 dj84_l1) := fun _ _ =>
  bR fun _ => hj84_l1 _ _ _ _
noncomputable def rc84 : A1 := fun p0 H => bc84 (rj84_l1 100000) p0 H
theorem sc84 : L1 rc84 c84 := fun _ H => le_eq (mc84 (sj84_l1 H 100000) _ _) (ec84 _ _)

/-! strings_asciiSet_contains -/
noncomputable def c105 (p0 p1 : AV) (H : Hp) : Res := callw cfg 105 [p0, p1] H
noncomputable def bc105 (p0 p1 : AV) (H : Hp) : Res :=
  bnd (anil p0) fun t7_1 =>
  bnd (aindexA 256 1 t7_1 p1) fun t8_2 =>
  bnd (aload false 1 t8_2 H) fun t9_3 =>
  some (t9_3, H)
theorem ec105 (p0 p1 : AV) (H : Hp) : c105 p0 p1 H = bc105 p0 p1 H := (callw_cxm (C := cfg) (fn := Tryz.f105) (c := bodyOf Tryz.f105) (n := 10) [] Tryz.func105 (by kernel_rfl) (by kernel_rfl) [p0, p1] (by kernel_rfl) H).trans (by kernel_rfl)
theorem mc105 : L2 (bc105) (bc105) := fun _ _ _ =>
  bR fun _ => bR fun _ => bR fun _ => le_refl _
noncomputable def rc105 : A2 := fun p0 p1 H => bc105 p0 p1 H
theorem sc105 : L2 rc105 c105 := fun _ _ H => le_eq (mc105 _ _ _) (ec105 _ _ _)

/-! strings_trimLeftASCII -/
noncomputable def c85 (p0 p1 : AV) (H : Hp) : Res := callw cfg 85 [p0, p1] H
noncomputable def j85_1 (H0 : Hp) (x0 : AV) (H : Hp) : Res := CXf 85 16 (sub (bodyOf Tryz.f85) [1, 1]) (retL cfg 16 85 Tryz.f85 H0) [(0, x0)] H
noncomputable def k85_1 (H0 : Hp) : KL := seqL (fun k al H => CXf 85 16 (sub (bodyOf Tryz.f85) [1, 1]) k (trimL (cfg.keep 85) (sub (bodyOf Tryz.f85) [1, 1]) al) H) (retL cfg 16 85 Tryz.f85 H0)
theorem k85_1_tame (H0 : Hp) : Tame 16 (k85_1 H0) := tame_seq (C := cfg) (kp := cfg.keep 85) (sub (bodyOf Tryz.f85) [1, 1]) (tame_ret 85 Tryz.f85 H0)
noncomputable def j85_3 (H0 : Hp) (x0 x1 : AV) (H : Hp) : Res := CXf 85 16 (sub (bodyOf Tryz.f85) [1, 0, 0, 0, 1, 0, 1]) (blockL 1 (seqL (fun k al H => LPf 85 16 (sub (bodyOf Tryz.f85) [1, 0, 0, 0]) k (trimL (cfg.keep 85) (sub (bodyOf Tryz.f85) [1, 0, 0, 0]) al) H) (blockL 0 (k85_1 H0)))) [(0, x0), (1, x1)] H
noncomputable def j85_2 (H0 : Hp) (x0 x1 : AV) (H : Hp) : Res := CXf 85 16 (sub (bodyOf Tryz.f85) [1, 0, 0, 0, 1]) (seqL (fun k al H => LPf 85 16 (sub (bodyOf Tryz.f85) [1, 0, 0, 0]) k (trimL (cfg.keep 85) (sub (bodyOf Tryz.f85) [1, 0, 0, 0]) al) H) (blockL 0 (k85_1 H0))) [(0, x0), (1, x1)] H
noncomputable def j85_l1 (H0 : Hp) (x0 x1 : AV) (H : Hp) : Res := LPf 85 16 (sub (bodyOf Tryz.f85) [1, 0, 0, 0]) (blockL 0 (k85_1 H0)) [(0, x0), (1, x1)] H
noncomputable def b85_1 (x0 : AV) (H : Hp) : Res :=
  some (x0, H)
theorem e85_1 (H0 : Hp) (x0 : AV) (H : Hp) : j85_1 H0 x0 H = b85_1 x0 H := (CXM_eq [2, 3, 4] _ _ _ _).trans (by kernel_rfl)
theorem m85_1 : L1 (b85_1) (b85_1) := fun _ _ =>
  le_refl _
noncomputable def b85_3 (j85_l1 : A2) (x0 x1 : AV) (H : Hp) : Res :=
  bnd (asliceS x0 (some (.int .i64 1)) none none) fun t14_1 =>
  j85_l1 t14_1 x1 H
theorem e85_3 (H0 : Hp) (x0 x1 : AV) (H : Hp) : j85_3 H0 x0 x1 H = b85_3 (j85_l1 H0) x0 x1 H := (CXM_eq [2, 3, 4] _ _ _ _).trans (by kernel_rfl)
theorem m85_3 {j85_l1 dj85_l1 : A2} (hj85_l1 : L2 j85_l1 dj85_l1) : L2 (b85_3 j85_l1) (b85_3 dj85_l1) := fun _ _ _ =>
  bR fun _ => hj85_l1 _ _ _
noncomputable def b85_2 (c105 : A2) (j85_1 : A1) (j85_3 : A2) (x0 x1 : AV) (H : Hp) : Res :=
  bnd (aindexStr x0 (.int .i64 0)) fun t10_2 =>
  bnd (c105 x1 t10_2 H) fun r11_3 =>
  bnd (aun .not r11_3.1) fun t12_4 =>
  cnd t12_4
    (j85_1 x0 r11_3.2)
    (j85_3 x0 x1 r11_3.2)
theorem e85_2 (H0 : Hp) (x0 x1 : AV) (H : Hp) : j85_2 H0 x0 x1 H = b85_2 c105 (j85_1 H0) (j85_3 H0) x0 x1 H := (CXM_eq [2, 3, 4] _ _ _ _).trans (by kernel_rfl)
theorem m85_2 {c105 dc105 : A2} (hc105 : L2 c105 dc105) {j85_1 dj85_1 : A1} (hj85_1 : L1 j85_1 dj85_1) {j85_3 dj85_3 : A2} (hj85_3 : L2 j85_3 dj85_3) : L2 (b85_2 c105 j85_1 j85_3) (b85_2 dc105 dj85_1 dj85_3) := fun _ _ _ =>
  bR fun _ => bC (hc105 _ _ _) fun _ => bR fun _ => bK (hj85_1 _ _) (hj85_3 _ _ _)
noncomputable def b85_l1 (j85_1 : A1) (j85_2 : A2) (x0 x1 : AV) (H : Hp) : Res :=
  bnd (alenD .string x0) fun t6_5 =>
  bnd (ibin .gtr t6_5 (.int .i64 0)) fun t7_6 =>
  cnd t7_6
    (j85_2 x0 x1 H)
    (j85_1 x0 H)
theorem e85_l1 (H0 : Hp) (x0 x1 : AV) (H : Hp) : j85_l1 H0 x0 x1 H = b85_l1 (j85_1 H0) (j85_2 H0) x0 x1 H := (LPL_eqm (C := cfg) [2, 3, 4] (tame_block 0 (k85_1_tame H0)) _ _).trans (by kernel_rfl)
theorem m85_l1 {j85_1 dj85_1 : A1} (hj85_1 : L1 j85_1 dj85_1) {j85_2 dj85_2 : A2} (hj85_2 : L2 j85_2 dj85_2) : L2 (b85_l1 j85_1 j85_2) (b85_l1 dj85_1 dj85_2) := fun _ _ _ =>
  bR fun _ => bR fun _ => bK (hj85_2 _ _ _) (hj85_1 _ _)
noncomputable def rj85_1 : A1 := b85_1
theorem sj85_1 (H0 : Hp) : L1 (rj85_1) (j85_1 H0) := fun _ _ => le_eq (m85_1 _ _) (e85_1 H0 _ _)
noncomputable def rj85_3 (j85_l1 : A2) : A2 := b85_3 j85_l1
theorem sj85_3 (H0 : Hp) {yj85_l1 : A2} (hj85_l1 : L2 yj85_l1 (j85_l1 H0)) : L2 (rj85_3 yj85_l1) (j85_3 H0) := fun _ _ _ => le_eq (m85_3 hj85_l1 _ _ _) (e85_3 H0 _ _ _)
noncomputable def rj85_2 (j85_l1 : A2) : A2 := b85_2 rc105 (rj85_1) (rj85_3 j85_l1)
theorem sj85_2 (H0 : Hp) {yj85_l1 : A2} (hj85_l1 : L2 yj85_l1 (j85_l1 H0)) : L2 (rj85_2 yj85_l1) (j85_2 H0) := fun _ _ _ => le_eq (m85_2 sc105 (sj85_1 H0) (sj85_3 H0 hj85_l1) _ _ _) (e85_2 H0 _ _ _)
noncomputable def rj85_l1 (n : Nat) : A2 := @Nat.rec (fun _ => A2) (fun _ _ _ => none) (fun _ j85_l1 => b85_l1 (rj85_1) (rj85_2 j85_l1)) n
theorem sj85_l1 (H0 : Hp) (n : Nat) : L2 (rj85_l1 n) (j85_l1 H0) := by
  induction n with
  | zero => exact fun _ _ _ => le_none _
  | succ n hj85_l1 => exact fun _ _ _ => le_eq (m85_l1 (sj85_1 H0) (sj85_2 H0 hj85_l1) _ _ _) (e85_l1 H0 _ _ _)
noncomputable def bc85 (j85_l1 : A2) (p0 p1 : AV) (H : Hp) : Res :=
  j85_l1 p0 p1 H
theorem ec85 (p0 p1 : AV) (H : Hp) : c85 p0 p1 H = bc85 (j85_l1 H) p0 p1 H := (callw_cxm (C := cfg) (fn := Tryz.f85) (c := bodyOf Tryz.f85) (n := 16) [2, 3, 4] Tryz.func85 (by kernel_rfl) (by kernel_rfl) [p0, p1] (by kernel_rfl) H).trans (by kernel_rfl)
theorem mc85 {j85_l1 dj85_l1 : A2} (hj85_l1 : L2 j85_l1 dj85_l1) : L2 (bc85 j85_l1) (bc85 dj85_l1) := fun _ _ _ =>
  hj85_l1 _ _ _
noncomputable def rc85 : A2 := fun p0 p1 H => bc85 (rj85_l1 100000) p0 p1 H
theorem sc85 : L2 rc85 c85 := fun _ _ H => le_eq (mc85 (sj85_l1 H 100000) _ _ _) (ec85 _ _ _)

/-! unicode_utf8_decodeRuneInStringSlow -/
noncomputable def c125 (p0 : AV) (H : Hp) : Res := callw cfg 125 [p0] H
noncomputable def j125_8 (H0 : Hp) (x5 x10 x11 x12 : AV) (H : Hp) : Res := CXf 125 117 (sub (bodyOf Tryz.f125) [1, 1, 1, 1, 1, 1, 1, 1, 1, 1, 1, 1, 1, 1, 1, 1, 1]) (retL cfg 117 125 Tryz.f125 H0) [(5, x5), (10, x10), (11, x11), (12, x12)] H
noncomputable def j125_7 (H0 : Hp) (x0 x5 x10 x11 : AV) (H : Hp) : Res := CXf 125 117 (sub (bodyOf Tryz.f125) [1, 1, 1, 1, 1, 1, 1, 1, 1, 1, 1, 1, 1, 1, 1]) (retL cfg 117 125 Tryz.f125 H0) [(0, x0), (5, x5), (10, x10), (11, x11)] H
noncomputable def j125_6 (H0 : Hp) (x0 x5 x8 x10 x11 : AV) (H : Hp) : Res := CXf 125 117 (sub (bodyOf Tryz.f125) [1, 1, 1, 1, 1, 1, 1, 1, 1, 1, 1, 1, 1, 1]) (retL cfg 117 125 Tryz.f125 H0) [(0, x0), (5, x5), (8, x8), (10, x10), (11, x11)] H
noncomputable def j125_5 (H0 : Hp) (x0 x5 x8 x10 : AV) (H : Hp) : Res := CXf 125 117 (sub (bodyOf Tryz.f125) [1, 1, 1, 1, 1, 1, 1, 1, 1, 1, 1, 1]) (retL cfg 117 125 Tryz.f125 H0) [(0, x0), (5, x5), (8, x8), (10, x10)] H
noncomputable def j125_4 (H0 : Hp) (x0 x5 x8 x10 : AV) (H : Hp) : Res := CXf 125 117 (sub (bodyOf Tryz.f125) [1, 1, 1, 1, 1, 1, 1, 1, 1, 1, 1]) (retL cfg 117 125 Tryz.f125 H0) [(0, x0), (5, x5), (8, x8), (10, x10)] H
noncomputable def j125_3 (H0 : Hp) (x0 x5 x8 x9 : AV) (H : Hp) : Res := CXf 125 117 (sub (bodyOf Tryz.f125) [1, 1, 1, 1, 1, 1, 1, 1, 1]) (retL cfg 117 125 Tryz.f125 H0) [(0, x0), (5, x5), (8, x8), (9, x9)] H
noncomputable def j125_2 (H0 : Hp) (x0 x4 x5 x6 : AV) (H : Hp) : Res := CXf 125 117 (sub (bodyOf Tryz.f125) [1, 1, 1, 1, 1, 1]) (retL cfg 117 125 Tryz.f125 H0) [(0, x0), (4, x4), (5, x5), (6, x6)] H
noncomputable def j125_1 (H0 : Hp) (x0 x4 : AV) (H : Hp) : Res := CXf 125 117 (sub (bodyOf Tryz.f125) [1, 1, 1]) (retL cfg 117 125 Tryz.f125 H0) [(0, x0), (4, x4)] H
noncomputable def b125_8 (x5 x10 x11 x12 : AV) (H : Hp) : Res :=
  bnd (ibin .and x5 (.int .u8 7)) fun t100_15 =>
  bnd (cvInt .i32 t100_15) fun t101_16 =>
  bnd (ibin .shl t101_16 (.int .u64 18)) fun t102_17 =>
  bnd (ibin .and x10 (.int .u8 63)) fun t104_18 =>
  bnd (cvInt .i32 t104_18) fun t105_19 =>
  bnd (ibin .shl t105_19 (.int .u64 12)) fun t106_20 =>
  bnd (ibin .or t102_17 t106_20) fun t107_21 =>
  bnd (ibin .and x11 (.int .u8 63)) fun t109_22 =>
  bnd (cvInt .i32 t109_22) fun t110_23 =>
  bnd (ibin .shl t110_23 (.int .u64 6)) fun t111_24 =>
  bnd (ibin .or t107_21 t111_24) fun t112_25 =>
  bnd (ibin .and x12 (.int .u8 63)) fun t114_26 =>
  bnd (cvInt .i32 t114_26) fun t115_27 =>
  bnd (ibin .or t112_25 t115_27) fun t116_28 =>
  some ((.tuple [t116_28, (.int .i64 4)]), H)
theorem e125_8 (H0 : Hp) (x5 x10 x11 x12 : AV) (H : Hp) : j125_8 H0 x5 x10 x11 x12 H = b125_8 x5 x10 x11 x12 H := (CXM_eq [4, 9, 13, 16, 18, 21, 23, 26] _ _ _ _).trans (by kernel_rfl)
theorem m125_8 : L4 (b125_8) (b125_8) := fun _ _ _ _ _ =>
  bR fun _ => bR fun _ => bR fun _ => bR fun _ => bR fun _ => bR fun _ => bR fun _ => bR fun _ => bR fun _ => bR fun _ => bR fun _ => bR fun _ => bR fun _ => bR fun _ => le_refl _
noncomputable def b125_7 (j125_8 : A4) (x0 x5 x10 x11 : AV) (H : Hp) : Res :=
  bnd (aindexStr x0 (.int .i64 3)) fun t92_14 =>
  bnd (ibin .lss t92_14 (.int .u8 128)) fun t94_29 =>
  bnd (gdv t94_29 false (.tuple []) (some t92_14)) fun t96_30 =>
  bnd (gdv t94_29 false (.tuple []) (ibin .lss (.int .u8 191) t96_30)) fun t97_31 =>
  bnd (apick t94_29 (.bool true) t97_31) fun t98_32 =>
  cnd t98_32
    (some ((.tuple [(.int .i32 65533), (.int .i64 1)]), H))
    (j125_8 x5 x10 x11 t92_14 H)
theorem e125_7 (H0 : Hp) (x0 x5 x10 x11 : AV) (H : Hp) : j125_7 H0 x0 x5 x10 x11 H = b125_7 (j125_8 H0) x0 x5 x10 x11 H := (CXM_eq [4, 9, 13, 16, 18, 21, 23, 26] _ _ _ _).trans (by kernel_rfl)
theorem m125_7 {j125_8 dj125_8 : A4} (hj125_8 : L4 j125_8 dj125_8) : L4 (b125_7 j125_8) (b125_7 dj125_8) := fun _ _ _ _ _ =>
  bR fun _ => bR fun _ => bR fun _ => bR fun _ => bR fun _ => bK (le_refl _) (hj125_8 _ _ _ _ _)
noncomputable def b125_6 (j125_7 : A4) (x0 x5 x8 x10 x11 : AV) (H : Hp) : Res :=
  bnd (ibin .leq x8 (.int .i64 3)) fun t77_33 =>
  cnd t77_33
    (bnd (ibin .and x5 (.int .u8 15)) fun t79_34 =>
    bnd (cvInt .i32 t79_34) fun t80_35 =>
    bnd (ibin .shl t80_35 (.int .u64 12)) fun t81_36 =>
    bnd (ibin .and x10 (.int .u8 63)) fun t83_37 =>
    bnd (cvInt .i32 t83_37) fun t84_38 =>
    bnd (ibin .shl t84_38 (.int .u64 6)) fun t85_39 =>
    bnd (ibin .or t81_36 t85_39) fun t86_40 =>
    bnd (ibin .and x11 (.int .u8 63)) fun t88_41 =>
    bnd (cvInt .i32 t88_41) fun t89_42 =>
    bnd (ibin .or t86_40 t89_42) fun t90_43 =>
    some ((.tuple [t90_43, (.int .i64 3)]), H))
    (j125_7 x0 x5 x10 x11 H)
theorem e125_6 (H0 : Hp) (x0 x5 x8 x10 x11 : AV) (H : Hp) : j125_6 H0 x0 x5 x8 x10 x11 H = b125_6 (j125_7 H0) x0 x5 x8 x10 x11 H := (CXM_eq [4, 9, 13, 16, 18, 21, 23, 26] _ _ _ _).trans (by kernel_rfl)
theorem m125_6 {j125_7 dj125_7 : A4} (hj125_7 : L4 j125_7 dj125_7) : L5 (b125_6 j125_7) (b125_6 dj125_7) := fun _ _ _ _ _ _ =>
  bR fun _ => bK (bR fun _ => bR fun _ => bR fun _ => bR fun _ => bR fun _ => bR fun _ => bR fun _ => bR fun _ => bR fun _ => bR fun _ => le_refl _) (hj125_7 _ _ _ _ _)
noncomputable def b125_5 (j125_6 : A5) (x0 x5 x8 x10 : AV) (H : Hp) : Res :=
  bnd (aindexStr x0 (.int .i64 2)) fun t69_13 =>
  bnd (ibin .lss t69_13 (.int .u8 128)) fun t71_44 =>
  bnd (gdv t71_44 false (.tuple []) (some t69_13)) fun t73_45 =>
  bnd (gdv t71_44 false (.tuple []) (ibin .lss (.int .u8 191) t73_45)) fun t74_46 =>
  bnd (apick t71_44 (.bool true) t74_46) fun t75_47 =>
  cnd t75_47
    (some ((.tuple [(.int .i32 65533), (.int .i64 1)]), H))
    (j125_6 x0 x5 x8 x10 t69_13 H)
theorem e125_5 (H0 : Hp) (x0 x5 x8 x10 : AV) (H : Hp) : j125_5 H0 x0 x5 x8 x10 H = b125_5 (j125_6 H0) x0 x5 x8 x10 H := (CXM_eq [4, 9, 13, 16, 18, 21, 23, 26] _ _ _ _).trans (by kernel_rfl)
theorem m125_5 {j125_6 dj125_6 : A5} (hj125_6 : L5 j125_6 dj125_6) : L4 (b125_5 j125_6) (b125_5 dj125_6) := fun _ _ _ _ _ =>
  bR fun _ => bR fun _ => bR fun _ => bR fun _ => bR fun _ => bK (le_refl _) (hj125_6 _ _ _ _ _ _)
noncomputable def b125_4 (j125_5 : A4) (x0 x5 x8 x10 : AV) (H : Hp) : Res :=
  bnd (ibin .leq x8 (.int .i64 2)) fun t59_48 =>
  cnd t59_48
    (bnd (ibin .and x5 (.int .u8 31)) fun t61_49 =>
    bnd (cvInt .i32 t61_49) fun t62_50 =>
    bnd (ibin .shl t62_50 (.int .u64 6)) fun t63_51 =>
    bnd (ibin .and x10 (.int .u8 63)) fun t65_52 =>
    bnd (cvInt .i32 t65_52) fun t66_53 =>
    bnd (ibin .or t63_51 t66_53) fun t67_54 =>
    some ((.tuple [t67_54, (.int .i64 2)]), H))
    (j125_5 x0 x5 x8 x10 H)
theorem e125_4 (H0 : Hp) (x0 x5 x8 x10 : AV) (H : Hp) : j125_4 H0 x0 x5 x8 x10 H = b125_4 (j125_5 H0) x0 x5 x8 x10 H := (CXM_eq [4, 9, 13, 16, 18, 21, 23, 26] _ _ _ _).trans (by kernel_rfl)
theorem m125_4 {j125_5 dj125_5 : A4} (hj125_5 : L4 j125_5 dj125_5) : L4 (b125_4 j125_5) (b125_4 dj125_5) := fun _ _ _ _ _ =>
  bR fun _ => bK (bR fun _ => bR fun _ => bR fun _ => bR fun _ => bR fun _ => bR fun _ => le_refl _) (hj125_5 _ _ _ _ _)
noncomputable def b125_3 (j125_4 : A4) (x0 x5 x8 x9 : AV) (H : Hp) : Res :=
  bnd (aindexStr x0 (.int .i64 1)) fun t47_12 =>
  bnd (afield 0 x9) fun t49_55 =>
  bnd (aload false 1 t49_55 H) fun t50_56 =>
  bnd (ibin .lss t47_12 t50_56) fun t51_57 =>
  bnd (gdv t51_57 false (.tuple []) (afield 1 x9)) fun t53_58 =>
  bnd (gdv t51_57 false (.tuple []) (aload false 1 t53_58 H)) fun t54_59 =>
  bnd (gdv t51_57 false (.tuple []) (some t47_12)) fun t55_60 =>
  bnd (gdv t51_57 false (.tuple []) (ibin .lss t54_59 t55_60)) fun t56_61 =>
  bnd (apick t51_57 (.bool true) t56_61) fun t57_62 =>
  cnd t57_62
    (some ((.tuple [(.int .i32 65533), (.int .i64 1)]), H))
    (j125_4 x0 x5 x8 t47_12 H)
theorem e125_3 (H0 : Hp) (x0 x5 x8 x9 : AV) (H : Hp) : j125_3 H0 x0 x5 x8 x9 H = b125_3 (j125_4 H0) x0 x5 x8 x9 H := (CXM_eq [4, 9, 13, 16, 18, 21, 23, 26] _ _ _ _).trans (by kernel_rfl)
theorem m125_3 {j125_4 dj125_4 : A4} (hj125_4 : L4 j125_4 dj125_4) : L4 (b125_3 j125_4) (b125_3 dj125_4) := fun _ _ _ _ _ =>
  bR fun _ => bR fun _ => bR fun _ => bR fun _ => bR fun _ => bR fun _ => bR fun _ => bR fun _ => bR fun _ => bK (le_refl _) (hj125_4 _ _ _ _ _)
noncomputable def b125_2 (j125_3 : A4) (x0 x4 x5 x6 : AV) (H : Hp) : Res :=
  bnd (ibin .and x6 (.int .u8 7)) fun t37_5 =>
  bnd (cvInt .i64 t37_5) fun t38_6 =>
  bnd (ibin .shr x6 (.int .u64 4)) fun t40_7 =>
  bnd (aindexA 16 2 .undef t40_7) fun t41_8 =>
  bnd (aload true 2 t41_8 H) fun t42_9 =>
  bnd (some ((.ptr H.length 0), H ++ [.cells [(.int .u8 0), (.int .u8 0)]])) fun r9_10 =>
  bnd (astoreU 2 r9_10.1 t42_9 r9_10.2) fun r_11 =>
  bnd (ibin .lss x4 t38_6) fun t45_63 =>
  cnd t45_63
    (some ((.tuple [(.int .i32 65533), (.int .i64 1)]), r_11.2))
    (j125_3 x0 x5 t38_6 r9_10.1 r_11.2)
theorem e125_2 (H0 : Hp) (x0 x4 x5 x6 : AV) (H : Hp) : j125_2 H0 x0 x4 x5 x6 H = b125_2 (j125_3 H0) x0 x4 x5 x6 H := (CXM_eq [4, 9, 13, 16, 18, 21, 23, 26] _ _ _ _).trans (by kernel_rfl)
theorem m125_2 {j125_3 dj125_3 : A4} (hj125_3 : L4 j125_3 dj125_3) : L4 (b125_2 j125_3) (b125_2 dj125_3) := fun _ _ _ _ _ =>
  bR fun _ => bR fun _ => bR fun _ => bR fun _ => bR fun _ => bR fun _ => bR fun _ => bR fun _ => bK (le_refl _) (hj125_3 _ _ _ _ _)
noncomputable def b125_1 (j125_2 : A4) (x0 x4 : AV) (H : Hp) : Res :=
  bnd (aindexStr x0 (.int .i64 0)) fun t18_2 =>
  bnd (aindexA 256 1 .undef t18_2) fun t20_3 =>
  bnd (aload false 1 t20_3 H) fun t21_4 =>
  bnd (ibin .geq t21_4 (.int .u8 240)) fun t23_64 =>
  cnd t23_64
    (bnd (cvInt .i32 t21_4) fun t25_65 =>
    bnd (ibin .shl t25_65 (.int .u64 31)) fun t26_66 =>
    bnd (ibin .shr t26_66 (.int .u64 31)) fun t27_67 =>
    bnd (aindexStr x0 (.int .i64 0)) fun t29_68 =>
    bnd (cvInt .i32 t29_68) fun t30_69 =>
    bnd (ibin .andNot t30_69 t27_67) fun t32_70 =>
    bnd (ibin .and (.int .i32 65533) t27_67) fun t34_71 =>
    bnd (ibin .or t32_70 t34_71) fun t35_72 =>
    some ((.tuple [t35_72, (.int .i64 1)]), H))
    (j125_2 x0 x4 t18_2 t21_4 H)
theorem e125_1 (H0 : Hp) (x0 x4 : AV) (H : Hp) : j125_1 H0 x0 x4 H = b125_1 (j125_2 H0) x0 x4 H := (CXM_eq [4, 9, 13, 16, 18, 21, 23, 26] _ _ _ _).trans (by kernel_rfl)
theorem m125_1 {j125_2 dj125_2 : A4} (hj125_2 : L4 j125_2 dj125_2) : L2 (b125_1 j125_2) (b125_1 dj125_2) := fun _ _ _ =>
  bR fun _ => bR fun _ => bR fun _ => bR fun _ => bK (bR fun _ => bR fun _ => bR fun _ => bR fun _ => bR fun _ => bR fun _ => bR fun _ => bR fun _ => le_refl _) (hj125_2 _ _ _ _ _)
noncomputable def rj125_8 : A4 := b125_8
theorem sj125_8 (H0 : Hp) : L4 (rj125_8) (j125_8 H0) := fun _ _ _ _ _ => le_eq (m125_8 _ _ _ _ _) (e125_8 H0 _ _ _ _ _)
noncomputable def rj125_7 : A4 := b125_7 (rj125_8)
theorem sj125_7 (H0 : Hp) : L4 (rj125_7) (j125_7 H0) := fun _ _ _ _ _ => le_eq (m125_7 (sj125_8 H0) _ _ _ _ _) (e125_7 H0 _ _ _ _ _)
noncomputable def rj125_6 : A5 := b125_6 (rj125_7)
theorem sj125_6 (H0 : Hp) : L5 (rj125_6) (j125_6 H0) := fun _ _ _ _ _ _ => le_eq (m125_6 (sj125_7 H0) _ _ _ _ _ _) (e125_6 H0 _ _ _ _ _ _)
noncomputable def rj125_5 : A4 := b125_5 (rj125_6)
theorem sj125_5 (H0 : Hp) : L4 (rj125_5) (j125_5 H0) := fun _ _ _ _ _ => le_eq (m125_5 (sj125_6 H0) _ _ _ _ _) (e125_5 H0 _ _ _ _ _)
noncomputable def rj125_4 : A4 := b125_4 (rj125_5)
theorem sj125_4 (H0 : Hp) : L4 (rj125_4) (j125_4 H0) := fun _ _ _ _ _ => le_eq (m125_4 (sj125_5 H0) _ _ _ _ _) (e125_4 H0 _ _ _ _ _)
noncomputable def rj125_3 : A4 := b125_3 (rj125_4)
theorem sj125_3 (H0 : Hp) : L4 (rj125_3) (j125_3 H0) := fun _ _ _ _ _ => le_eq (m125_3 (sj125_4 H0) _ _ _ _ _) (e125_3 H0 _ _ _ _ _)
noncomputable def rj125_2 : A4 := b125_2 (rj125_3)
theorem sj125_2 (H0 : Hp) : L4 (rj125_2) (j125_2 H0) := fun _ _ _ _ _ => le_eq (m125_2 (sj125_3 H0) _ _ _ _ _) (e125_2 H0 _ _ _ _ _)
noncomputable def rj125_1 : A2 := b125_1 (rj125_2)
theorem sj125_1 (H0 : Hp) : L2 (rj125_1) (j125_1 H0) := fun _ _ _ => le_eq (m125_1 (sj125_2 H0) _ _ _) (e125_1 H0 _ _ _)
noncomputable def bc125 (j125_1 : A2) (p0 : AV) (H : Hp) : Res :=
  bnd (alenD .string p0) fun t14_1 =>
  bnd (ibin .lss t14_1 (.int .i64 1)) fun t16_73 =>
  cnd t16_73
    (some ((.tuple [(.int .i32 65533), (.int .i64 0)]), H))
    (j125_1 p0 t14_1 H)
theorem ec125 (p0 : AV) (H : Hp) : c125 p0 H = bc125 (j125_1 H) p0 H := (callw_cxm (C := cfg) (fn := Tryz.f125) (c := bodyOf Tryz.f125) (n := 117) [4, 9, 13, 16, 18, 21, 23, 26] Tryz.func125 (by kernel_rfl) (by kernel_rfl) [p0] (by kernel_rfl) H).trans (by kernel_rfl)
theorem mc125 {j125_1 dj125_1 : A2} (hj125_1 : L2 j125_1 dj125_1) : L1 (bc125 j125_1) (bc125 dj125_1) := fun _ _ =>
  bR fun _ => bR fun _ => bK (le_refl _) (hj125_1 _ _ _)
noncomputable def rc125 : A1 := fun p0 H => bc125 (rj125_1) p0 H
theorem sc125 : L1 rc125 c125 := fun _ H => le_eq (mc125 (sj125_1 H) _ _) (ec125 _ _)

/-! unicode_utf8_DecodeRuneInString -/
noncomputable def c106 (p0 : AV) (H : Hp) : Res := callw cfg 106 [p0] H
noncomputable def bc106 (c125 : A1) (p0 : AV) (H : Hp) : Res :=
  bnd (sbin .neq p0 (.str [])) fun t5_1 =>
  bnd (gdv t5_1 true (.tuple []) (some p0)) fun t7_2 =>
  bnd (gdv t5_1 true (.tuple []) (aindexStr t7_2 (.int .i64 0))) fun t8_3 =>
  bnd (gdv t5_1 true (.tuple []) (ibin .lss t8_3 (.int .u8 128))) fun t9_4 =>
  bnd (apick t5_1 t9_4 (.bool false)) fun t10_5 =>
  cnd t10_5
    (bnd (aindexStr p0 (.int .i64 0)) fun t12_6 =>
    bnd (cvInt .i32 t12_6) fun t13_7 =>
    some ((.tuple [t13_7, (.int .i64 1)]), H))
    (bnd (c125 p0 H) fun r16_8 =>
    bnd (aext r16_8.1 0) fun t17_9 =>
    bnd (aext r16_8.1 1) fun t18_10 =>
    some ((.tuple [t17_9, t18_10]), r16_8.2))
theorem ec106 (p0 : AV) (H : Hp) : c106 p0 H = bc106 c125 p0 H := (callw_cxm (C := cfg) (fn := Tryz.f106) (c := bodyOf Tryz.f106) (n := 19) [] Tryz.func106 (by kernel_rfl) (by kernel_rfl) [p0] (by kernel_rfl) H).trans (by kernel_rfl)
theorem mc106 {c125 dc125 : A1} (hc125 : L1 c125 dc125) : L1 (bc106 c125) (bc106 dc125) := fun _ _ =>
  bR fun _ => bR fun _ => bR fun _ => bR fun _ => bR fun _ => bK (bR fun _ => bR fun _ => le_refl _) (bC (hc125 _ _) fun _ => bR fun _ => bR fun _ => le_refl _)
noncomputable def rc106 : A1 := fun p0 H => bc106 rc125 p0 H
theorem sc106 : L1 rc106 c106 := fun _ H => le_eq (mc106 sc125 _ _) (ec106 _ _)

/-! unicode_utf8_ValidRune -/
noncomputable def c133 (p0 : AV) (H : Hp) : Res := callw cfg 133 [p0] H
noncomputable def j133_1 (H0 : Hp) (H : Hp) : Res := CXf 133 17 (sub (bodyOf Tryz.f133) [1, 1]) (retL cfg 17 133 Tryz.f133 H0) [] H
noncomputable def b133_1 (H : Hp) : Res :=
  some ((.bool false), H)
theorem e133_1 (H0 : Hp) (H : Hp) : j133_1 H0 H = b133_1 H := (CXM_eq [5] _ _ _ _).trans (by kernel_rfl)
theorem m133_1 : L0 (b133_1) (b133_1) := fun _ =>
  le_refl _
noncomputable def rj133_1 : A0 := b133_1
theorem sj133_1 (H0 : Hp) : L0 (rj133_1) (j133_1 H0) := fun _ => le_eq (m133_1 _) (e133_1 H0 _)
noncomputable def bc133 (j133_1 : A0) (p0 : AV) (H : Hp) : Res :=
  bnd (ibin .leq (.int .i32 0) p0) fun t5_1 =>
  bnd (gdv t5_1 true (.tuple []) (some p0)) fun t7_2 =>
  bnd (gdv t5_1 true (.tuple []) (ibin .lss t7_2 (.int .i32 55296))) fun t8_3 =>
  bnd (apick t5_1 t8_3 (.bool false)) fun t9_4 =>
  cnd t9_4
    (some ((.bool true), H))
    (bnd (ibin .lss (.int .i32 57343) p0) fun t12_5 =>
    bnd (gdv t12_5 true (.tuple []) (some p0)) fun t14_6 =>
    bnd (gdv t12_5 true (.tuple []) (ibin .leq t14_6 (.int .i32 1114111))) fun t15_7 =>
    bnd (apick t12_5 t15_7 (.bool false)) fun t16_8 =>
    cnd t16_8
      (some ((.bool true), H))
      (j133_1 H))
theorem ec133 (p0 : AV) (H : Hp) : c133 p0 H = bc133 (j133_1 H) p0 H := (callw_cxm (C := cfg) (fn := Tryz.f133) (c := bodyOf Tryz.f133) (n := 17) [5] Tryz.func133 (by kernel_rfl) (by kernel_rfl) [p0] (by kernel_rfl) H).trans (by kernel_rfl)
theorem mc133 {j133_1 dj133_1 : A0} (hj133_1 : L0 j133_1 dj133_1) : L1 (bc133 j133_1) (bc133 dj133_1) := fun _ _ =>
  bR fun _ => bR fun _ => bR fun _ => bR fun _ => bK (le_refl _) (bR fun _ => bR fun _ => bR fun _ => bR fun _ => bK (le_refl _) (hj133_1 _))
noncomputable def rc133 : A1 := fun p0 H => bc133 (rj133_1) p0 H
theorem sc133 : L1 rc133 c133 := fun _ H => le_eq (mc133 (sj133_1 H) _ _) (ec133 _ _)

/-! strings_IndexRune -/
noncomputable def c126 (p0 p1 : AV) (H : Hp) : Res := callw cfg 126 [p0, p1] H
noncomputable def j126_1 (H0 : Hp) (H : Hp) : Res := CXf 126 187 (sub (bodyOf Tryz.f126) [1, 0, 1, 1, 1, 0, 1]) (blockL 0 (retL cfg 187 126 Tryz.f126 H0)) [] H
noncomputable def k126_1 (H0 : Hp) : KL := seqL (fun k al H => CXf 126 187 (sub (bodyOf Tryz.f126) [1, 0, 1, 1, 1, 0, 1]) k (trimL (cfg.keep 126) (sub (bodyOf Tryz.f126) [1, 0, 1, 1, 1, 0, 1]) al) H) (blockL 0 (retL cfg 187 126 Tryz.f126 H0))
theorem k126_1_tame (H0 : Hp) : Tame 187 (k126_1 H0) := tame_seq (C := cfg) (kp := cfg.keep 126) (sub (bodyOf Tryz.f126) [1, 0, 1, 1, 1, 0, 1]) (tame_block 0 (tame_ret 126 Tryz.f126 H0))
noncomputable def j126_2 (H0 : Hp) (x175 x176 x177 : AV) (H : Hp) : Res := CXf 126 187 (sub (bodyOf Tryz.f126) [1, 0, 1, 1, 1, 0, 0, 1, 0, 0, 1, 1]) (seqL (fun k al H => LPf 126 187 (sub (bodyOf Tryz.f126) [1, 0, 1, 1, 1, 0, 0, 1, 0, 0]) k (trimL (cfg.keep 126) (sub (bodyOf Tryz.f126) [1, 0, 1, 1, 1, 0, 0, 1, 0, 0]) al) H) (blockL 9 (k126_1 H0))) [(175, x175), (176, x176), (177, x177)] H
noncomputable def j126_l1 (H0 : Hp) (x175 : AV) (H : Hp) : Res := LPf 126 187 (sub (bodyOf Tryz.f126) [1, 0, 1, 1, 1, 0, 0, 1, 0, 0]) (blockL 9 (k126_1 H0)) [(175, x175)] H
noncomputable def b126_1 (H : Hp) : Res :=
  some ((.int .i64 (-1)), H)
theorem e126_1 (H0 : Hp) (H : Hp) : j126_1 H0 H = b126_1 H := (CXM_eq [39, 42] _ _ _ _).trans (by kernel_rfl)
theorem m126_1 : L0 (b126_1) (b126_1) := fun _ =>
  le_refl _
noncomputable def b126_2 (j126_l1 : A1) (x175 x176 x177 : AV) (H : Hp) : Res :=
  bnd (aext x176 1) fun t178_11 =>
  bnd (aext x176 2) fun t179_12 =>
  bnd (ibin .eql t179_12 (.int .i32 65533)) fun t181_13 =>
  cnd t181_13
    (some (t178_11, H))
    (j126_l1 x175 H)
theorem e126_2 (H0 : Hp) (x175 x176 x177 : AV) (H : Hp) : j126_2 H0 x175 x176 x177 H = b126_2 (j126_l1 H0) x175 x176 x177 H := (CXM_eq [39, 42] _ _ _ _).trans (by kernel_rfl)
theorem m126_2 {j126_l1 dj126_l1 : A1} (hj126_l1 : L1 j126_l1 dj126_l1) : L3 (b126_2 j126_l1) (b126_2 dj126_l1) := fun _ _ _ _ =>
  bR fun _ => bR fun _ => bR fun _ => bK (le_refl _) (hj126_l1 _ _)
noncomputable def b126_l1 (j126_1 : A0) (j126_2 : A3) (x175 : AV) (H : Hp) : Res :=
  bnd ((none : Option AV)) fun t176_9 =>
  bnd (aext t176_9 0) fun t177_10 =>
  cnd t177_10
    (j126_2 x175 t176_9 t177_10 H)
    (j126_1 H)
theorem e126_l1 (H0 : Hp) (x175 : AV) (H : Hp) : j126_l1 H0 x175 H = b126_l1 (j126_1 H0) (j126_2 H0) x175 H := (LPL_eqm (C := cfg) [39, 42] (tame_block 9 (k126_1_tame H0)) _ _).trans (by kernel_rfl)
theorem m126_l1 {j126_1 dj126_1 : A0} (hj126_1 : L0 j126_1 dj126_1) {j126_2 dj126_2 : A3} (hj126_2 : L3 j126_2 dj126_2) : L1 (b126_l1 j126_1 j126_2) (b126_l1 dj126_1 dj126_2) := fun _ _ =>
  bR fun _ => bR fun _ => bK (hj126_2 _ _ _ _) (hj126_1 _)
noncomputable def rj126_1 : A0 := b126_1
theorem sj126_1 (H0 : Hp) : L0 (rj126_1) (j126_1 H0) := fun _ => le_eq (m126_1 _) (e126_1 H0 _)
noncomputable def rj126_2 (j126_l1 : A1) : A3 := b126_2 j126_l1
theorem sj126_2 (H0 : Hp) {yj126_l1 : A1} (hj126_l1 : L1 yj126_l1 (j126_l1 H0)) : L3 (rj126_2 yj126_l1) (j126_2 H0) := fun _ _ _ _ => le_eq (m126_2 hj126_l1 _ _ _ _) (e126_2 H0 _ _ _ _)
noncomputable def rj126_l1 (n : Nat) : A1 := @Nat.rec (fun _ => A1) (fun _ _ => none) (fun _ j126_l1 => b126_l1 (rj126_1) (rj126_2 j126_l1)) n
theorem sj126_l1 (H0 : Hp) (n : Nat) : L1 (rj126_l1 n) (j126_l1 H0) := by
  induction n with
  | zero => exact fun _ _ => le_none _
  | succ n hj126_l1 => exact fun _ _ => le_eq (m126_l1 (sj126_1 H0) (sj126_2 H0 hj126_l1) _ _) (e126_l1 H0 _ _)
noncomputable def bc126 (c133 : A1) (c52 : A2) (j126_l1 : A1) (p0 p1 : AV) (H : Hp) : Res :=
  bnd (ibin .leq (.int .i32 0) p1) fun t162_1 =>
  bnd (gdv t162_1 true (.tuple []) (some p1)) fun t164_2 =>
  bnd (gdv t162_1 true (.tuple []) (ibin .lss t164_2 (.int .i32 128))) fun t165_3 =>
  bnd (apick t162_1 t165_3 (.bool false)) fun t166_4 =>
  cnd t166_4
    (bnd (cvInt .u8 p1) fun t169_5 =>
    bnd (c52 p0 t169_5 H) fun r170_6 =>
    some (r170_6.1, r170_6.2))
    (bnd (ibin .eql p1 (.int .i32 65533)) fun t173_7 =>
    cnd t173_7
      (bnd ((none : Option AV)) fun t175_8 =>
      j126_l1 t175_8 H)
      (bnd (c133 p1 H) fun r185_14 =>
      bnd (aun .not r185_14.1) fun t186_15 =>
      cnd t186_15
        (some ((.int .i64 (-1)), r185_14.2))
        (none)))
theorem ec126 (p0 p1 : AV) (H : Hp) : c126 p0 p1 H = bc126 c133 c52 (j126_l1 H) p0 p1 H := (callw_cxm (C := cfg) (fn := Tryz.f126) (c := bodyOf Tryz.f126) (n := 187) [39, 42] Tryz.func126 (by kernel_rfl) (by kernel_rfl) [p0, p1] (by kernel_rfl) H).trans (by kernel_rfl)
theorem mc126 {c133 dc133 : A1} (hc133 : L1 c133 dc133) {c52 dc52 : A2} (hc52 : L2 c52 dc52) {j126_l1 dj126_l1 : A1} (hj126_l1 : L1 j126_l1 dj126_l1) : L2 (bc126 c133 c52 j126_l1) (bc126 dc133 dc52 dj126_l1) := fun _ _ _ =>
  bR fun _ => bR fun _ => bR fun _ => bR fun _ => bK (bR fun _ => bC (hc52 _ _ _) fun _ => le_refl _) (bR fun _ => bK (bR fun _ => hj126_l1 _ _) (bC (hc133 _ _) fun _ => bR fun _ => bK (le_refl _) (le_refl _)))
noncomputable def rc126 : A2 := fun p0 p1 H => bc126 rc133 rc52 (rj126_l1 100000) p0 p1 H
theorem sc126 : L2 rc126 c126 := fun _ _ H => le_eq (mc126 sc133 sc52 (sj126_l1 H 100000) _ _ _) (ec126 _ _ _)

/-! strings_ContainsRune -/
noncomputable def c107 (p0 p1 : AV) (H : Hp) : Res := callw cfg 107 [p0, p1] H
noncomputable def bc107 (c126 : A2) (p0 p1 : AV) (H : Hp) : Res :=
  bnd (c126 p0 p1 H) fun r7_1 =>
  bnd (ibin .geq r7_1.1 (.int .i64 0)) fun t8_2 =>
  some (t8_2, r7_1.2)
theorem ec107 (p0 p1 : AV) (H : Hp) : c107 p0 p1 H = bc107 c126 p0 p1 H := (callw_cxm (C := cfg) (fn := Tryz.f107) (c := bodyOf Tryz.f107) (n := 9) [] Tryz.func107 (by kernel_rfl) (by kernel_rfl) [p0, p1] (by kernel_rfl) H).trans (by kernel_rfl)
theorem mc107 {c126 dc126 : A2} (hc126 : L2 c126 dc126) : L2 (bc107 c126) (bc107 dc126) := fun _ _ _ =>
  bC (hc126 _ _ _) fun _ => bR fun _ => le_refl _
noncomputable def rc107 : A2 := fun p0 p1 H => bc107 rc126 p0 p1 H
theorem sc107 : L2 rc107 c107 := fun _ _ H => le_eq (mc107 sc126 _ _ _) (ec107 _ _ _)

/-! strings_trimLeftUnicode -/
noncomputable def c86 (p0 p1 : AV) (H : Hp) : Res := callw cfg 86 [p0, p1] H
noncomputable def j86_1 (H0 : Hp) (x0 : AV) (H : Hp) : Res := CXf 86 23 (sub (bodyOf Tryz.f86) [1, 1]) (retL cfg 23 86 Tryz.f86 H0) [(0, x0)] H
noncomputable def k86_1 (H0 : Hp) : KL := seqL (fun k al H => CXf 86 23 (sub (bodyOf Tryz.f86) [1, 1]) k (trimL (cfg.keep 86) (sub (bodyOf Tryz.f86) [1, 1]) al) H) (retL cfg 23 86 Tryz.f86 H0)
theorem k86_1_tame (H0 : Hp) : Tame 23 (k86_1 H0) := tame_seq (C := cfg) (kp := cfg.keep 86) (sub (bodyOf Tryz.f86) [1, 1]) (tame_ret 86 Tryz.f86 H0)
noncomputable def j86_3 (H0 : Hp) (x0 x1 x6 : AV) (H : Hp) : Res := CXf 86 23 (sub (bodyOf Tryz.f86) [1, 0, 0, 0, 1, 0, 1, 1]) (blockL 1 (seqL (fun k al H => LPf 86 23 (sub (bodyOf Tryz.f86) [1, 0, 0, 0]) k (trimL (cfg.keep 86) (sub (bodyOf Tryz.f86) [1, 0, 0, 0]) al) H) (blockL 0 (k86_1 H0)))) [(0, x0), (1, x1), (6, x6)] H
noncomputable def j86_2 (H0 : Hp) (x0 x1 : AV) (H : Hp) : Res := CXf 86 23 (sub (bodyOf Tryz.f86) [1, 0, 0, 0, 1]) (seqL (fun k al H => LPf 86 23 (sub (bodyOf Tryz.f86) [1, 0, 0, 0]) k (trimL (cfg.keep 86) (sub (bodyOf Tryz.f86) [1, 0, 0, 0]) al) H) (blockL 0 (k86_1 H0))) [(0, x0), (1, x1)] H
noncomputable def j86_l1 (H0 : Hp) (x0 x1 : AV) (H : Hp) : Res := LPf 86 23 (sub (bodyOf Tryz.f86) [1, 0, 0, 0]) (blockL 0 (k86_1 H0)) [(0, x0), (1, x1)] H
noncomputable def b86_1 (x0 : AV) (H : Hp) : Res :=
  some (x0, H)
theorem e86_1 (H0 : Hp) (x0 : AV) (H : Hp) : j86_1 H0 x0 H = b86_1 x0 H := (CXM_eq [2, 4, 5] _ _ _ _).trans (by kernel_rfl)
theorem m86_1 : L1 (b86_1) (b86_1) := fun _ _ =>
  le_refl _
noncomputable def b86_3 (j86_l1 : A2) (x0 x1 x6 : AV) (H : Hp) : Res :=
  bnd (asliceS x0 (some x6) none none) fun t21_4 =>
  j86_l1 t21_4 x1 H
theorem e86_3 (H0 : Hp) (x0 x1 x6 : AV) (H : Hp) : j86_3 H0 x0 x1 x6 H = b86_3 (j86_l1 H0) x0 x1 x6 H := (CXM_eq [2, 4, 5] _ _ _ _).trans (by kernel_rfl)
theorem m86_3 {j86_l1 dj86_l1 : A2} (hj86_l1 : L2 j86_l1 dj86_l1) : L3 (b86_3 j86_l1) (b86_3 dj86_l1) := fun _ _ _ _ =>
  bR fun _ => hj86_l1 _ _ _
noncomputable def b86_2 (c106 : A1) (c107 : A2) (j86_1 : A1) (j86_3 : A3) (x0 x1 : AV) (H : Hp) : Res :=
  bnd (c106 x0 H) fun r12_1 =>
  bnd (aext r12_1.1 0) fun t13_2 =>
  bnd (aext r12_1.1 1) fun t14_3 =>
  bnd (c107 x1 t13_2 r12_1.2) fun r17_5 =>
  bnd (aun .not r17_5.1) fun t18_6 =>
  cnd t18_6
    (j86_1 x0 r17_5.2)
    (j86_3 x0 x1 t14_3 r17_5.2)
theorem e86_2 (H0 : Hp) (x0 x1 : AV) (H : Hp) : j86_2 H0 x0 x1 H = b86_2 c106 c107 (j86_1 H0) (j86_3 H0) x0 x1 H := (CXM_eq [2, 4, 5] _ _ _ _).trans (by kernel_rfl)
theorem m86_2 {c106 dc106 : A1} (hc106 : L1 c106 dc106) {c107 dc107 : A2} (hc107 : L2 c107 dc107) {j86_1 dj86_1 : A1} (hj86_1 : L1 j86_1 dj86_1) {j86_3 dj86_3 : A3} (hj86_3 : L3 j86_3 dj86_3) : L2 (b86_2 c106 c107 j86_1 j86_3) (b86_2 dc106 dc107 dj86_1 dj86_3) := fun _ _ _ =>
  bC (hc106 _ _) fun _ => bR fun _ => bR fun _ => bC (hc107 _ _ _) fun _ => bR fun _ => bK (hj86_1 _ _) (hj86_3 _ _ _ _)
noncomputable def b86_l1 (j86_1 : A1) (j86_2 : A2) (x0 x1 : AV) (H : Hp) : Res :=
  bnd (alenD .string x0) fun t8_7 =>
  bnd (ibin .gtr t8_7 (.int .i64 0)) fun t9_8 =>
  cnd t9_8
    (j86_2 x0 x1 H)
    (j86_1 x0 H)
theorem e86_l1 (H0 : Hp) (x0 x1 : AV) (H : Hp) : j86_l1 H0 x0 x1 H = b86_l1 (j86_1 H0) (j86_2 H0) x0 x1 H := (LPL_eqm (C := cfg) [2, 4, 5] (tame_block 0 (k86_1_tame H0)) _ _).trans (by kernel_rfl)
theorem m86_l1 {j86_1 dj86_1 : A1} (hj86_1 : L1 j86_1 dj86_1) {j86_2 dj86_2 : A2} (hj86_2 : L2 j86_2 dj86_2) : L2 (b86_l1 j86_1 j86_2) (b86_l1 dj86_1 dj86_2) := fun _ _ _ =>
  bR fun _ => bR fun _ => bK (hj86_2 _ _ _) (hj86_1 _ _)
noncomputable def rj86_1 : A1 := b86_1
theorem sj86_1 (H0 : Hp) : L1 (rj86_1) (j86_1 H0) := fun _ _ => le_eq (m86_1 _ _) (e86_1 H0 _ _)
noncomputable def rj86_3 (j86_l1 : A2) : A3 := b86_3 j86_l1
theorem sj86_3 (H0 : Hp) {yj86_l1 : A2} (hj86_l1 : L2 yj86_l1 (j86_l1 H0)) : L3 (rj86_3 yj86_l1) (j86_3 H0) := fun _ _ _ _ => le_eq (m86_3 hj86_l1 _ _ _ _) (e86_3 H0 _ _ _ _)
noncomputable def rj86_2 (j86_l1 : A2) : A2 := b86_2 rc106 rc107 (rj86_1) (rj86_3 j86_l1)
theorem sj86_2 (H0 : Hp) {yj86_l1 : A2} (hj86_l1 : L2 yj86_l1 (j86_l1 H0)) : L2 (rj86_2 yj86_l1) (j86_2 H0) := fun _ _ _ => le_eq (m86_2 sc106 sc107 (sj86_1 H0) (sj86_3 H0 hj86_l1) _ _ _) (e86_2 H0 _ _ _)
noncomputable def rj86_l1 (n : Nat) : A2 := @Nat.rec (fun _ => A2) (fun _ _ _ => none) (fun _ j86_l1 => b86_l1 (rj86_1) (rj86_2 j86_l1)) n
theorem sj86_l1 (H0 : Hp) (n : Nat) : L2 (rj86_l1 n) (j86_l1 H0) := by
  induction n with
  | zero => exact fun _ _ _ => le_none _
  | succ n hj86_l1 => exact fun _ _ _ => le_eq (m86_l1 (sj86_1 H0) (sj86_2 H0 hj86_l1) _ _ _) (e86_l1 H0 _ _ _)
noncomputable def bc86 (j86_l1 : A2) (p0 p1 : AV) (H : Hp) : Res :=
  j86_l1 p0 p1 H
theorem ec86 (p0 p1 : AV) (H : Hp) : c86 p0 p1 H = bc86 (j86_l1 H) p0 p1 H := (callw_cxm (C := cfg) (fn := Tryz.f86) (c := bodyOf Tryz.f86) (n := 23) [2, 4, 5] Tryz.func86 (by kernel_rfl) (by kernel_rfl) [p0, p1] (by kernel_rfl) H).trans (by kernel_rfl)
theorem mc86 {j86_l1 dj86_l1 : A2} (hj86_l1 : L2 j86_l1 dj86_l1) : L2 (bc86 j86_l1) (bc86 dj86_l1) := fun _ _ _ =>
  hj86_l1 _ _ _
noncomputable def rc86 : A2 := fun p0 p1 H => bc86 (rj86_l1 100000) p0 p1 H
theorem sc86 : L2 rc86 c86 := fun _ _ H => le_eq (mc86 (sj86_l1 H 100000) _ _ _) (ec86 _ _ _)

/-! strings_TrimLeft -/
noncomputable def c59 (p0 p1 : AV) (H : Hp) : Res := callw cfg 59 [p0, p1] H
noncomputable def j59_3 (H0 : Hp) (x0 x1 : AV) (H : Hp) : Res := CXf 59 37 (sub (bodyOf Tryz.f59) [1, 1, 1, 1]) (retL cfg 37 59 Tryz.f59 H0) [(0, x0), (1, x1)] H
noncomputable def j59_2 (H0 : Hp) (x0 x1 : AV) (H : Hp) : Res := CXf 59 37 (sub (bodyOf Tryz.f59) [1, 1, 1]) (retL cfg 37 59 Tryz.f59 H0) [(0, x0), (1, x1)] H
noncomputable def j59_1 (H0 : Hp) (x0 x1 : AV) (H : Hp) : Res := CXf 59 37 (sub (bodyOf Tryz.f59) [1, 1]) (retL cfg 37 59 Tryz.f59 H0) [(0, x0), (1, x1)] H
noncomputable def b59_3 (c86 : A2) (x0 x1 : AV) (H : Hp) : Res :=
  bnd (c86 x0 x1 H) fun r36_1 =>
  some (r36_1.1, r36_1.2)
theorem e59_3 (H0 : Hp) (x0 x1 : AV) (H : Hp) : j59_3 H0 x0 x1 H = b59_3 c86 x0 x1 H := (CXM_eq [3, 5, 8] _ _ _ _).trans (by kernel_rfl)
theorem m59_3 {c86 dc86 : A2} (hc86 : L2 c86 dc86) : L2 (b59_3 c86) (b59_3 dc86) := fun _ _ _ =>
  bC (hc86 _ _ _) fun _ => le_refl _
noncomputable def b59_2 (c84 : A1) (c85 : A2) (j59_3 : A2) (x0 x1 : AV) (H : Hp) : Res :=
  bnd (c84 x1 H) fun r28_2 =>
  bnd (aext r28_2.1 0) fun t29_3 =>
  bnd (aext r28_2.1 1) fun t30_4 =>
  bnd (some ((.ptr r28_2.2.length 0), r28_2.2 ++ [.cells [(.bool false), (.bool false), (.bool false), (.bool false), (.bool false), (.bool false), (.bool false), (.bool false), (.bool false), (.bool false), (.bool false), (.bool false), (.bool false), (.bool false), (.bool false), (.bool false), (.bool false), (.bool false), (.bool false), (.bool false), (.bool false), (.bool false), (.bool false), (.bool false), (.bool false), (.bool false), (.bool false), (.bool false), (.bool false), (.bool false), (.bool false), (.bool false), (.bool false), (.bool false), (.bool false), (.bool false), (.bool false), (.bool false), (.bool false), (.bool false), (.bool false), (.bool false), (.bool false), (.bool false), (.bool false), (.bool false), (.bool false), (.bool false), (.bool false), (.bool false), (.bool false), (.bool false), (.bool false), (.bool false), (.bool false), (.bool false), (.bool false), (.bool false), (.bool false), (.bool false), (.bool false), (.bool false), (.bool false), (.bool false), (.bool false), (.bool false), (.bool false), (.bool false), (.bool false), (.bool false), (.bool false), (.bool false), (.bool false), (.bool false), (.bool false), (.bool false), (.bool false), (.bool false), (.bool false), (.bool false), (.bool false), (.bool false), (.bool false), (.bool false), (.bool false), (.bool false), (.bool false), (.bool false), (.bool false), (.bool false), (.bool false), (.bool false), (.bool false), (.bool false), (.bool false), (.bool false), (.bool false), (.bool false), (.bool false), (.bool false), (.bool false), (.bool false), (.bool false), (.bool false), (.bool false), (.bool false), (.bool false), (.bool false), (.bool false), (.bool false), (.bool false), (.bool false), (.bool false), (.bool false), (.bool false), (.bool false), (.bool false), (.bool false), (.bool false), (.bool false), (.bool false), (.bool false), (.bool false), (.bool false), (.bool false), (.bool false), (.bool false), (.bool false), (.bool false), (.bool false), (.bool false), (.bool false), (.bool false), (.bool false), (.bool false), (.bool false), (.bool false), (.bool false), (.bool false), (.bool false), (.bool false), (.bool false), (.bool false), (.bool false), (.bool false), (.bool false), (.bool false), (.bool false), (.bool false), (.bool false), (.bool false), (.bool false), (.bool false), (.bool false), (.bool false), (.bool false), (.bool false), (.bool false), (.bool false), (.bool false), (.bool false), (.bool false), (.bool false), (.bool false), (.bool false), (.bool false), (.bool false), (.bool false), (.bool false), (.bool false), (.bool false), (.bool false), (.bool false), (.bool false), (.bool false), (.bool false), (.bool false), (.bool false), (.bool false), (.bool false), (.bool false), (.bool false), (.bool false), (.bool false), (.bool false), (.bool false), (.bool false), (.bool false), (.bool false), (.bool false), (.bool false), (.bool false), (.bool false), (.bool false), (.bool false), (.bool false), (.bool false), (.bool false), (.bool false), (.bool false), (.bool false), (.bool false), (.bool false), (.bool false), (.bool false), (.bool false), (.bool false), (.bool false), (.bool false), (.bool false), (.bool false), (.bool false), (.bool false), (.bool false), (.bool false), (.bool false), (.bool false), (.bool false), (.bool false), (.bool false), (.bool false), (.bool false), (.bool false), (.bool false), (.bool false), (.bool false), (.bool false), (.bool false), (.bool false), (.bool false), (.bool false), (.bool false), (.bool false), (.bool false), (.bool false), (.bool false), (.bool false), (.bool false), (.bool false), (.bool false), (.bool false), (.bool false), (.bool false), (.bool false), (.bool false), (.bool false), (.bool false), (.bool false), (.bool false), (.bool false), (.bool false), (.bool false), (.bool false), (.bool false), (.bool false), (.bool false)]])) fun r5_5 =>
  bnd (astoreU 256 r5_5.1 t29_3 r5_5.2) fun r_6 =>
  cnd t30_4
    (bnd (c85 x0 r5_5.1 r_6.2) fun r33_7 =>
    some (r33_7.1, r33_7.2))
    (j59_3 x0 x1 r_6.2)
theorem e59_2 (H0 : Hp) (x0 x1 : AV) (H : Hp) : j59_2 H0 x0 x1 H = b59_2 c84 c85 (j59_3 H0) x0 x1 H := (CXM_eq [3, 5, 8] _ _ _ _).trans (by kernel_rfl)
theorem m59_2 {c84 dc84 : A1} (hc84 : L1 c84 dc84) {c85 dc85 : A2} (hc85 : L2 c85 dc85) {j59_3 dj59_3 : A2} (hj59_3 : L2 j59_3 dj59_3) : L2 (b59_2 c84 c85 j59_3) (b59_2 dc84 dc85 dj59_3) := fun _ _ _ =>
  bC (hc84 _ _) fun _ => bR fun _ => bR fun _ => bR fun _ => bR fun _ => bK (bC (hc85 _ _ _) fun _ => le_refl _) (hj59_3 _ _ _)
noncomputable def b59_1 (c83 : A2) (j59_2 : A2) (x0 x1 : AV) (H : Hp) : Res :=
  bnd (alenD .string x1) fun t15_8 =>
  bnd (ibin .eql t15_8 (.int .i64 1)) fun t16_9 =>
  bnd (gdv t16_9 true (.tuple []) (some x1)) fun t18_10 =>
  bnd (gdv t16_9 true (.tuple []) (aindexStr t18_10 (.int .i64 0))) fun t19_11 =>
  bnd (gdv t16_9 true (.tuple []) (ibin .lss t19_11 (.int .u8 128))) fun t20_12 =>
  bnd (apick t16_9 t20_12 (.bool false)) fun t21_13 =>
  cnd t21_13
    (bnd (aindexStr x1 (.int .i64 0)) fun t24_14 =>
    bnd (c83 x0 t24_14 H) fun r25_15 =>
    some (r25_15.1, r25_15.2))
    (j59_2 x0 x1 H)
theorem e59_1 (H0 : Hp) (x0 x1 : AV) (H : Hp) : j59_1 H0 x0 x1 H = b59_1 c83 (j59_2 H0) x0 x1 H := (CXM_eq [3, 5, 8] _ _ _ _).trans (by kernel_rfl)
theorem m59_1 {c83 dc83 : A2} (hc83 : L2 c83 dc83) {j59_2 dj59_2 : A2} (hj59_2 : L2 j59_2 dj59_2) : L2 (b59_1 c83 j59_2) (b59_1 dc83 dj59_2) := fun _ _ _ =>
  bR fun _ => bR fun _ => bR fun _ => bR fun _ => bR fun _ => bR fun _ => bK (bR fun _ => bC (hc83 _ _ _) fun _ => le_refl _) (hj59_2 _ _ _)
noncomputable def rj59_3 : A2 := b59_3 rc86
theorem sj59_3 (H0 : Hp) : L2 (rj59_3) (j59_3 H0) := fun _ _ _ => le_eq (m59_3 sc86 _ _ _) (e59_3 H0 _ _ _)
noncomputable def rj59_2 : A2 := b59_2 rc84 rc85 (rj59_3)
theorem sj59_2 (H0 : Hp) : L2 (rj59_2) (j59_2 H0) := fun _ _ _ => le_eq (m59_2 sc84 sc85 (sj59_3 H0) _ _ _) (e59_2 H0 _ _ _)
noncomputable def rj59_1 : A2 := b59_1 rc83 (rj59_2)
theorem sj59_1 (H0 : Hp) : L2 (rj59_1) (j59_1 H0) := fun _ _ _ => le_eq (m59_1 sc83 (sj59_2 H0) _ _ _) (e59_1 H0 _ _ _)
noncomputable def bc59 (j59_1 : A2) (p0 p1 : AV) (H : Hp) : Res :=
  bnd (sbin .eql p0 (.str [])) fun t8_16 =>
  bnd (gdv t8_16 false (.tuple []) (some p1)) fun t10_17 =>
  bnd (gdv t8_16 false (.tuple []) (sbin .eql t10_17 (.str []))) fun t11_18 =>
  bnd (apick t8_16 (.bool true) t11_18) fun t12_19 =>
  cnd t12_19
    (some (p0, H))
    (j59_1 p0 p1 H)
theorem ec59 (p0 p1 : AV) (H : Hp) : c59 p0 p1 H = bc59 (j59_1 H) p0 p1 H := (callw_cxm (C := cfg) (fn := Tryz.f59) (c := bodyOf Tryz.f59) (n := 37) [3, 5, 8] Tryz.func59 (by kernel_rfl) (by kernel_rfl) [p0, p1] (by kernel_rfl) H).trans (by kernel_rfl)
theorem mc59 {j59_1 dj59_1 : A2} (hj59_1 : L2 j59_1 dj59_1) : L2 (bc59 j59_1) (bc59 dj59_1) := fun _ _ _ =>
  bR fun _ => bR fun _ => bR fun _ => bR fun _ => bK (le_refl _) (hj59_1 _ _ _)
noncomputable def rc59 : A2 := fun p0 p1 H => bc59 (rj59_1) p0 p1 H
theorem sc59 : L2 rc59 c59 := fun _ _ H => le_eq (mc59 (sj59_1 H) _ _ _) (ec59 _ _ _)

/-! sortkey_parts_2 -/
noncomputable def c58 (p0 : AV) (H : Hp) : Res := callw cfg 58 [p0] H
noncomputable def bc58 (c59 : A2) (p0 : AV) (H : Hp) : Res :=
  bnd (c59 p0 (.str [32, 9]) H) fun r4_1 =>
  some (r4_1.1, r4_1.2)
theorem ec58 (p0 : AV) (H : Hp) : c58 p0 H = bc58 c59 p0 H := (callw_cxm (C := cfg) (fn := Tryz.f58) (c := bodyOf Tryz.f58) (n := 5) [] Tryz.func58 (by kernel_rfl) (by kernel_rfl) [p0] (by kernel_rfl) H).trans (by kernel_rfl)
theorem mc58 {c59 dc59 : A2} (hc59 : L2 c59 dc59) : L1 (bc58 c59) (bc58 dc59) := fun _ _ =>
  bC (hc59 _ _ _) fun _ => le_refl _
noncomputable def rc58 : A1 := fun p0 H => bc58 rc59 p0 H
theorem sc58 : L1 rc58 c58 := fun _ H => le_eq (mc58 sc59 _ _) (ec58 _ _)

/-! strings_Builder_copyCheck -/
noncomputable def c108 (p0 : AV) (H : Hp) : Res := callw cfg 108 [p0] H
noncomputable def bc108 (p0 : AV) (H : Hp) : Res :=
  bnd (anil p0) fun t3_1 =>
  bnd (afield 0 t3_1) fun t4_2 =>
  bnd (aload false 1 t4_2 H) fun t5_3 =>
  bnd (ebin (.pointer 111) .eql t5_3 .nilp) fun t6_4 =>
  cnd t6_4
    (bnd ((none : Option AV)) fun t9_5 =>
    bnd (extC .same [t9_5] H) fun r10_6 =>
    bnd ((none : Option AV)) fun t11_7 =>
    bnd (anil p0) fun t12_8 =>
    bnd (afield 0 t12_8) fun t13_9 =>
    bnd (astoreU 1 t13_9 t11_7 r10_6.2) fun r_10 =>
    some ((.tuple []), r_10.2))
    (bnd (anil p0) fun t15_11 =>
    bnd (afield 0 t15_11) fun t16_12 =>
    bnd (aload false 1 t16_12 H) fun t17_13 =>
    bnd (ebin (.pointer 111) .neq t17_13 p0) fun t19_14 =>
    cnd t19_14
      (none)
      (some ((.tuple []), H)))
theorem ec108 (p0 : AV) (H : Hp) : c108 p0 H = bc108 p0 H := (callw_cxm (C := cfg) (fn := Tryz.f108) (c := bodyOf Tryz.f108) (n := 20) [] Tryz.func108 (by kernel_rfl) (by kernel_rfl) [p0] (by kernel_rfl) H).trans (by kernel_rfl)
theorem mc108 : L1 (bc108) (bc108) := fun _ _ =>
  bR fun _ => bR fun _ => bR fun _ => bR fun _ => bK (bR fun _ => bR fun _ => bR fun _ => bR fun _ => bR fun _ => bR fun _ => le_refl _) (bR fun _ => bR fun _ => bR fun _ => bR fun _ => bK (le_refl _) (le_refl _))
noncomputable def rc108 : A1 := fun p0 H => bc108 p0 H
theorem sc108 : L1 rc108 c108 := fun _ H => le_eq (mc108 _ _) (ec108 _ _)

/-! strings_Builder_WriteByte -/
noncomputable def c87 (p0 p1 : AV) (H : Hp) : Res := callw cfg 87 [p0, p1] H
noncomputable def bc87 (c108 : A1) (p0 p1 : AV) (H : Hp) : Res :=
  bnd (c108 p0 H) fun r6_1 =>
  bnd (anil p0) fun t9_2 =>
  bnd (afield 1 t9_2) fun t10_3 =>
  bnd (aload false 1 t10_3 r6_1.2) fun t11_4 =>
  bnd ((setElems 1 [(0, p1)] [(.int .u8 0)]).map (.vs 1 .clip)) fun t13_5 =>
  bnd (aappE 1 1 t11_4 t13_5 r6_1.2) fun r14_6 =>
  bnd (anil p0) fun t15_7 =>
  bnd (afield 1 t15_7) fun t16_8 =>
  bnd (astoreU 1 t16_8 r14_6.1 r14_6.2) fun r_9 =>
  some (.nili, r_9.2)
theorem ec87 (p0 p1 : AV) (H : Hp) : c87 p0 p1 H = bc87 c108 p0 p1 H := (callw_cxm (C := cfg) (fn := Tryz.f87) (c := bodyOf Tryz.f87) (n := 17) [] Tryz.func87 (by kernel_rfl) (by kernel_rfl) [p0, p1] (by kernel_rfl) H).trans (by kernel_rfl)
theorem mc87 {c108 dc108 : A1} (hc108 : L1 c108 dc108) : L2 (bc87 c108) (bc87 dc108) := fun _ _ _ =>
  bC (hc108 _ _) fun _ => bR fun _ => bR fun _ => bR fun _ => bR fun _ => bR fun _ => bR fun _ => bR fun _ => bR fun _ => le_refl _
noncomputable def rc87 : A2 := fun p0 p1 H => bc87 rc108 p0 p1 H
theorem sc87 : L2 rc87 c87 := fun _ _ H => le_eq (mc87 sc108 _ _ _) (ec87 _ _ _)

/-! strings_Builder_String -/
noncomputable def c88 (p0 : AV) (H : Hp) : Res := callw cfg 88 [p0] H
noncomputable def bc88 (p0 : AV) (H : Hp) : Res :=
  bnd (anil p0) fun t4_1 =>
  bnd (afield 1 t4_1) fun t5_2 =>
  bnd (aload false 1 t5_2 H) fun t6_3 =>
  bnd ((none : Option AV)) fun t7_4 =>
  bnd (anil p0) fun t9_5 =>
  bnd (afield 1 t9_5) fun t10_6 =>
  bnd (aloadv false 1 t10_6) fun t11_7 =>
  bnd (alenD (.slice 5) t11_7) fun t12_8 =>
  bnd ((none : Option AV)) fun t13_9 =>
  some (t13_9, H)
theorem ec88 (p0 : AV) (H : Hp) : c88 p0 H = bc88 p0 H := (callw_cxm (C := cfg) (fn := Tryz.f88) (c := bodyOf Tryz.f88) (n := 14) [] Tryz.func88 (by kernel_rfl) (by kernel_rfl) [p0] (by kernel_rfl) H).trans (by kernel_rfl)
theorem mc88 : L1 (bc88) (bc88) := fun _ _ =>
  bR fun _ => bR fun _ => bR fun _ => bR fun _ => bR fun _ => bR fun _ => bR fun _ => bR fun _ => bR fun _ => le_refl _
noncomputable def rc88 : A1 := fun p0 H => bc88 p0 H
theorem sc88 : L1 rc88 c88 := fun _ H => le_eq (mc88 _ _) (ec88 _ _)

/-! sortkey_dict -/
noncomputable def c60 (p0 : AV) (H : Hp) : Res := callw cfg 60 [p0] H
noncomputable def j60_1 (H0 : Hp) (x3 : AV) (H : Hp) : Res := CXf 60 44 (sub (bodyOf Tryz.f60) [1, 1, 1]) (retL cfg 44 60 Tryz.f60 H0) [(3, x3)] H
noncomputable def k60_1 (H0 : Hp) : KL := seqL (fun k al H => CXf 60 44 (sub (bodyOf Tryz.f60) [1, 1, 1]) k (trimL (cfg.keep 60) (sub (bodyOf Tryz.f60) [1, 1, 1]) al) H) (retL cfg 44 60 Tryz.f60 H0)
theorem k60_1_tame (H0 : Hp) : Tame 44 (k60_1 H0) := tame_seq (C := cfg) (kp := cfg.keep 60) (sub (bodyOf Tryz.f60) [1, 1, 1]) (tame_ret 60 Tryz.f60 H0)
noncomputable def j60_3 (H0 : Hp) (x0 x3 x7 x8 : AV) (H : Hp) : Res := CXf 60 44 (sub (bodyOf Tryz.f60) [1, 1, 0, 1, 0, 0, 1, 1, 1]) (seqL (fun k al H => LPf 60 44 (sub (bodyOf Tryz.f60) [1, 1, 0, 1, 0, 0]) k (trimL (cfg.keep 60) (sub (bodyOf Tryz.f60) [1, 1, 0, 1, 0, 0]) al) H) (blockL 0 (k60_1 H0))) [(0, x0), (3, x3), (7, x7), (8, x8)] H
noncomputable def j60_2 (H0 : Hp) (x0 x3 x7 x8 x9 : AV) (H : Hp) : Res := CXf 60 44 (sub (bodyOf Tryz.f60) [1, 1, 0, 1, 0, 0, 1, 1]) (seqL (fun k al H => LPf 60 44 (sub (bodyOf Tryz.f60) [1, 1, 0, 1, 0, 0]) k (trimL (cfg.keep 60) (sub (bodyOf Tryz.f60) [1, 1, 0, 1, 0, 0]) al) H) (blockL 0 (k60_1 H0))) [(0, x0), (3, x3), (7, x7), (8, x8), (9, x9)] H
noncomputable def j60_l1 (H0 : Hp) (x0 x3 x7 x8 : AV) (H : Hp) : Res := LPf 60 44 (sub (bodyOf Tryz.f60) [1, 1, 0, 1, 0, 0]) (blockL 0 (k60_1 H0)) [(0, x0), (3, x3), (7, x7), (8, x8)] H
noncomputable def b60_1 (c88 : A1) (x3 : AV) (H : Hp) : Res :=
  bnd (c88 x3 H) fun r43_2 =>
  some (r43_2.1, r43_2.2)
theorem e60_1 (H0 : Hp) (x3 : AV) (H : Hp) : j60_1 H0 x3 H = b60_1 c88 x3 H := (CXM_eq [4, 8, 9] _ _ _ _).trans (by kernel_rfl)
theorem m60_1 {c88 dc88 : A1} (hc88 : L1 c88 dc88) : L1 (b60_1 c88) (b60_1 dc88) := fun _ _ =>
  bC (hc88 _ _) fun _ => le_refl _
noncomputable def b60_3 (j60_l1 : A4) (x0 x3 x7 x8 : AV) (H : Hp) : Res :=
  bnd (ibin .add x8 (.int .i64 1)) fun t42_5 =>
  j60_l1 x0 x3 x7 t42_5 H
theorem e60_3 (H0 : Hp) (x0 x3 x7 x8 : AV) (H : Hp) : j60_3 H0 x0 x3 x7 x8 H = b60_3 (j60_l1 H0) x0 x3 x7 x8 H := (CXM_eq [4, 8, 9] _ _ _ _).trans (by kernel_rfl)
theorem m60_3 {j60_l1 dj60_l1 : A4} (hj60_l1 : L4 j60_l1 dj60_l1) : L4 (b60_3 j60_l1) (b60_3 dj60_l1) := fun _ _ _ _ _ =>
  bR fun _ => hj60_l1 _ _ _ _ _
noncomputable def b60_2 (c53 : A1) (c87 : A2) (j60_3 : A4) (x0 x3 x7 x8 x9 : AV) (H : Hp) : Res :=
  bnd (aindexStr x0 x8) fun t13_6 =>
  bnd (c53 t13_6 H) fun r15_7 =>
  bnd (gdv r15_7.1 false (.tuple []) (some t13_6)) fun t17_8 =>
  bnd (gdv r15_7.1 false (.tuple []) (ibin .geq t17_8 (.int .u8 97))) fun t18_9 =>
  bnd (gdv r15_7.1 false (.tuple []) (some t18_9)) fun t19_10 =>
  bnd (gdv t19_10 true (.tuple []) (some t13_6)) fun t20_11 =>
  bnd (gdv t19_10 true (.tuple []) (ibin .leq t20_11 (.int .u8 122))) fun t21_12 =>
  bnd (gdv r15_7.1 false (.tuple []) (apick t19_10 t21_12 (.bool false))) fun t22_13 =>
  bnd (apick r15_7.1 (.bool true) t22_13) fun t23_14 =>
  bnd (gdv t23_14 false (.tuple []) (some t13_6)) fun t25_15 =>
  bnd (gdv t23_14 false (.tuple []) (ibin .geq t25_15 (.int .u8 65))) fun t26_16 =>
  bnd (gdv t23_14 false (.tuple []) (some t26_16)) fun t27_17 =>
  bnd (gdv t27_17 true (.tuple []) (some t13_6)) fun t28_18 =>
  bnd (gdv t27_17 true (.tuple []) (ibin .leq t28_18 (.int .u8 90))) fun t29_19 =>
  bnd (gdv t23_14 false (.tuple []) (apick t27_17 t29_19 (.bool false))) fun t30_20 =>
  bnd (apick t23_14 (.bool true) t30_20) fun t31_21 =>
  bnd (gdv t31_21 false (.tuple []) (some t13_6)) fun t33_22 =>
  bnd (gdv t31_21 false (.tuple []) (ibin .geq t33_22 (.int .u8 48))) fun t34_23 =>
  bnd (gdv t31_21 false (.tuple []) (some t34_23)) fun t35_24 =>
  bnd (gdv t35_24 true (.tuple []) (some t13_6)) fun t36_25 =>
  bnd (gdv t35_24 true (.tuple []) (ibin .leq t36_25 (.int .u8 57))) fun t37_26 =>
  bnd (gdv t31_21 false (.tuple []) (apick t35_24 t37_26 (.bool false))) fun t38_27 =>
  bnd (apick t31_21 (.bool true) t38_27) fun t39_28 =>
  cnd t39_28
    (bnd (c87 x3 t13_6 r15_7.2) fun r41_29 =>
    j60_3 x0 x3 x7 x8 r41_29.2)
    (j60_3 x0 x3 x7 x8 r15_7.2)
theorem e60_2 (H0 : Hp) (x0 x3 x7 x8 x9 : AV) (H : Hp) : j60_2 H0 x0 x3 x7 x8 x9 H = b60_2 c53 c87 (j60_3 H0) x0 x3 x7 x8 x9 H := (CXM_eq [4, 8, 9] _ _ _ _).trans (by kernel_rfl)
theorem m60_2 {c53 dc53 : A1} (hc53 : L1 c53 dc53) {c87 dc87 : A2} (hc87 : L2 c87 dc87) {j60_3 dj60_3 : A4} (hj60_3 : L4 j60_3 dj60_3) : L5 (b60_2 c53 c87 j60_3) (b60_2 dc53 dc87 dj60_3) := fun _ _ _ _ _ _ =>
  bR fun _ => bC (hc53 _ _) fun _ => bR fun _ => bR fun _ => bR fun _ => bR fun _ => bR fun _ => bR fun _ => bR fun _ => bR fun _ => bR fun _ => bR fun _ => bR fun _ => bR fun _ => bR fun _ => bR fun _ => bR fun _ => bR fun _ => bR fun _ => bR fun _ => bR fun _ => bR fun _ => bR fun _ => bK (bC (hc87 _ _ _) fun _ => hj60_3 _ _ _ _ _) (hj60_3 _ _ _ _ _)
noncomputable def b60_l1 (j60_1 : A1) (j60_2 : A5) (x0 x3 x7 x8 : AV) (H : Hp) : Res :=
  bnd (ibin .lss x8 x7) fun t9_4 =>
  cnd t9_4
    (j60_2 x0 x3 x7 x8 t9_4 H)
    (j60_1 x3 H)
theorem e60_l1 (H0 : Hp) (x0 x3 x7 x8 : AV) (H : Hp) : j60_l1 H0 x0 x3 x7 x8 H = b60_l1 (j60_1 H0) (j60_2 H0) x0 x3 x7 x8 H := (LPL_eqm (C := cfg) [4, 8, 9] (tame_block 0 (k60_1_tame H0)) _ _).trans (by kernel_rfl)
theorem m60_l1 {j60_1 dj60_1 : A1} (hj60_1 : L1 j60_1 dj60_1) {j60_2 dj60_2 : A5} (hj60_2 : L5 j60_2 dj60_2) : L4 (b60_l1 j60_1 j60_2) (b60_l1 dj60_1 dj60_2) := fun _ _ _ _ _ =>
  bR fun _ => bK (hj60_2 _ _ _ _ _ _) (hj60_1 _ _)
noncomputable def rj60_1 : A1 := b60_1 rc88
theorem sj60_1 (H0 : Hp) : L1 (rj60_1) (j60_1 H0) := fun _ _ => le_eq (m60_1 sc88 _ _) (e60_1 H0 _ _)
noncomputable def rj60_3 (j60_l1 : A4) : A4 := b60_3 j60_l1
theorem sj60_3 (H0 : Hp) {yj60_l1 : A4} (hj60_l1 : L4 yj60_l1 (j60_l1 H0)) : L4 (rj60_3 yj60_l1) (j60_3 H0) := fun _ _ _ _ _ => le_eq (m60_3 hj60_l1 _ _ _ _ _) (e60_3 H0 _ _ _ _ _)
noncomputable def rj60_2 (j60_l1 : A4) : A5 := b60_2 rc53 rc87 (rj60_3 j60_l1)
theorem sj60_2 (H0 : Hp) {yj60_l1 : A4} (hj60_l1 : L4 yj60_l1 (j60_l1 H0)) : L5 (rj60_2 yj60_l1) (j60_2 H0) := fun _ _ _ _ _ _ => le_eq (m60_2 sc53 sc87 (sj60_3 H0 hj60_l1) _ _ _ _ _ _) (e60_2 H0 _ _ _ _ _ _)
noncomputable def rj60_l1 (n : Nat) : A4 := @Nat.rec (fun _ => A4) (fun _ _ _ _ _ => none) (fun _ j60_l1 => b60_l1 (rj60_1) (rj60_2 j60_l1)) n
theorem sj60_l1 (H0 : Hp) (n : Nat) : L4 (rj60_l1 n) (j60_l1 H0) := by
  induction n with
  | zero => exact fun _ _ _ _ _ => le_none _
  | succ n hj60_l1 => exact fun _ _ _ _ _ => le_eq (m60_l1 (sj60_1 H0) (sj60_2 H0 hj60_l1) _ _ _ _ _) (e60_l1 H0 _ _ _ _ _)
noncomputable def bc60 (j60_l1 : A4) (p0 : AV) (H : Hp) : Res :=
  bnd (some ((.ptr H.length 0), H ++ [.cells [.nilp, .nils]])) fun r3_1 =>
  bnd (alenD .string p0) fun t7_3 =>
  j60_l1 p0 r3_1.1 t7_3 (.int .i64 0) r3_1.2
theorem ec60 (p0 : AV) (H : Hp) : c60 p0 H = bc60 (j60_l1 H) p0 H := (callw_cxm (C := cfg) (fn := Tryz.f60) (c := bodyOf Tryz.f60) (n := 44) [4, 8, 9] Tryz.func60 (by kernel_rfl) (by kernel_rfl) [p0] (by kernel_rfl) H).trans (by kernel_rfl)
theorem mc60 {j60_l1 dj60_l1 : A4} (hj60_l1 : L4 j60_l1 dj60_l1) : L1 (bc60 j60_l1) (bc60 dj60_l1) := fun _ _ =>
  bR fun _ => bR fun _ => hj60_l1 _ _ _ _ _
noncomputable def rc60 : A1 := fun p0 H => bc60 (rj60_l1 100000) p0 H
theorem sc60 : L1 rc60 c60 := fun _ H => le_eq (mc60 (sj60_l1 H 100000) _ _) (ec60 _ _)

/-! locale_mapped -/
noncomputable def c89 (p0 p1 : AV) (H : Hp) : Res := callw cfg 89 [p0, p1] H
noncomputable def j89_1 (H0 : Hp) (x5 : AV) (H : Hp) : Res := CXf 89 26 (sub (bodyOf Tryz.f89) [1, 1, 1]) (retL cfg 26 89 Tryz.f89 H0) [(5, x5)] H
noncomputable def k89_1 (H0 : Hp) : KL := seqL (fun k al H => CXf 89 26 (sub (bodyOf Tryz.f89) [1, 1, 1]) k (trimL (cfg.keep 89) (sub (bodyOf Tryz.f89) [1, 1, 1]) al) H) (retL cfg 26 89 Tryz.f89 H0)
theorem k89_1_tame (H0 : Hp) : Tame 26 (k89_1 H0) := tame_seq (C := cfg) (kp := cfg.keep 89) (sub (bodyOf Tryz.f89) [1, 1, 1]) (tame_ret 89 Tryz.f89 H0)
noncomputable def j89_3 (H0 : Hp) (x0 x5 x10 x11 : AV) (H : Hp) : Res := CXf 89 26 (sub (bodyOf Tryz.f89) [1, 1, 0, 1, 0, 0, 1, 1, 1]) (seqL (fun k al H => LPf 89 26 (sub (bodyOf Tryz.f89) [1, 1, 0, 1, 0, 0]) k (trimL (cfg.keep 89) (sub (bodyOf Tryz.f89) [1, 1, 0, 1, 0, 0]) al) H) (blockL 0 (k89_1 H0))) [(0, x0), (5, x5), (10, x10), (11, x11)] H
noncomputable def j89_2 (H0 : Hp) (x0 x5 x10 x11 x12 : AV) (H : Hp) : Res := CXf 89 26 (sub (bodyOf Tryz.f89) [1, 1, 0, 1, 0, 0, 1, 1]) (seqL (fun k al H => LPf 89 26 (sub (bodyOf Tryz.f89) [1, 1, 0, 1, 0, 0]) k (trimL (cfg.keep 89) (sub (bodyOf Tryz.f89) [1, 1, 0, 1, 0, 0]) al) H) (blockL 0 (k89_1 H0))) [(0, x0), (5, x5), (10, x10), (11, x11), (12, x12)] H
noncomputable def j89_l1 (H0 : Hp) (x0 x5 x10 x11 : AV) (H : Hp) : Res := LPf 89 26 (sub (bodyOf Tryz.f89) [1, 1, 0, 1, 0, 0]) (blockL 0 (k89_1 H0)) [(0, x0), (5, x5), (10, x10), (11, x11)] H
noncomputable def b89_1 (x5 : AV) (H : Hp) : Res :=
  bnd (cvOfBytes x5) fun t25_2 =>
  some (t25_2, H)
theorem e89_1 (H0 : Hp) (x5 : AV) (H : Hp) : j89_1 H0 x5 H = b89_1 x5 H := (CXM_eq [4, 6, 7] _ _ _ _).trans (by kernel_rfl)
theorem m89_1 : L1 (b89_1) (b89_1) := fun _ _ =>
  bR fun _ => le_refl _
noncomputable def b89_3 (j89_l1 : A4) (x0 x5 x10 x11 : AV) (H : Hp) : Res :=
  bnd (ibin .add x11 (.int .i64 1)) fun t23_5 =>
  j89_l1 x0 x5 x10 t23_5 H
theorem e89_3 (H0 : Hp) (x0 x5 x10 x11 : AV) (H : Hp) : j89_3 H0 x0 x5 x10 x11 H = b89_3 (j89_l1 H0) x0 x5 x10 x11 H := (CXM_eq [4, 6, 7] _ _ _ _).trans (by kernel_rfl)
theorem m89_3 {j89_l1 dj89_l1 : A4} (hj89_l1 : L4 j89_l1 dj89_l1) : L4 (b89_3 j89_l1) (b89_3 dj89_l1) := fun _ _ _ _ _ =>
  bR fun _ => hj89_l1 _ _ _ _ _
noncomputable def b89_2 (j89_3 : A4) (x0 x5 x10 x11 x12 : AV) (H : Hp) : Res :=
  bnd (aindexS 1 x5 x11) fun t19_6 =>
  bnd (aload false 1 t19_6 H) fun t20_7 =>
  bnd (aindexStr x0 t20_7) fun t21_8 =>
  bnd (aindexS 1 x5 x11) fun t22_9 =>
  bnd (astoreU 1 t22_9 t21_8 H) fun r_10 =>
  j89_3 x0 x5 x10 x11 r_10.2
theorem e89_2 (H0 : Hp) (x0 x5 x10 x11 x12 : AV) (H : Hp) : j89_2 H0 x0 x5 x10 x11 x12 H = b89_2 (j89_3 H0) x0 x5 x10 x11 x12 H := (CXM_eq [4, 6, 7] _ _ _ _).trans (by kernel_rfl)
theorem m89_2 {j89_3 dj89_3 : A4} (hj89_3 : L4 j89_3 dj89_3) : L5 (b89_2 j89_3) (b89_2 dj89_3) := fun _ _ _ _ _ _ =>
  bR fun _ => bR fun _ => bR fun _ => bR fun _ => bR fun _ => hj89_3 _ _ _ _ _
noncomputable def b89_l1 (j89_1 : A1) (j89_2 : A5) (x0 x5 x10 x11 : AV) (H : Hp) : Res :=
  bnd (ibin .lss x11 x10) fun t12_4 =>
  cnd t12_4
    (j89_2 x0 x5 x10 x11 t12_4 H)
    (j89_1 x5 H)
theorem e89_l1 (H0 : Hp) (x0 x5 x10 x11 : AV) (H : Hp) : j89_l1 H0 x0 x5 x10 x11 H = b89_l1 (j89_1 H0) (j89_2 H0) x0 x5 x10 x11 H := (LPL_eqm (C := cfg) [4, 6, 7] (tame_block 0 (k89_1_tame H0)) _ _).trans (by kernel_rfl)
theorem m89_l1 {j89_1 dj89_1 : A1} (hj89_1 : L1 j89_1 dj89_1) {j89_2 dj89_2 : A5} (hj89_2 : L5 j89_2 dj89_2) : L4 (b89_l1 j89_1 j89_2) (b89_l1 dj89_1 dj89_2) := fun _ _ _ _ _ =>
  bR fun _ => bK (hj89_2 _ _ _ _ _ _) (hj89_1 _ _)
noncomputable def rj89_1 : A1 := b89_1
theorem sj89_1 (H0 : Hp) : L1 (rj89_1) (j89_1 H0) := fun _ _ => le_eq (m89_1 _ _) (e89_1 H0 _ _)
noncomputable def rj89_3 (j89_l1 : A4) : A4 := b89_3 j89_l1
theorem sj89_3 (H0 : Hp) {yj89_l1 : A4} (hj89_l1 : L4 yj89_l1 (j89_l1 H0)) : L4 (rj89_3 yj89_l1) (j89_3 H0) := fun _ _ _ _ _ => le_eq (m89_3 hj89_l1 _ _ _ _ _) (e89_3 H0 _ _ _ _ _)
noncomputable def rj89_2 (j89_l1 : A4) : A5 := b89_2 (rj89_3 j89_l1)
theorem sj89_2 (H0 : Hp) {yj89_l1 : A4} (hj89_l1 : L4 yj89_l1 (j89_l1 H0)) : L5 (rj89_2 yj89_l1) (j89_2 H0) := fun _ _ _ _ _ _ => le_eq (m89_2 (sj89_3 H0 hj89_l1) _ _ _ _ _ _) (e89_2 H0 _ _ _ _ _ _)
noncomputable def rj89_l1 (n : Nat) : A4 := @Nat.rec (fun _ => A4) (fun _ _ _ _ _ => none) (fun _ j89_l1 => b89_l1 (rj89_1) (rj89_2 j89_l1)) n
theorem sj89_l1 (H0 : Hp) (n : Nat) : L4 (rj89_l1 n) (j89_l1 H0) := by
  induction n with
  | zero => exact fun _ _ _ _ _ => le_none _
  | succ n hj89_l1 => exact fun _ _ _ _ _ => le_eq (m89_l1 (sj89_1 H0) (sj89_2 H0 hj89_l1) _ _ _ _ _) (e89_l1 H0 _ _ _ _ _)
noncomputable def bc89 (j89_l1 : A4) (p0 p1 : AV) (H : Hp) : Res :=
  bnd (cvToBytes p1) fun t8_1 =>
  bnd (alenD (.slice 5) t8_1) fun t10_3 =>
  j89_l1 p0 t8_1 t10_3 (.int .i64 0) H
theorem ec89 (p0 p1 : AV) (H : Hp) : c89 p0 p1 H = bc89 (j89_l1 H) p0 p1 H := (callw_cxm (C := cfg) (fn := Tryz.f89) (c := bodyOf Tryz.f89) (n := 26) [4, 6, 7] Tryz.func89 (by kernel_rfl) (by kernel_rfl) [p0, p1] (by kernel_rfl) H).trans (by kernel_rfl)
theorem mc89 {j89_l1 dj89_l1 : A4} (hj89_l1 : L4 j89_l1 dj89_l1) : L2 (bc89 j89_l1) (bc89 dj89_l1) := fun _ _ _ =>
  bR fun _ => bR fun _ => hj89_l1 _ _ _ _ _
noncomputable def rc89 : A2 := fun p0 p1 H => bc89 (rj89_l1 100000) p0 p1 H
theorem sc89 : L2 rc89 c89 := fun _ _ H => le_eq (mc89 (sj89_l1 H 100000) _ _ _) (ec89 _ _ _)

/-! locale_Upper -/
noncomputable def c62 (p0 p1 : AV) (H : Hp) : Res := callw cfg 62 [p0, p1] H
noncomputable def bc62 (c65 : A1) (c89 : A2) (p0 p1 : AV) (H : Hp) : Res :=
  bnd (abox p0 H) fun r2_1 =>
  bnd (aload true 6 r2_1.1 r2_1.2) fun t5_2 =>
  bnd (c65 t5_2 r2_1.2) fun r6_3 =>
  bnd (afieldV false 1 3 r6_3.1) fun t7_4 =>
  bnd (c89 t7_4 p1 r6_3.2) fun r9_5 =>
  some (r9_5.1, r9_5.2)
theorem ec62 (p0 p1 : AV) (H : Hp) : c62 p0 p1 H = bc62 c65 c89 p0 p1 H := (callw_cxm (C := cfg) (fn := Tryz.f62) (c := bodyOf Tryz.f62) (n := 10) [] Tryz.func62 (by kernel_rfl) (by kernel_rfl) [p0, p1] (by kernel_rfl) H).trans (by kernel_rfl)
theorem mc62 {c65 dc65 : A1} (hc65 : L1 c65 dc65) {c89 dc89 : A2} (hc89 : L2 c89 dc89) : L2 (bc62 c65 c89) (bc62 dc65 dc89) := fun _ _ _ =>
  bR fun _ => bR fun _ => bC (hc65 _ _) fun _ => bR fun _ => bC (hc89 _ _ _) fun _ => le_refl _
noncomputable def rc62 : A2 := fun p0 p1 H => bc62 rc65 rc89 p0 p1 H
theorem sc62 : L2 rc62 c62 := fun _ _ H => le_eq (mc62 sc65 sc89 _ _ _) (ec62 _ _ _)

/-! sortkey_parts_3 -/
noncomputable def c61 (p0 p1 : AV) (H : Hp) : Res := callw cfg 61 [p0, p1] H
noncomputable def bc61 (c62 : A2) (p0 p1 : AV) (H : Hp) : Res :=
  bnd (aload true 6 p1 H) fun t4_1 =>
  bnd (c62 t4_1 p0 H) fun r6_2 =>
  some (r6_2.1, r6_2.2)
theorem ec61 (p0 p1 : AV) (H : Hp) : c61 p0 p1 H = bc61 c62 p0 p1 H := (callw_cxm (C := cfg) (fn := Tryz.f61) (c := bodyOf Tryz.f61) (n := 7) [] Tryz.func61 (by kernel_rfl) (by kernel_rfl) [p0, p1] (by kernel_rfl) H).trans (by kernel_rfl)
theorem mc61 {c62 dc62 : A2} (hc62 : L2 c62 dc62) : L2 (bc61 c62) (bc61 dc62) := fun _ _ _ =>
  bR fun _ => bC (hc62 _ _ _) fun _ => le_refl _
noncomputable def rc61 : A2 := fun p0 p1 H => bc61 rc62 p0 p1 H
theorem sc61 : L2 rc61 c61 := fun _ _ H => le_eq (mc61 sc62 _ _ _) (ec61 _ _ _)

/-! locale_each -/
noncomputable def c67 (p0 p1 p2 : AV) (H : Hp) : Res := callw cfg 67 [p0, p1, p2] H
noncomputable def j67_4 (H0 : Hp) (x1 x2 x3 x6 x9 x10 : AV) (H : Hp) : Res := CXf 67 75 (sub (bodyOf Tryz.f67) [1, 1, 1, 1, 0, 0, 1, 0, 1, 1, 1]) (blockL 3 (seqL (fun k al H => LPf 67 75 (sub (bodyOf Tryz.f67) [1, 1, 1, 1, 0, 0]) k (trimL (cfg.keep 67) (sub (bodyOf Tryz.f67) [1, 1, 1, 1, 0, 0]) al) H) (blockL 2 (retL cfg 75 67 Tryz.f67 H0)))) [(1, x1), (2, x2), (3, x3), (6, x6), (9, x9), (10, x10)] H
noncomputable def j67_3 (H0 : Hp) (x1 x2 x3 x6 x9 x10 x11 : AV) (H : Hp) : Res := CXf 67 75 (sub (bodyOf Tryz.f67) [1, 1, 1, 1, 0, 0, 1, 0, 1, 1]) (blockL 3 (seqL (fun k al H => LPf 67 75 (sub (bodyOf Tryz.f67) [1, 1, 1, 1, 0, 0]) k (trimL (cfg.keep 67) (sub (bodyOf Tryz.f67) [1, 1, 1, 1, 0, 0]) al) H) (blockL 2 (retL cfg 75 67 Tryz.f67 H0)))) [(1, x1), (2, x2), (3, x3), (6, x6), (9, x9), (10, x10), (11, x11)] H
noncomputable def j67_2 (H0 : Hp) (x1 x2 x3 x6 x9 : AV) (H : Hp) : Res := CXf 67 75 (sub (bodyOf Tryz.f67) [1, 1, 1, 1, 0, 0, 1]) (seqL (fun k al H => LPf 67 75 (sub (bodyOf Tryz.f67) [1, 1, 1, 1, 0, 0]) k (trimL (cfg.keep 67) (sub (bodyOf Tryz.f67) [1, 1, 1, 1, 0, 0]) al) H) (blockL 2 (retL cfg 75 67 Tryz.f67 H0))) [(1, x1), (2, x2), (3, x3), (6, x6), (9, x9)] H
noncomputable def j67_l1 (H0 : Hp) (x1 x2 x3 x6 x9 : AV) (H : Hp) : Res := LPf 67 75 (sub (bodyOf Tryz.f67) [1, 1, 1, 1, 0, 0]) (blockL 2 (retL cfg 75 67 Tryz.f67 H0)) [(1, x1), (2, x2), (3, x3), (6, x6), (9, x9)] H
noncomputable def j67_1 (H0 : Hp) (x1 x2 x3 x6 : AV) (H : Hp) : Res := CXf 67 75 (sub (bodyOf Tryz.f67) [1, 1, 1]) (retL cfg 75 67 Tryz.f67 H0) [(1, x1), (2, x2), (3, x3), (6, x6)] H
noncomputable def k67_1 (H0 : Hp) : KL := seqL (fun k al H => CXf 67 75 (sub (bodyOf Tryz.f67) [1, 1, 1]) k (trimL (cfg.keep 67) (sub (bodyOf Tryz.f67) [1, 1, 1]) al) H) (retL cfg 75 67 Tryz.f67 H0)
theorem k67_1_tame (H0 : Hp) : Tame 75 (k67_1 H0) := tame_seq (C := cfg) (kp := cfg.keep 67) (sub (bodyOf Tryz.f67) [1, 1, 1]) (tame_ret 67 Tryz.f67 H0)
noncomputable def j67_6 (H0 : Hp) (x1 x2 x3 x6 x16 x17 x18 : AV) (H : Hp) : Res := CXf 67 75 (sub (bodyOf Tryz.f67) [1, 1, 0, 1, 0, 0, 1, 1, 1]) (seqL (fun k al H => LPf 67 75 (sub (bodyOf Tryz.f67) [1, 1, 0, 1, 0, 0]) k (trimL (cfg.keep 67) (sub (bodyOf Tryz.f67) [1, 1, 0, 1, 0, 0]) al) H) (blockL 0 (k67_1 H0))) [(1, x1), (2, x2), (3, x3), (6, x6), (16, x16), (17, x17), (18, x18)] H
noncomputable def j67_5 (H0 : Hp) (x1 x2 x3 x6 x16 x17 x18 x19 : AV) (H : Hp) : Res := CXf 67 75 (sub (bodyOf Tryz.f67) [1, 1, 0, 1, 0, 0, 1, 1]) (seqL (fun k al H => LPf 67 75 (sub (bodyOf Tryz.f67) [1, 1, 0, 1, 0, 0]) k (trimL (cfg.keep 67) (sub (bodyOf Tryz.f67) [1, 1, 0, 1, 0, 0]) al) H) (blockL 0 (k67_1 H0))) [(1, x1), (2, x2), (3, x3), (6, x6), (16, x16), (17, x17), (18, x18), (19, x19)] H
noncomputable def j67_l2 (H0 : Hp) (x1 x2 x3 x6 x16 x17 x18 : AV) (H : Hp) : Res := LPf 67 75 (sub (bodyOf Tryz.f67) [1, 1, 0, 1, 0, 0]) (blockL 0 (k67_1 H0)) [(1, x1), (2, x2), (3, x3), (6, x6), (16, x16), (17, x17), (18, x18)] H
noncomputable def b67_4 (j67_l1 : A5) (x1 x2 x3 x6 x9 x10 : AV) (H : Hp) : Res :=
  bnd (alenD .string x10) fun t73_10 =>
  bnd (ibin .add x9 t73_10) fun t74_11 =>
  j67_l1 x1 x2 x3 x6 t74_11 H
theorem e67_4 (H0 : Hp) (x1 x2 x3 x6 x9 x10 : AV) (H : Hp) : j67_4 H0 x1 x2 x3 x6 x9 x10 H = b67_4 (j67_l1 H0) x1 x2 x3 x6 x9 x10 H := (CXM_eq [4, 6, 7, 9, 14, 15] _ _ _ _).trans (by kernel_rfl)
theorem m67_4 {j67_l1 dj67_l1 : A5} (hj67_l1 : L5 j67_l1 dj67_l1) : L6 (b67_4 j67_l1) (b67_4 dj67_l1) := fun _ _ _ _ _ _ _ =>
  bR fun _ => bR fun _ => hj67_l1 _ _ _ _ _ _
noncomputable def b67_3 (j67_4 : A6) (cV : AV → List AV → Hp → Res) (x1 x2 x3 x6 x9 x10 x11 : AV) (H : Hp) : Res :=
  bnd (cV x2 [x10, x11] H) fun r69_12 =>
  bnd (aun .not r69_12.1) fun t70_13 =>
  cnd t70_13
    (some ((.tuple []), r69_12.2))
    (j67_4 x1 x2 x3 x6 x9 x10 r69_12.2)
theorem e67_3 (H0 : Hp) (x1 x2 x3 x6 x9 x10 x11 : AV) (H : Hp) : j67_3 H0 x1 x2 x3 x6 x9 x10 x11 H = b67_3 (j67_4 H0) (acall cfg (callw cfg)) x1 x2 x3 x6 x9 x10 x11 H := (CXM_eq [4, 6, 7, 9, 14, 15] _ _ _ _).trans (by kernel_rfl)
theorem m67_3 {j67_4 dj67_4 : A6} (hj67_4 : L6 j67_4 dj67_4) {cV dcV : AV → List AV → Hp → Res} (hcV : LV cV dcV) : L7 (b67_3 j67_4 cV) (b67_3 dj67_4 dcV) := fun _ _ _ _ _ _ _ _ =>
  bC (hcV _ _ _) fun _ => bR fun _ => bK (le_refl _) (hj67_4 _ _ _ _ _ _ _)
noncomputable def b67_2 (j67_3 : A7) (x1 x2 x3 x6 x9 : AV) (H : Hp) : Res :=
  bnd (ibin .add x9 (.int .i64 1)) fun t35_3 =>
  bnd (asliceS x1 (some x9) (some t35_3) none) fun t36_4 =>
  bnd (afield 1 x3) fun t37_5 =>
  bnd (aload false 1 t37_5 H) fun t38_6 =>
  bnd (aindexStr x1 x9) fun t41_7 =>
  bnd (aindexS 1 t38_6 t41_7) fun t42_8 =>
  bnd (aload false 1 t42_8 H) fun t43_9 =>
  bnd (ibin .add x9 (.int .i64 2)) fun t45_14 =>
  bnd (alenD .string x1) fun t47_15 =>
  bnd (ibin .leq t45_14 t47_15) fun t48_16 =>
  cnd t48_16
    (bnd (ibin .add x9 (.int .i64 2)) fun t54_17 =>
    bnd (asliceS x1 (some x9) (some t54_17) none) fun t55_18 =>
    bnd (alookup .string (.int .i64 0) true x6 t55_18 H) fun t56_19 =>
    bnd (aext t56_19 0) fun t57_20 =>
    bnd (aext t56_19 1) fun t58_21 =>
    cnd t58_21
      (bnd (ibin .add x9 (.int .i64 2)) fun t63_22 =>
      bnd (asliceS x1 (some x9) (some t63_22) none) fun t64_23 =>
      j67_3 x1 x2 x3 x6 x9 t64_23 t57_20 H)
      (j67_3 x1 x2 x3 x6 x9 t36_4 t43_9 H))
    (j67_3 x1 x2 x3 x6 x9 t36_4 t43_9 H)
theorem e67_2 (H0 : Hp) (x1 x2 x3 x6 x9 : AV) (H : Hp) : j67_2 H0 x1 x2 x3 x6 x9 H = b67_2 (j67_3 H0) x1 x2 x3 x6 x9 H := (CXM_eq [4, 6, 7, 9, 14, 15] _ _ _ _).trans (by kernel_rfl)
theorem m67_2 {j67_3 dj67_3 : A7} (hj67_3 : L7 j67_3 dj67_3) : L5 (b67_2 j67_3) (b67_2 dj67_3) := fun _ _ _ _ _ _ =>
  bR fun _ => bR fun _ => bR fun _ => bR fun _ => bR fun _ => bR fun _ => bR fun _ => bR fun _ => bR fun _ => bR fun _ => bK (bR fun _ => bR fun _ => bR fun _ => bR fun _ => bR fun _ => bK (bR fun _ => bR fun _ => hj67_3 _ _ _ _ _ _ _ _) (hj67_3 _ _ _ _ _ _ _ _)) (hj67_3 _ _ _ _ _ _ _ _)
noncomputable def b67_l1 (j67_2 : A5) (x1 x2 x3 x6 x9 : AV) (H : Hp) : Res :=
  bnd (alenD .string x1) fun t30_24 =>
  bnd (ibin .lss x9 t30_24) fun t31_25 =>
  cnd t31_25
    (j67_2 x1 x2 x3 x6 x9 H)
    (some ((.tuple []), H))
theorem e67_l1 (H0 : Hp) (x1 x2 x3 x6 x9 : AV) (H : Hp) : j67_l1 H0 x1 x2 x3 x6 x9 H = b67_l1 (j67_2 H0) x1 x2 x3 x6 x9 H := (LPL_eqm (C := cfg) [4, 6, 7, 9, 14, 15] (tame_block 2 (tame_ret 67 Tryz.f67 H0)) _ _).trans (by kernel_rfl)
theorem m67_l1 {j67_2 dj67_2 : A5} (hj67_2 : L5 j67_2 dj67_2) : L5 (b67_l1 j67_2) (b67_l1 dj67_2) := fun _ _ _ _ _ _ =>
  bR fun _ => bR fun _ => bK (hj67_2 _ _ _ _ _ _) (le_refl _)
noncomputable def b67_1 (j67_l1 : A5) (x1 x2 x3 x6 : AV) (H : Hp) : Res :=
  j67_l1 x1 x2 x3 x6 (.int .i64 0) H
theorem e67_1 (H0 : Hp) (x1 x2 x3 x6 : AV) (H : Hp) : j67_1 H0 x1 x2 x3 x6 H = b67_1 (j67_l1 H0) x1 x2 x3 x6 H := (CXM_eq [4, 6, 7, 9, 14, 15] _ _ _ _).trans (by kernel_rfl)
theorem m67_1 {j67_l1 dj67_l1 : A5} (hj67_l1 : L5 j67_l1 dj67_l1) : L4 (b67_1 j67_l1) (b67_1 dj67_l1) := fun _ _ _ _ _ =>
  hj67_l1 _ _ _ _ _ _
noncomputable def b67_6 (j67_l2 : A7) (x1 x2 x3 x6 x16 x17 x18 : AV) (H : Hp) : Res :=
  bnd (ibin .add x18 (.int .i64 1)) fun t27_30 =>
  j67_l2 x1 x2 x3 x6 x16 x17 t27_30 H
theorem e67_6 (H0 : Hp) (x1 x2 x3 x6 x16 x17 x18 : AV) (H : Hp) : j67_6 H0 x1 x2 x3 x6 x16 x17 x18 H = b67_6 (j67_l2 H0) x1 x2 x3 x6 x16 x17 x18 H := (CXM_eq [4, 6, 7, 9, 14, 15] _ _ _ _).trans (by kernel_rfl)
theorem m67_6 {j67_l2 dj67_l2 : A7} (hj67_l2 : L7 j67_l2 dj67_l2) : L7 (b67_6 j67_l2) (b67_6 dj67_l2) := fun _ _ _ _ _ _ _ _ =>
  bR fun _ => hj67_l2 _ _ _ _ _ _ _ _
noncomputable def b67_5 (j67_6 : A7) (x1 x2 x3 x6 x16 x17 x18 x19 : AV) (H : Hp) : Res :=
  bnd (aindexS 2 x16 x18) fun t20_31 =>
  bnd (aload true 2 t20_31 H) fun t21_32 =>
  bnd (some ((.ptr H.length 0), H ++ [.cells [(.str []), (.int .i64 0)]])) fun r8_33 =>
  bnd (astoreU 2 r8_33.1 t21_32 r8_33.2) fun r_34 =>
  bnd (afield 0 r8_33.1) fun t23_35 =>
  bnd (aload false 1 t23_35 r_34.2) fun t24_36 =>
  bnd (afield 1 r8_33.1) fun t25_37 =>
  bnd (aload false 1 t25_37 r_34.2) fun t26_38 =>
  bnd (amapSet .string x6 t24_36 t26_38 r_34.2) fun r_39 =>
  j67_6 x1 x2 x3 x6 x16 x17 x18 r_39.2
theorem e67_5 (H0 : Hp) (x1 x2 x3 x6 x16 x17 x18 x19 : AV) (H : Hp) : j67_5 H0 x1 x2 x3 x6 x16 x17 x18 x19 H = b67_5 (j67_6 H0) x1 x2 x3 x6 x16 x17 x18 x19 H := (CXM_eq [4, 6, 7, 9, 14, 15] _ _ _ _).trans (by kernel_rfl)
theorem m67_5 {j67_6 dj67_6 : A7} (hj67_6 : L7 j67_6 dj67_6) : L8 (b67_5 j67_6) (b67_5 dj67_6) := fun _ _ _ _ _ _ _ _ _ =>
  bR fun _ => bR fun _ => bR fun _ => bR fun _ => bR fun _ => bR fun _ => bR fun _ => bR fun _ => bR fun _ => hj67_6 _ _ _ _ _ _ _ _
noncomputable def b67_l2 (j67_1 : A4) (j67_5 : A8) (x1 x2 x3 x6 x16 x17 x18 : AV) (H : Hp) : Res :=
  bnd (ibin .lss x18 x17) fun t19_29 =>
  cnd t19_29
    (j67_5 x1 x2 x3 x6 x16 x17 x18 t19_29 H)
    (j67_1 x1 x2 x3 x6 H)
theorem e67_l2 (H0 : Hp) (x1 x2 x3 x6 x16 x17 x18 : AV) (H : Hp) : j67_l2 H0 x1 x2 x3 x6 x16 x17 x18 H = b67_l2 (j67_1 H0) (j67_5 H0) x1 x2 x3 x6 x16 x17 x18 H := (LPL_eqm (C := cfg) [4, 6, 7, 9, 14, 15] (tame_block 0 (k67_1_tame H0)) _ _).trans (by kernel_rfl)
theorem m67_l2 {j67_1 dj67_1 : A4} (hj67_1 : L4 j67_1 dj67_1) {j67_5 dj67_5 : A8} (hj67_5 : L8 j67_5 dj67_5) : L7 (b67_l2 j67_1 j67_5) (b67_l2 dj67_1 dj67_5) := fun _ _ _ _ _ _ _ _ =>
  bR fun _ => bK (hj67_5 _ _ _ _ _ _ _ _ _) (hj67_1 _ _ _ _ _)
noncomputable def rj67_4 (gV : AV → List AV → Hp → Res) (j67_l1 : A5) : A6 := b67_4 j67_l1
theorem sj67_4 (H0 : Hp) {gV : AV → List AV → Hp → Res} (hV : LV gV (acall cfg (callw cfg))) {yj67_l1 : A5} (hj67_l1 : L5 yj67_l1 (j67_l1 H0)) : L6 (rj67_4 gV yj67_l1) (j67_4 H0) := fun _ _ _ _ _ _ _ => le_eq (m67_4 hj67_l1 _ _ _ _ _ _ _) (e67_4 H0 _ _ _ _ _ _ _)
noncomputable def rj67_3 (gV : AV → List AV → Hp → Res) (j67_l1 : A5) : A7 := b67_3 (rj67_4 gV j67_l1) gV
theorem sj67_3 (H0 : Hp) {gV : AV → List AV → Hp → Res} (hV : LV gV (acall cfg (callw cfg))) {yj67_l1 : A5} (hj67_l1 : L5 yj67_l1 (j67_l1 H0)) : L7 (rj67_3 gV yj67_l1) (j67_3 H0) := fun _ _ _ _ _ _ _ _ => le_eq (m67_3 (sj67_4 H0 hV hj67_l1) hV _ _ _ _ _ _ _ _) (e67_3 H0 _ _ _ _ _ _ _ _)
noncomputable def rj67_2 (gV : AV → List AV → Hp → Res) (j67_l1 : A5) : A5 := b67_2 (rj67_3 gV j67_l1)
theorem sj67_2 (H0 : Hp) {gV : AV → List AV → Hp → Res} (hV : LV gV (acall cfg (callw cfg))) {yj67_l1 : A5} (hj67_l1 : L5 yj67_l1 (j67_l1 H0)) : L5 (rj67_2 gV yj67_l1) (j67_2 H0) := fun _ _ _ _ _ _ => le_eq (m67_2 (sj67_3 H0 hV hj67_l1) _ _ _ _ _ _) (e67_2 H0 _ _ _ _ _ _)
noncomputable def rj67_l1 (gV : AV → List AV → Hp → Res) (n : Nat) : A5 := @Nat.rec (fun _ => A5) (fun _ _ _ _ _ _ => none) (fun _ j67_l1 => b67_l1 (rj67_2 gV j67_l1)) n
theorem sj67_l1 (H0 : Hp) {gV : AV → List AV → Hp → Res} (hV : LV gV (acall cfg (callw cfg))) (n : Nat) : L5 (rj67_l1 gV n) (j67_l1 H0) := by
  induction n with
  | zero => exact fun _ _ _ _ _ _ => le_none _
  | succ n hj67_l1 => exact fun _ _ _ _ _ _ => le_eq (m67_l1 (sj67_2 H0 hV hj67_l1) _ _ _ _ _ _) (e67_l1 H0 _ _ _ _ _ _)
noncomputable def rj67_1 (gV : AV → List AV → Hp → Res) : A4 := b67_1 (rj67_l1 gV 100000)
theorem sj67_1 (H0 : Hp) {gV : AV → List AV → Hp → Res} (hV : LV gV (acall cfg (callw cfg))) : L4 (rj67_1 gV) (j67_1 H0) := fun _ _ _ _ _ => le_eq (m67_1 (sj67_l1 H0 hV 100000) _ _ _ _ _) (e67_1 H0 _ _ _ _ _)
noncomputable def rj67_6 (gV : AV → List AV → Hp → Res) (j67_l2 : A7) : A7 := b67_6 j67_l2
theorem sj67_6 (H0 : Hp) {gV : AV → List AV → Hp → Res} (hV : LV gV (acall cfg (callw cfg))) {yj67_l2 : A7} (hj67_l2 : L7 yj67_l2 (j67_l2 H0)) : L7 (rj67_6 gV yj67_l2) (j67_6 H0) := fun _ _ _ _ _ _ _ _ => le_eq (m67_6 hj67_l2 _ _ _ _ _ _ _ _) (e67_6 H0 _ _ _ _ _ _ _ _)
noncomputable def rj67_5 (gV : AV → List AV → Hp → Res) (j67_l2 : A7) : A8 := b67_5 (rj67_6 gV j67_l2)
theorem sj67_5 (H0 : Hp) {gV : AV → List AV → Hp → Res} (hV : LV gV (acall cfg (callw cfg))) {yj67_l2 : A7} (hj67_l2 : L7 yj67_l2 (j67_l2 H0)) : L8 (rj67_5 gV yj67_l2) (j67_5 H0) := fun _ _ _ _ _ _ _ _ _ => le_eq (m67_5 (sj67_6 H0 hV hj67_l2) _ _ _ _ _ _ _ _ _) (e67_5 H0 _ _ _ _ _ _ _ _ _)
noncomputable def rj67_l2 (gV : AV → List AV → Hp → Res) (n : Nat) : A7 := @Nat.rec (fun _ => A7) (fun _ _ _ _ _ _ _ _ => none) (fun _ j67_l2 => b67_l2 (rj67_1 gV) (rj67_5 gV j67_l2)) n
theorem sj67_l2 (H0 : Hp) {gV : AV → List AV → Hp → Res} (hV : LV gV (acall cfg (callw cfg))) (n : Nat) : L7 (rj67_l2 gV n) (j67_l2 H0) := by
  induction n with
  | zero => exact fun _ _ _ _ _ _ _ _ => le_none _
  | succ n hj67_l2 => exact fun _ _ _ _ _ _ _ _ => le_eq (m67_l2 (sj67_1 H0 hV) (sj67_5 H0 hV hj67_l2) _ _ _ _ _ _ _ _) (e67_l2 H0 _ _ _ _ _ _ _ _)
noncomputable def bc67 (j67_l2 : A7) (p0 p1 p2 : AV) (H : Hp) : Res :=
  bnd (abox p0 H) fun r3_1 =>
  bnd (some ((.map r3_1.2.length), r3_1.2 ++ [.map [] 0])) fun r14_2 =>
  bnd (afield 5 r3_1.1) fun t15_26 =>
  bnd (aload false 1 t15_26 r14_2.2) fun t16_27 =>
  bnd (alenD (.slice 119) t16_27) fun t17_28 =>
  j67_l2 p1 p2 r3_1.1 r14_2.1 t16_27 t17_28 (.int .i64 0) r14_2.2
theorem ec67 (p0 p1 p2 : AV) (H : Hp) : c67 p0 p1 p2 H = bc67 (j67_l2 H) p0 p1 p2 H := (callw_cxm (C := cfg) (fn := Tryz.f67) (c := bodyOf Tryz.f67) (n := 75) [4, 6, 7, 9, 14, 15] Tryz.func67 (by kernel_rfl) (by kernel_rfl) [p0, p1, p2] (by kernel_rfl) H).trans (by kernel_rfl)
theorem mc67 {j67_l2 dj67_l2 : A7} (hj67_l2 : L7 j67_l2 dj67_l2) : L3 (bc67 j67_l2) (bc67 dj67_l2) := fun _ _ _ _ =>
  bR fun _ => bR fun _ => bR fun _ => bR fun _ => bR fun _ => hj67_l2 _ _ _ _ _ _ _ _
noncomputable def rc67 (gV : AV → List AV → Hp → Res) : A3 := fun p0 p1 p2 H => bc67 (rj67_l2 gV 100000) p0 p1 p2 H
theorem sc67 {gV : AV → List AV → Hp → Res} (hV : LV gV (acall cfg (callw cfg))) : L3 (rc67 gV) c67 := fun _ _ _ H => le_eq (mc67 (sj67_l2 H hV 100000) _ _ _ _) (ec67 _ _ _ _)

/-! locale_Compare_1 -/
noncomputable def c66 (p0 p1 : AV) (H : Hp) : Res := callw cfg 66 [p0, p1] H
noncomputable def bc66 (c67 : A3) (p0 p1 : AV) (H : Hp) : Res :=
  bnd (some ((.ptr H.length 0), H ++ [.cells [.nils]])) fun r4_1 =>
  bnd (aload true 6 p1 r4_1.2) fun t5_2 =>
  bnd (some (.fn (.func 68) [] [r4_1.1])) fun t7_3 =>
  bnd (c67 t5_2 p0 t7_3 r4_1.2) fun r8_4 =>
  bnd (aload false 1 r4_1.1 r8_4.2) fun t9_5 =>
  some (t9_5, r8_4.2)
theorem ec66 (p0 p1 : AV) (H : Hp) : c66 p0 p1 H = bc66 c67 p0 p1 H := (callw_cxm (C := cfg) (fn := Tryz.f66) (c := bodyOf Tryz.f66) (n := 10) [] Tryz.func66 (by kernel_rfl) (by kernel_rfl) [p0, p1] (by kernel_rfl) H).trans (by kernel_rfl)
theorem mc66 {c67 dc67 : A3} (hc67 : L3 c67 dc67) : L2 (bc66 c67) (bc66 dc67) := fun _ _ _ =>
  bR fun _ => bR fun _ => bR fun _ => bC (hc67 _ _ _ _) fun _ => bR fun _ => le_refl _
noncomputable def rc66 (gV : AV → List AV → Hp → Res) : A2 := fun p0 p1 H => bc66 (rc67 gV) p0 p1 H
theorem sc66 {gV : AV → List AV → Hp → Res} (hV : LV gV (acall cfg (callw cfg))) : L2 (rc66 gV) c66 := fun _ _ H => le_eq (mc66 (sc67 hV) _ _ _) (ec66 _ _ _)

/-! locale_Compare_1_1 -/
noncomputable def c68 (p0 p1 p2 : AV) (H : Hp) : Res := callw cfg 68 [p0, p1, p2] H
noncomputable def bc68 (p0 p1 p2 : AV) (H : Hp) : Res :=
  bnd (aload false 1 p2 H) fun t6_1 =>
  bnd ((setElems 1 [(0, p1)] [(.int .i64 0)]).map (.vs 1 .clip)) fun t8_2 =>
  bnd (aappE 1 8 t6_1 t8_2 H) fun r9_3 =>
  bnd (astoreU 1 p2 r9_3.1 r9_3.2) fun r_4 =>
  some ((.bool true), r_4.2)
theorem ec68 (p0 p1 p2 : AV) (H : Hp) : c68 p0 p1 p2 H = bc68 p0 p1 p2 H := (callw_cxm (C := cfg) (fn := Tryz.f68) (c := bodyOf Tryz.f68) (n := 10) [] Tryz.func68 (by kernel_rfl) (by kernel_rfl) [p0, p1, p2] (by kernel_rfl) H).trans (by kernel_rfl)
theorem mc68 : L3 (bc68) (bc68) := fun _ _ _ _ =>
  bR fun _ => bR fun _ => bR fun _ => bR fun _ => le_refl _
noncomputable def rc68 : A3 := fun p0 p1 p2 H => bc68 p0 p1 p2 H
theorem sc68 : L3 rc68 c68 := fun _ _ _ H => le_eq (mc68 _ _ _ _) (ec68 _ _ _ _)

/-! Functions that are called as values -/
noncomputable def tabV (g : AV → List AV → Hp → Res) (f : Nat) (l : List AV) (H : Hp) : Res := cond (Nat.beq f 48) (ofL2 (rc48) l H) (cond (Nat.beq f 49) (ofL2 (rc49) l H) (cond (Nat.beq f 57) (ofL5 (rc57 g) l H) (cond (Nat.beq f 58) (ofL1 (rc58) l H) (cond (Nat.beq f 60) (ofL1 (rc60) l H) (cond (Nat.beq f 61) (ofL2 (rc61) l H) (cond (Nat.beq f 66) (ofL2 (rc66 g) l H) (cond (Nat.beq f 68) (ofL3 (rc68) l H) (none))))))))
noncomputable def rV (n : Nat) : AV → List AV → Hp → Res := @Nat.rec (fun _ => AV → List AV → Hp → Res) (fun _ _ _ => none) (fun _ ih => valV (tabV ih)) n
theorem sV (n : Nat) : LV (rV n) (acall cfg (callw cfg)) := by
  induction n with
  | zero => exact fun _ _ _ => le_none _
  | succ n ih =>
    refine valV_le ?_
    intro f a b l H r h
    unfold tabV at h
    refine tab_step h (fun e h => ?_) (fun h => ?_)
    · subst e
      have e : acall cfg (callw cfg) (.fn (.func 48) a b) l H = callw cfg 48 (a ++ l ++ b) H := by kernel_rfl
      rw [e]
      exact ofL2_le (sc48) _ _ _ h
    refine tab_step h (fun e h => ?_) (fun h => ?_)
    · subst e
      have e : acall cfg (callw cfg) (.fn (.func 49) a b) l H = callw cfg 49 (a ++ l ++ b) H := by kernel_rfl
      rw [e]
      exact ofL2_le (sc49) _ _ _ h
    refine tab_step h (fun e h => ?_) (fun h => ?_)
    · subst e
      have e : acall cfg (callw cfg) (.fn (.func 57) a b) l H = callw cfg 57 (a ++ l ++ b) H := by kernel_rfl
      rw [e]
      exact ofL5_le (sc57 ih) _ _ _ h
    refine tab_step h (fun e h => ?_) (fun h => ?_)
    · subst e
      have e : acall cfg (callw cfg) (.fn (.func 58) a b) l H = callw cfg 58 (a ++ l ++ b) H := by kernel_rfl
      rw [e]
      exact ofL1_le (sc58) _ _ _ h
    refine tab_step h (fun e h => ?_) (fun h => ?_)
    · subst e
      have e : acall cfg (callw cfg) (.fn (.func 60) a b) l H = callw cfg 60 (a ++ l ++ b) H := by kernel_rfl
      rw [e]
      exact ofL1_le (sc60) _ _ _ h
    refine tab_step h (fun e h => ?_) (fun h => ?_)
    · subst e
      have e : acall cfg (callw cfg) (.fn (.func 61) a b) l H = callw cfg 61 (a ++ l ++ b) H := by kernel_rfl
      rw [e]
      exact ofL2_le (sc61) _ _ _ h
    refine tab_step h (fun e h => ?_) (fun h => ?_)
    · subst e
      have e : acall cfg (callw cfg) (.fn (.func 66) a b) l H = callw cfg 66 (a ++ l ++ b) H := by kernel_rfl
      rw [e]
      exact ofL2_le (sc66 ih) _ _ _ h
    refine tab_step h (fun e h => ?_) (fun h => ?_)
    · subst e
      have e : acall cfg (callw cfg) (.fn (.func 68) a b) l H = callw cfg 68 (a ++ l ++ b) H := by kernel_rfl
      rw [e]
      exact ofL3_le (sc68) _ _ _ h
    cases h

end Go.Am
