/-
  Functions of the translation that are worked out at given arguments: written by program (wip/gen.py).
-/
import Derived.Test.YtijddagljnlfmaaGreatDoorTkGx
import Derived.Test.YtijddagljnlfmaaGreatDoorDmWx
namespace Go.Am
open Go.Proofs
set_option maxRecDepth 100000
set_option linter.unusedVariables false

noncomputable abbrev CXf (f n : Nat) := CXL cfg (callw cfg) (LPL cfg (cfg.keep f) n) (cfg.keep f) n seqL blockL
noncomputable abbrev LPf (f n : Nat) := LPL cfg (cfg.keep f) n
/-! sortkey_flag -/
noncomputable def c46 (p0 : AV) (H : Hp) : Res := callw cfg 46 [p0] H
noncomputable def j46_1 (H0 : Hp) (H : Hp) : Res := CXf 46 14 (sub (bodyOf Tryz.f46) [1, 1]) (retL cfg 14 46 Tryz.f46 H0) [] H
noncomputable def b46_1 (H : Hp) : Res :=
  some ((.int .i64 0), H)
theorem e46_1 (H0 : Hp) (H : Hp) : j46_1 H0 H = b46_1 H := (CXM_eq [12] _ _ _ _).trans (by kernel_rfl)
theorem m46_1 : L0 (b46_1) (b46_1) := fun _ =>
  le_refl _
noncomputable def rj46_1 : A0 := b46_1
theorem sj46_1 (H0 : Hp) : L0 (rj46_1) (j46_1 H0) := fun _ => le_eq (m46_1 _) (e46_1 H0 _)
noncomputable def bc46 (j46_1 : A0) (p0 : AV) (H : Hp) : Res :=
  bnd (ibin .eql p0 (.int .u8 98)) fun t5_1 =>
  cnd t5_1
    (some ((.int .i64 8), H))
    (bnd (ibin .eql p0 (.int .u8 100)) fun t7_2 =>
    cnd t7_2
      (some ((.int .i64 16), H))
      (bnd (ibin .eql p0 (.int .u8 102)) fun t9_3 =>
      cnd t9_3
        (some ((.int .i64 4), H))
        (bnd (ibin .eql p0 (.int .u8 110)) fun t11_4 =>
        cnd t11_4
          (some ((.int .i64 1), H))
          (bnd (ibin .eql p0 (.int .u8 114)) fun t13_5 =>
          cnd t13_5
            (some ((.int .i64 2), H))
            (j46_1 H)))))
theorem ec46 (p0 : AV) (H : Hp) : c46 p0 H = bc46 (j46_1 H) p0 H := (callw_cxm (C := cfg) (fn := Tryz.f46) (c := bodyOf Tryz.f46) (n := 14) [12] Tryz.func46 (by kernel_rfl) (by kernel_rfl) [p0] (by kernel_rfl) H).trans (by kernel_rfl)
theorem mc46 {j46_1 dj46_1 : A0} (hj46_1 : L0 j46_1 dj46_1) : L1 (bc46 j46_1) (bc46 dj46_1) := fun _ _ =>
  bR fun _ => bK (le_refl _) (bR fun _ => bK (le_refl _) (bR fun _ => bK (le_refl _) (bR fun _ => bK (le_refl _) (bR fun _ => bK (le_refl _) (hj46_1 _)))))
noncomputable def rc46 : A1 := fun p0 H => bc46 (rj46_1) p0 H
theorem sc46 : L1 rc46 c46 := fun _ H => le_eq (mc46 (sj46_1 H) _ _) (ec46 _ _)
noncomputable def q46 : A1 := fun p0 H => flatC (callw cfg 46) [p0] H
noncomputable def rq46 : A1 := fun p0 H => flatC (ofL1 (rc46)) [p0] H
theorem sq46 : L1 rq46 q46 := fun _ _ => flat_le (ofL1_le (sc46)) _ _

/-! sortkey_reader_value -/
noncomputable def c47 (p0 p1 : AV) (H : Hp) : Res := callw cfg 47 [p0, p1] H
noncomputable def j47_2 (H0 : Hp) (x0 : AV) (H : Hp) : Res := CXf 47 37 (sub (bodyOf Tryz.f47) [1, 1, 1]) (retL cfg 37 47 Tryz.f47 H0) [(0, x0)] H
noncomputable def j47_1 (H0 : Hp) (x0 : AV) (H : Hp) : Res := CXf 47 37 (sub (bodyOf Tryz.f47) [1, 1]) (retL cfg 37 47 Tryz.f47 H0) [(0, x0)] H
noncomputable def b47_2 (x0 : AV) (H : Hp) : Res :=
  bnd (anil x0) fun t21_1 =>
  bnd (afield 6 t21_1) fun t22_2 =>
  bnd (aload false 1 t22_2 H) fun t23_3 =>
  bnd (ibin .add t23_3 (.int .i64 1)) fun t24_4 =>
  bnd (anil x0) fun t25_5 =>
  bnd (afield 6 t25_5) fun t26_6 =>
  bnd (astoreU 1 t26_6 t24_4 H) fun r_7 =>
  bnd (anil x0) fun t28_8 =>
  bnd (afield 5 t28_8) fun t29_9 =>
  bnd (aload false 1 t29_9 r_7.2) fun t30_10 =>
  bnd (anil x0) fun t32_11 =>
  bnd (afield 6 t32_11) fun t33_12 =>
  bnd (aload false 1 t33_12 r_7.2) fun t34_13 =>
  bnd (aindexS 1 t30_10 t34_13) fun t35_14 =>
  bnd (aload false 1 t35_14 r_7.2) fun t36_15 =>
  some ((.tuple [t36_15, (.bool true)]), r_7.2)
theorem e47_2 (H0 : Hp) (x0 : AV) (H : Hp) : j47_2 H0 x0 H = b47_2 x0 H := (CXM_eq [3, 5] _ _ _ _).trans (by kernel_rfl)
theorem m47_2 : L1 (b47_2) (b47_2) := fun _ _ =>
  bR fun _ => bR fun _ => bR fun _ => bR fun _ => bR fun _ => bR fun _ => bR fun _ => bR fun _ => bR fun _ => bR fun _ => bR fun _ => bR fun _ => bR fun _ => bR fun _ => bR fun _ => le_refl _
noncomputable def b47_1 (j47_2 : A1) (x0 : AV) (H : Hp) : Res :=
  bnd (anil x0) fun t10_16 =>
  bnd (afield 6 t10_16) fun t11_17 =>
  bnd (aload false 1 t11_17 H) fun t12_18 =>
  bnd (ibin .add t12_18 (.int .i64 1)) fun t13_19 =>
  bnd (anil x0) fun t15_20 =>
  bnd (afield 5 t15_20) fun t16_21 =>
  bnd (aload false 1 t16_21 H) fun t17_22 =>
  bnd (alenD (.slice 9) t17_22) fun t18_23 =>
  bnd (ibin .geq t13_19 t18_23) fun t19_24 =>
  cnd t19_24
    (some ((.tuple [(.str []), (.bool false)]), H))
    (j47_2 x0 H)
theorem e47_1 (H0 : Hp) (x0 : AV) (H : Hp) : j47_1 H0 x0 H = b47_1 (j47_2 H0) x0 H := (CXM_eq [3, 5] _ _ _ _).trans (by kernel_rfl)
theorem m47_1 {j47_2 dj47_2 : A1} (hj47_2 : L1 j47_2 dj47_2) : L1 (b47_1 j47_2) (b47_1 dj47_2) := fun _ _ =>
  bR fun _ => bR fun _ => bR fun _ => bR fun _ => bR fun _ => bR fun _ => bR fun _ => bR fun _ => bR fun _ => bK (le_refl _) (hj47_2 _ _)
noncomputable def rj47_2 : A1 := b47_2
theorem sj47_2 (H0 : Hp) : L1 (rj47_2) (j47_2 H0) := fun _ _ => le_eq (m47_2 _ _) (e47_2 H0 _ _)
noncomputable def rj47_1 : A1 := b47_1 (rj47_2)
theorem sj47_1 (H0 : Hp) : L1 (rj47_1) (j47_1 H0) := fun _ _ => le_eq (m47_1 (sj47_2 H0) _ _) (e47_1 H0 _ _)
noncomputable def bc47 (j47_1 : A1) (p0 p1 : AV) (H : Hp) : Res :=
  bnd (sbin .neq p1 (.str [])) fun t7_25 =>
  cnd t7_25
    (some ((.tuple [p1, (.bool true)]), H))
    (j47_1 p0 H)
theorem ec47 (p0 p1 : AV) (H : Hp) : c47 p0 p1 H = bc47 (j47_1 H) p0 p1 H := (callw_cxm (C := cfg) (fn := Tryz.f47) (c := bodyOf Tryz.f47) (n := 37) [3, 5] Tryz.func47 (by kernel_rfl) (by kernel_rfl) [p0, p1] (by kernel_rfl) H).trans (by kernel_rfl)
theorem mc47 {j47_1 dj47_1 : A1} (hj47_1 : L1 j47_1 dj47_1) : L2 (bc47 j47_1) (bc47 dj47_1) := fun _ _ _ =>
  bR fun _ => bK (le_refl _) (hj47_1 _ _)
noncomputable def rc47 : A2 := fun p0 p1 H => bc47 (rj47_1) p0 p1 H
theorem sc47 : L2 rc47 c47 := fun _ _ H => le_eq (mc47 (sj47_1 H) _ _ _) (ec47 _ _ _)

/-! sortkey_reader_option -/
noncomputable def c27 (p0 p1 : AV) (H : Hp) : Res := callw cfg 27 [p0, p1] H
noncomputable def j27_1 (H0 : Hp) (H : Hp) : Res := CXf 27 70 (sub (bodyOf Tryz.f27) [1, 1]) (retL cfg 70 27 Tryz.f27 H0) [] H
noncomputable def k27_1 (H0 : Hp) : KL := seqL (fun k al H => CXf 27 70 (sub (bodyOf Tryz.f27) [1, 1]) k (trimL (cfg.keep 27) (sub (bodyOf Tryz.f27) [1, 1]) al) H) (retL cfg 70 27 Tryz.f27 H0)
theorem k27_1_tame (H0 : Hp) : Tame 70 (k27_1 H0) := tame_seq (C := cfg) (kp := cfg.keep 27) (sub (bodyOf Tryz.f27) [1, 1]) (tame_ret 27 Tryz.f27 H0)
noncomputable def j27_3 (H0 : Hp) (x0 x6 : AV) (H : Hp) : Res := CXf 27 70 (sub (bodyOf Tryz.f27) [1, 0, 0, 0, 1, 0, 1, 1]) (blockL 1 (seqL (fun k al H => LPf 27 70 (sub (bodyOf Tryz.f27) [1, 0, 0, 0]) k (trimL (cfg.keep 27) (sub (bodyOf Tryz.f27) [1, 0, 0, 0]) al) H) (blockL 0 (k27_1 H0)))) [(0, x0), (6, x6)] H
noncomputable def k27_2 (H0 : Hp) : KL := seqL (fun k al H => CXf 27 70 (sub (bodyOf Tryz.f27) [1, 0, 0, 0, 1, 0, 1, 1]) k (trimL (cfg.keep 27) (sub (bodyOf Tryz.f27) [1, 0, 0, 0, 1, 0, 1, 1]) al) H) (blockL 1 (seqL (fun k al H => LPf 27 70 (sub (bodyOf Tryz.f27) [1, 0, 0, 0]) k (trimL (cfg.keep 27) (sub (bodyOf Tryz.f27) [1, 0, 0, 0]) al) H) (blockL 0 (k27_1 H0))))
noncomputable def j27_5 (H0 : Hp) (x7 x9 : AV) (H : Hp) : Res := CXf 27 70 (sub (bodyOf Tryz.f27) [1, 0, 0, 0, 1, 0, 1, 0, 0, 1, 1, 1, 1, 1, 1, 1, 0, 1, 1, 1, 1]) (blockL 2 (k27_2 H0)) [(7, x7), (9, x9)] H
noncomputable def j27_4 (H0 : Hp) (x0 x5 x7 : AV) (H : Hp) : Res := CXf 27 70 (sub (bodyOf Tryz.f27) [1, 0, 0, 0, 1, 0, 1, 0, 0, 1, 1, 1, 1, 1, 1, 1, 0, 1, 1]) (blockL 2 (k27_2 H0)) [(0, x0), (5, x5), (7, x7)] H
noncomputable def j27_2 (H0 : Hp) (x0 x1 : AV) (H : Hp) : Res := CXf 27 70 (sub (bodyOf Tryz.f27) [1, 0, 0, 0, 1]) (seqL (fun k al H => LPf 27 70 (sub (bodyOf Tryz.f27) [1, 0, 0, 0]) k (trimL (cfg.keep 27) (sub (bodyOf Tryz.f27) [1, 0, 0, 0]) al) H) (blockL 0 (k27_1 H0))) [(0, x0), (1, x1)] H
noncomputable def j27_l1 (H0 : Hp) (x0 x1 : AV) (H : Hp) : Res := LPf 27 70 (sub (bodyOf Tryz.f27) [1, 0, 0, 0]) (blockL 0 (k27_1 H0)) [(0, x0), (1, x1)] H
noncomputable def b27_1 (H : Hp) : Res :=
  some ((.int .i64 0), H)
theorem e27_1 (H0 : Hp) (H : Hp) : j27_1 H0 H = b27_1 H := (CXM_eq [2, 14, 17, 18, 19] _ _ _ _).trans (by kernel_rfl)
theorem m27_1 : L0 (b27_1) (b27_1) := fun _ =>
  le_refl _
noncomputable def b27_3 (j27_l1 : A2) (x0 x6 : AV) (H : Hp) : Res :=
  j27_l1 x0 x6 H
theorem e27_3 (H0 : Hp) (x0 x6 : AV) (H : Hp) : j27_3 H0 x0 x6 H = b27_3 (j27_l1 H0) x0 x6 H := (CXM_eq [2, 14, 17, 18, 19] _ _ _ _).trans (by kernel_rfl)
theorem m27_3 {j27_l1 dj27_l1 : A2} (hj27_l1 : L2 j27_l1 dj27_l1) : L2 (b27_3 j27_l1) (b27_3 dj27_l1) := fun _ _ _ =>
  hj27_l1 _ _ _
noncomputable def b27_5 (cV : AV → List AV → Hp → Res) (x7 x9 : AV) (H : Hp) : Res :=
  bnd (cV x9 [x7] H) fun r68_33 =>
  some (r68_33.1, r68_33.2)
theorem e27_5 (H0 : Hp) (x7 x9 : AV) (H : Hp) : j27_5 H0 x7 x9 H = b27_5 (acall cfg (callw cfg)) x7 x9 H := (CXM_eq [2, 14, 17, 18, 19] _ _ _ _).trans (by kernel_rfl)
theorem m27_5 {cV dcV : AV → List AV → Hp → Res} (hcV : LV cV dcV) : L2 (b27_5 cV) (b27_5 dcV) := fun _ _ _ =>
  bC (hcV _ _ _) fun _ => le_refl _
noncomputable def b27_4 (j27_5 : A2) (x0 x5 x7 : AV) (H : Hp) : Res :=
  bnd (some (.fn (.func 48) [x0] [])) fun t61_32 =>
  bnd (ibin .eql x5 (.int .u8 116)) fun t63_34 =>
  cnd t63_34
    (bnd (some (.fn (.func 49) [x0] [])) fun t65_35 =>
    j27_5 x7 t65_35 H)
    (j27_5 x7 t61_32 H)
theorem e27_4 (H0 : Hp) (x0 x5 x7 : AV) (H : Hp) : j27_4 H0 x0 x5 x7 H = b27_4 (j27_5 H0) x0 x5 x7 H := (CXM_eq [2, 14, 17, 18, 19] _ _ _ _).trans (by kernel_rfl)
theorem m27_4 {j27_5 dj27_5 : A2} (hj27_5 : L2 j27_5 dj27_5) : L3 (b27_4 j27_5) (b27_4 dj27_5) := fun _ _ _ _ =>
  bR fun _ => bR fun _ => bK (bR fun _ => hj27_5 _ _ _) (hj27_5 _ _ _)
noncomputable def b27_2 (c47 : A2) (q46 : A1) (j27_3 : A2) (j27_4 : A3) (x0 x1 : AV) (H : Hp) : Res :=
  bnd (aindexStr x1 (.int .i64 0)) fun t13_1 =>
  bnd (asliceS x1 (some (.int .i64 1)) none none) fun t15_2 =>
  bnd (q46 t13_1 H) fun r18_3 =>
  bnd (ibin .neq r18_3.1 (.int .i64 0)) fun t19_4 =>
  cnd t19_4
    (bnd (anil x0) fun t21_5 =>
    bnd (afield 0 t21_5) fun t22_6 =>
    bnd (afield 2 t22_6) fun t23_7 =>
    bnd (aload false 1 t23_7 r18_3.2) fun t24_8 =>
    bnd (q46 t13_1 r18_3.2) fun r26_9 =>
    bnd (ibin .or t24_8 r26_9.1) fun t27_10 =>
    bnd (anil x0) fun t28_11 =>
    bnd (afield 0 t28_11) fun t29_12 =>
    bnd (afield 2 t29_12) fun t30_13 =>
    bnd (astoreU 1 t30_13 t27_10 r26_9.2) fun r_14 =>
    j27_3 x0 t15_2 r_14.2)
    (bnd (ibin .eql t13_1 (.int .u8 117)) fun t33_15 =>
    cnd t33_15
      (bnd (anil x0) fun t35_16 =>
      bnd (afield 0 t35_16) fun t36_17 =>
      bnd (afield 3 t36_17) fun t37_18 =>
      bnd (astoreU 1 t37_18 (.bool true) r18_3.2) fun r_19 =>
      j27_3 x0 t15_2 r_19.2)
      (bnd (ibin .eql t13_1 (.int .u8 115)) fun t40_20 =>
      cnd t40_20
        (bnd (anil x0) fun t42_21 =>
        bnd (afield 0 t42_21) fun t43_22 =>
        bnd (afield 4 t43_22) fun t44_23 =>
        bnd (astoreU 1 t44_23 (.bool true) r18_3.2) fun r_24 =>
        j27_3 x0 t15_2 r_24.2)
        (bnd (ibin .eql t13_1 (.int .u8 116)) fun t47_25 =>
        bnd (gdv t47_25 false (.tuple []) (some t13_1)) fun t49_26 =>
        bnd (gdv t47_25 false (.tuple []) (ibin .eql t49_26 (.int .u8 107))) fun t50_27 =>
        bnd (apick t47_25 (.bool true) t50_27) fun t51_28 =>
        cnd t51_28
          (bnd (c47 x0 t15_2 r18_3.2) fun r55_29 =>
          bnd (aext r55_29.1 0) fun t56_30 =>
          bnd (aext r55_29.1 1) fun t57_31 =>
          bnd (aun .not t57_31) fun t59_36 =>
          cnd t59_36
            (some ((.int .i64 18), r55_29.2))
            (j27_4 x0 t13_1 t56_30 r55_29.2))
          (some ((.int .i64 18), r18_3.2)))))
theorem e27_2 (H0 : Hp) (x0 x1 : AV) (H : Hp) : j27_2 H0 x0 x1 H = b27_2 c47 q46 (j27_3 H0) (j27_4 H0) x0 x1 H := (CXM_eq [2, 14, 17, 18, 19] _ _ _ _).trans (by kernel_rfl)
theorem m27_2 {c47 dc47 : A2} (hc47 : L2 c47 dc47) {q46 dq46 : A1} (hq46 : L1 q46 dq46) {j27_3 dj27_3 : A2} (hj27_3 : L2 j27_3 dj27_3) {j27_4 dj27_4 : A3} (hj27_4 : L3 j27_4 dj27_4) : L2 (b27_2 c47 q46 j27_3 j27_4) (b27_2 dc47 dq46 dj27_3 dj27_4) := fun _ _ _ =>
  bR fun _ => bR fun _ => bC (hq46 _ _) fun _ => bR fun _ => bK (bR fun _ => bR fun _ => bR fun _ => bR fun _ => bC (hq46 _ _) fun _ => bR fun _ => bR fun _ => bR fun _ => bR fun _ => bR fun _ => hj27_3 _ _ _) (bR fun _ => bK (bR fun _ => bR fun _ => bR fun _ => bR fun _ => hj27_3 _ _ _) (bR fun _ => bK (bR fun _ => bR fun _ => bR fun _ => bR fun _ => hj27_3 _ _ _) (bR fun _ => bR fun _ => bR fun _ => bR fun _ => bK (bC (hc47 _ _ _) fun _ => bR fun _ => bR fun _ => bR fun _ => bK (le_refl _) (hj27_4 _ _ _ _)) (le_refl _))))
noncomputable def b27_l1 (j27_1 : A0) (j27_2 : A2) (x0 x1 : AV) (H : Hp) : Res :=
  bnd (sbin .neq x1 (.str [])) fun t11_37 =>
  cnd t11_37
    (j27_2 x0 x1 H)
    (j27_1 H)
theorem e27_l1 (H0 : Hp) (x0 x1 : AV) (H : Hp) : j27_l1 H0 x0 x1 H = b27_l1 (j27_1 H0) (j27_2 H0) x0 x1 H := (LPL_eqm (C := cfg) [2, 14, 17, 18, 19] (tame_block 0 (k27_1_tame H0)) _ _).trans (by kernel_rfl)
theorem m27_l1 {j27_1 dj27_1 : A0} (hj27_1 : L0 j27_1 dj27_1) {j27_2 dj27_2 : A2} (hj27_2 : L2 j27_2 dj27_2) : L2 (b27_l1 j27_1 j27_2) (b27_l1 dj27_1 dj27_2) := fun _ _ _ =>
  bR fun _ => bK (hj27_2 _ _ _) (hj27_1 _)
noncomputable def rj27_1 (gV : AV → List AV → Hp → Res) : A0 := b27_1
theorem sj27_1 (H0 : Hp) {gV : AV → List AV → Hp → Res} (hV : LV gV (acall cfg (callw cfg))) : L0 (rj27_1 gV) (j27_1 H0) := fun _ => le_eq (m27_1 _) (e27_1 H0 _)
noncomputable def rj27_3 (gV : AV → List AV → Hp → Res) (j27_l1 : A2) : A2 := b27_3 j27_l1
theorem sj27_3 (H0 : Hp) {gV : AV → List AV → Hp → Res} (hV : LV gV (acall cfg (callw cfg))) {yj27_l1 : A2} (hj27_l1 : L2 yj27_l1 (j27_l1 H0)) : L2 (rj27_3 gV yj27_l1) (j27_3 H0) := fun _ _ _ => le_eq (m27_3 hj27_l1 _ _ _) (e27_3 H0 _ _ _)
noncomputable def rj27_5 (gV : AV → List AV → Hp → Res) : A2 := b27_5 gV
theorem sj27_5 (H0 : Hp) {gV : AV → List AV → Hp → Res} (hV : LV gV (acall cfg (callw cfg))) : L2 (rj27_5 gV) (j27_5 H0) := fun _ _ _ => le_eq (m27_5 hV _ _ _) (e27_5 H0 _ _ _)
noncomputable def rj27_4 (gV : AV → List AV → Hp → Res) : A3 := b27_4 (rj27_5 gV)
theorem sj27_4 (H0 : Hp) {gV : AV → List AV → Hp → Res} (hV : LV gV (acall cfg (callw cfg))) : L3 (rj27_4 gV) (j27_4 H0) := fun _ _ _ _ => le_eq (m27_4 (sj27_5 H0 hV) _ _ _ _) (e27_4 H0 _ _ _ _)
noncomputable def rj27_2 (gV : AV → List AV → Hp → Res) (j27_l1 : A2) : A2 := b27_2 rc47 rq46 (rj27_3 gV j27_l1) (rj27_4 gV)
theorem sj27_2 (H0 : Hp) {gV : AV → List AV → Hp → Res} (hV : LV gV (acall cfg (callw cfg))) {yj27_l1 : A2} (hj27_l1 : L2 yj27_l1 (j27_l1 H0)) : L2 (rj27_2 gV yj27_l1) (j27_2 H0) := fun _ _ _ => le_eq (m27_2 sc47 sq46 (sj27_3 H0 hV hj27_l1) (sj27_4 H0 hV) _ _ _) (e27_2 H0 _ _ _)
noncomputable def rj27_l1 (gV : AV → List AV → Hp → Res) (n : Nat) : A2 := @Nat.rec (fun _ => A2) (fun _ _ _ => none) (fun _ j27_l1 => b27_l1 (rj27_1 gV) (rj27_2 gV j27_l1)) n
theorem sj27_l1 (H0 : Hp) {gV : AV → List AV → Hp → Res} (hV : LV gV (acall cfg (callw cfg))) (n : Nat) : L2 (rj27_l1 gV n) (j27_l1 H0) := by
  induction n with
  | zero => exact fun _ _ _ => le_none _
  | succ n hj27_l1 => exact fun _ _ _ => le_eq (m27_l1 (sj27_1 H0 hV) (sj27_2 H0 hV hj27_l1) _ _ _) (e27_l1 H0 _ _ _)
noncomputable def bc27 (j27_l1 : A2) (p0 p1 : AV) (H : Hp) : Res :=
  j27_l1 p0 p1 H
theorem ec27 (p0 p1 : AV) (H : Hp) : c27 p0 p1 H = bc27 (j27_l1 H) p0 p1 H := (callw_cxm (C := cfg) (fn := Tryz.f27) (c := bodyOf Tryz.f27) (n := 70) [2, 14, 17, 18, 19] Tryz.func27 (by kernel_rfl) (by kernel_rfl) [p0, p1] (by kernel_rfl) H).trans (by kernel_rfl)
theorem mc27 {j27_l1 dj27_l1 : A2} (hj27_l1 : L2 j27_l1 dj27_l1) : L2 (bc27 j27_l1) (bc27 dj27_l1) := fun _ _ _ =>
  hj27_l1 _ _ _
noncomputable def rc27 (gV : AV → List AV → Hp → Res) : A2 := fun p0 p1 H => bc27 (rj27_l1 gV 100000) p0 p1 H
theorem sc27 {gV : AV → List AV → Hp → Res} (hV : LV gV (acall cfg (callw cfg))) : L2 (rc27 gV) c27 := fun _ _ H => le_eq (mc27 (sj27_l1 H hV 100000) _ _ _) (ec27 _ _ _)

/-! sortkey_Parse -/
noncomputable def c11 (p0 : AV) (H : Hp) : Res := callw cfg 11 [p0] H
noncomputable def j11_1 (H0 : Hp) (x0 x2 x6 : AV) (H : Hp) : Res := CXf 11 77 (sub (bodyOf Tryz.f11) [1, 1, 1]) (retL cfg 77 11 Tryz.f11 H0) [(0, x0), (2, x2), (6, x6)] H
noncomputable def k11_1 (H0 : Hp) : KL := seqL (fun k al H => CXf 11 77 (sub (bodyOf Tryz.f11) [1, 1, 1]) k (trimL (cfg.keep 11) (sub (bodyOf Tryz.f11) [1, 1, 1]) al) H) (retL cfg 77 11 Tryz.f11 H0)
theorem k11_1_tame (H0 : Hp) : Tame 77 (k11_1 H0) := tame_seq (C := cfg) (kp := cfg.keep 11) (sub (bodyOf Tryz.f11) [1, 1, 1]) (tame_ret 11 Tryz.f11 H0)
noncomputable def j11_3 (H0 : Hp) (x0 x2 x6 : AV) (H : Hp) : Res := CXf 11 77 (sub (bodyOf Tryz.f11) [1, 1, 0, 0, 0, 1, 1]) (seqL (fun k al H => LPf 11 77 (sub (bodyOf Tryz.f11) [1, 1, 0, 0, 0]) k (trimL (cfg.keep 11) (sub (bodyOf Tryz.f11) [1, 1, 0, 0, 0]) al) H) (blockL 0 (k11_1 H0))) [(0, x0), (2, x2), (6, x6)] H
noncomputable def k11_2 (H0 : Hp) : KL := seqL (fun k al H => CXf 11 77 (sub (bodyOf Tryz.f11) [1, 1, 0, 0, 0, 1, 1]) k (trimL (cfg.keep 11) (sub (bodyOf Tryz.f11) [1, 1, 0, 0, 0, 1, 1]) al) H) (seqL (fun k al H => LPf 11 77 (sub (bodyOf Tryz.f11) [1, 1, 0, 0, 0]) k (trimL (cfg.keep 11) (sub (bodyOf Tryz.f11) [1, 1, 0, 0, 0]) al) H) (blockL 0 (k11_1 H0)))
noncomputable def j11_5 (H0 : Hp) (x0 x2 x6 x7 : AV) (H : Hp) : Res := CXf 11 77 (sub (bodyOf Tryz.f11) [1, 1, 0, 0, 0, 1, 0, 0, 1, 1, 1]) (blockL 1 (k11_2 H0)) [(0, x0), (2, x2), (6, x6), (7, x7)] H
noncomputable def j11_4 (H0 : Hp) (x0 x2 x6 x7 : AV) (H : Hp) : Res := CXf 11 77 (sub (bodyOf Tryz.f11) [1, 1, 0, 0, 0, 1, 0, 0, 1, 1]) (blockL 1 (k11_2 H0)) [(0, x0), (2, x2), (6, x6), (7, x7)] H
noncomputable def j11_2 (H0 : Hp) (x0 x2 x6 : AV) (H : Hp) : Res := CXf 11 77 (sub (bodyOf Tryz.f11) [1, 1, 0, 0, 0, 1]) (seqL (fun k al H => LPf 11 77 (sub (bodyOf Tryz.f11) [1, 1, 0, 0, 0]) k (trimL (cfg.keep 11) (sub (bodyOf Tryz.f11) [1, 1, 0, 0, 0]) al) H) (blockL 0 (k11_1 H0))) [(0, x0), (2, x2), (6, x6)] H
noncomputable def j11_l1 (H0 : Hp) (x0 x2 x6 : AV) (H : Hp) : Res := LPf 11 77 (sub (bodyOf Tryz.f11) [1, 1, 0, 0, 0]) (blockL 0 (k11_1 H0)) [(0, x0), (2, x2), (6, x6)] H
noncomputable def b11_1 (x0 x2 x6 : AV) (H : Hp) : Res :=
  bnd (anil x6) fun t67_5 =>
  bnd (afield 6 t67_5) fun t68_6 =>
  bnd (aload false 1 t68_6 H) fun t69_7 =>
  bnd (asliceV 1 x0 (some t69_7) none none) fun t70_8 =>
  bnd (aappE 1 16 .nils t70_8 H) fun r71_9 =>
  bnd (anil x6) fun t73_10 =>
  bnd (afield 0 t73_10) fun t74_11 =>
  bnd (aload true 5 t74_11 r71_9.2) fun t75_12 =>
  bnd (astoreU 5 x2 t75_12 r71_9.2) fun r_13 =>
  bnd (aload true 5 x2 r_13.2) fun v2_14 =>
  some ((.tuple [v2_14, r71_9.1, (.int .i64 0), (.int .i64 0)]), r_13.2)
theorem e11_1 (H0 : Hp) (x0 x2 x6 : AV) (H : Hp) : j11_1 H0 x0 x2 x6 H = b11_1 x0 x2 x6 H := (CXM_eq [3, 4, 7, 8, 11] _ _ _ _).trans (by kernel_rfl)
theorem m11_1 : L3 (b11_1) (b11_1) := fun _ _ _ _ =>
  bR fun _ => bR fun _ => bR fun _ => bR fun _ => bR fun _ => bR fun _ => bR fun _ => bR fun _ => bR fun _ => bR fun _ => le_refl _
noncomputable def b11_3 (j11_l1 : A3) (x0 x2 x6 : AV) (H : Hp) : Res :=
  bnd (anil x6) fun t22_15 =>
  bnd (afield 6 t22_15) fun t23_16 =>
  bnd (aload false 1 t23_16 H) fun t24_17 =>
  bnd (ibin .add t24_17 (.int .i64 1)) fun t25_18 =>
  bnd (anil x6) fun t26_19 =>
  bnd (afield 6 t26_19) fun t27_20 =>
  bnd (astoreU 1 t27_20 t25_18 H) fun r_21 =>
  j11_l1 x0 x2 x6 r_21.2
theorem e11_3 (H0 : Hp) (x0 x2 x6 : AV) (H : Hp) : j11_3 H0 x0 x2 x6 H = b11_3 (j11_l1 H0) x0 x2 x6 H := (CXM_eq [3, 4, 7, 8, 11] _ _ _ _).trans (by kernel_rfl)
theorem m11_3 {j11_l1 dj11_l1 : A3} (hj11_l1 : L3 j11_l1 dj11_l1) : L3 (b11_3 j11_l1) (b11_3 dj11_l1) := fun _ _ _ _ =>
  bR fun _ => bR fun _ => bR fun _ => bR fun _ => bR fun _ => bR fun _ => bR fun _ => hj11_l1 _ _ _ _
noncomputable def b11_5 (c27 : A2) (j11_3 : A3) (x0 x2 x6 x7 : AV) (H : Hp) : Res :=
  bnd (asliceS x7 (some (.int .i64 1)) none none) fun t54_27 =>
  bnd (c27 x6 t54_27 H) fun r55_28 =>
  bnd (ibin .neq r55_28.1 (.int .i64 0)) fun t57_29 =>
  cnd t57_29
    (frzK x6 r55_28.2 fun z6_30 z6_30H =>
    bnd (some (.agg [.nils, (.int .i64 0), (.int .i64 0), (.bool false), (.bool false)])) fun t58_31 =>
    bnd (anil z6_30) fun t61_32 =>
    bnd (afield 6 t61_32) fun t62_33 =>
    bnd (aloadv false 1 t62_33) fun t63_34 =>
    bnd (astoreU 5 x2 t58_31 z6_30H) fun r_35 =>
    bnd (aload true 5 x2 r_35.2) fun v2_36 =>
    some ((.tuple [v2_36, .nils, r55_28.1, t63_34]), r_35.2))
    (j11_3 x0 x2 x6 r55_28.2)
theorem e11_5 (H0 : Hp) (x0 x2 x6 x7 : AV) (H : Hp) : j11_5 H0 x0 x2 x6 x7 H = b11_5 c27 (j11_3 H0) x0 x2 x6 x7 H := (CXM_eq [3, 4, 7, 8, 11] _ _ _ _).trans (by kernel_rfl)
theorem m11_5 {c27 dc27 : A2} (hc27 : L2 c27 dc27) {j11_3 dj11_3 : A3} (hj11_3 : L3 j11_3 dj11_3) : L4 (b11_5 c27 j11_3) (b11_5 dc27 dj11_3) := fun _ _ _ _ _ =>
  bR fun _ => bC (hc27 _ _ _) fun _ => bR fun _ => bK (bF fun _ _ => bR fun _ => bR fun _ => bR fun _ => bR fun _ => bR fun _ => bR fun _ => le_refl _) (hj11_3 _ _ _ _)
noncomputable def b11_4 (j11_1 : A3) (j11_5 : A4) (x0 x2 x6 x7 : AV) (H : Hp) : Res :=
  bnd (alenD .string x7) fun t45_37 =>
  bnd (ibin .lss t45_37 (.int .i64 2)) fun t46_38 =>
  bnd (gdv t46_38 false (.tuple []) (some x7)) fun t48_39 =>
  bnd (gdv t46_38 false (.tuple []) (aindexStr t48_39 (.int .i64 0))) fun t49_40 =>
  bnd (gdv t46_38 false (.tuple []) (ibin .neq t49_40 (.int .u8 45))) fun t50_41 =>
  bnd (apick t46_38 (.bool true) t50_41) fun t51_42 =>
  cnd t51_42
    (j11_1 x0 x2 x6 H)
    (j11_5 x0 x2 x6 x7 H)
theorem e11_4 (H0 : Hp) (x0 x2 x6 x7 : AV) (H : Hp) : j11_4 H0 x0 x2 x6 x7 H = b11_4 (j11_1 H0) (j11_5 H0) x0 x2 x6 x7 H := (CXM_eq [3, 4, 7, 8, 11] _ _ _ _).trans (by kernel_rfl)
theorem m11_4 {j11_1 dj11_1 : A3} (hj11_1 : L3 j11_1 dj11_1) {j11_5 dj11_5 : A4} (hj11_5 : L4 j11_5 dj11_5) : L4 (b11_4 j11_1 j11_5) (b11_4 dj11_1 dj11_5) := fun _ _ _ _ _ =>
  bR fun _ => bR fun _ => bR fun _ => bR fun _ => bR fun _ => bR fun _ => bK (hj11_1 _ _ _ _) (hj11_5 _ _ _ _ _)
noncomputable def b11_2 (j11_1 : A3) (j11_4 : A4) (x0 x2 x6 : AV) (H : Hp) : Res :=
  bnd (anil x6) fun t30_22 =>
  bnd (afield 6 t30_22) fun t31_23 =>
  bnd (aload false 1 t31_23 H) fun t32_24 =>
  bnd (aindexS 1 x0 t32_24) fun t33_25 =>
  bnd (aload false 1 t33_25 H) fun t34_26 =>
  bnd (sbin .eql t34_26 (.str [45, 45])) fun t36_43 =>
  cnd t36_43
    (bnd (anil x6) fun t38_44 =>
    bnd (afield 6 t38_44) fun t39_45 =>
    bnd (aload false 1 t39_45 H) fun t40_46 =>
    bnd (ibin .add t40_46 (.int .i64 1)) fun t41_47 =>
    bnd (anil x6) fun t42_48 =>
    bnd (afield 6 t42_48) fun t43_49 =>
    bnd (astoreU 1 t43_49 t41_47 H) fun r_50 =>
    j11_1 x0 x2 x6 r_50.2)
    (j11_4 x0 x2 x6 t34_26 H)
theorem e11_2 (H0 : Hp) (x0 x2 x6 : AV) (H : Hp) : j11_2 H0 x0 x2 x6 H = b11_2 (j11_1 H0) (j11_4 H0) x0 x2 x6 H := (CXM_eq [3, 4, 7, 8, 11] _ _ _ _).trans (by kernel_rfl)
theorem m11_2 {j11_1 dj11_1 : A3} (hj11_1 : L3 j11_1 dj11_1) {j11_4 dj11_4 : A4} (hj11_4 : L4 j11_4 dj11_4) : L3 (b11_2 j11_1 j11_4) (b11_2 dj11_1 dj11_4) := fun _ _ _ _ =>
  bR fun _ => bR fun _ => bR fun _ => bR fun _ => bR fun _ => bR fun _ => bK (bR fun _ => bR fun _ => bR fun _ => bR fun _ => bR fun _ => bR fun _ => bR fun _ => hj11_1 _ _ _ _) (hj11_4 _ _ _ _ _)
noncomputable def b11_l1 (j11_1 : A3) (j11_2 : A3) (x0 x2 x6 : AV) (H : Hp) : Res :=
  bnd (anil x6) fun t15_51 =>
  bnd (afield 6 t15_51) fun t16_52 =>
  bnd (aload false 1 t16_52 H) fun t17_53 =>
  bnd (alenD (.slice 9) x0) fun t19_54 =>
  bnd (ibin .lss t17_53 t19_54) fun t20_55 =>
  cnd t20_55
    (j11_2 x0 x2 x6 H)
    (j11_1 x0 x2 x6 H)
theorem e11_l1 (H0 : Hp) (x0 x2 x6 : AV) (H : Hp) : j11_l1 H0 x0 x2 x6 H = b11_l1 (j11_1 H0) (j11_2 H0) x0 x2 x6 H := (LPL_eqm (C := cfg) [3, 4, 7, 8, 11] (tame_block 0 (k11_1_tame H0)) _ _).trans (by kernel_rfl)
theorem m11_l1 {j11_1 dj11_1 : A3} (hj11_1 : L3 j11_1 dj11_1) {j11_2 dj11_2 : A3} (hj11_2 : L3 j11_2 dj11_2) : L3 (b11_l1 j11_1 j11_2) (b11_l1 dj11_1 dj11_2) := fun _ _ _ _ =>
  bR fun _ => bR fun _ => bR fun _ => bR fun _ => bR fun _ => bK (hj11_2 _ _ _ _) (hj11_1 _ _ _ _)
noncomputable def rj11_1 (gV : AV → List AV → Hp → Res) : A3 := b11_1
theorem sj11_1 (H0 : Hp) {gV : AV → List AV → Hp → Res} (hV : LV gV (acall cfg (callw cfg))) : L3 (rj11_1 gV) (j11_1 H0) := fun _ _ _ _ => le_eq (m11_1 _ _ _ _) (e11_1 H0 _ _ _ _)
noncomputable def rj11_3 (gV : AV → List AV → Hp → Res) (j11_l1 : A3) : A3 := b11_3 j11_l1
theorem sj11_3 (H0 : Hp) {gV : AV → List AV → Hp → Res} (hV : LV gV (acall cfg (callw cfg))) {yj11_l1 : A3} (hj11_l1 : L3 yj11_l1 (j11_l1 H0)) : L3 (rj11_3 gV yj11_l1) (j11_3 H0) := fun _ _ _ _ => le_eq (m11_3 hj11_l1 _ _ _ _) (e11_3 H0 _ _ _ _)
noncomputable def rj11_5 (gV : AV → List AV → Hp → Res) (j11_l1 : A3) : A4 := b11_5 (rc27 gV) (rj11_3 gV j11_l1)
theorem sj11_5 (H0 : Hp) {gV : AV → List AV → Hp → Res} (hV : LV gV (acall cfg (callw cfg))) {yj11_l1 : A3} (hj11_l1 : L3 yj11_l1 (j11_l1 H0)) : L4 (rj11_5 gV yj11_l1) (j11_5 H0) := fun _ _ _ _ _ => le_eq (m11_5 (sc27 hV) (sj11_3 H0 hV hj11_l1) _ _ _ _ _) (e11_5 H0 _ _ _ _ _)
noncomputable def rj11_4 (gV : AV → List AV → Hp → Res) (j11_l1 : A3) : A4 := b11_4 (rj11_1 gV) (rj11_5 gV j11_l1)
theorem sj11_4 (H0 : Hp) {gV : AV → List AV → Hp → Res} (hV : LV gV (acall cfg (callw cfg))) {yj11_l1 : A3} (hj11_l1 : L3 yj11_l1 (j11_l1 H0)) : L4 (rj11_4 gV yj11_l1) (j11_4 H0) := fun _ _ _ _ _ => le_eq (m11_4 (sj11_1 H0 hV) (sj11_5 H0 hV hj11_l1) _ _ _ _ _) (e11_4 H0 _ _ _ _ _)
noncomputable def rj11_2 (gV : AV → List AV → Hp → Res) (j11_l1 : A3) : A3 := b11_2 (rj11_1 gV) (rj11_4 gV j11_l1)
theorem sj11_2 (H0 : Hp) {gV : AV → List AV → Hp → Res} (hV : LV gV (acall cfg (callw cfg))) {yj11_l1 : A3} (hj11_l1 : L3 yj11_l1 (j11_l1 H0)) : L3 (rj11_2 gV yj11_l1) (j11_2 H0) := fun _ _ _ _ => le_eq (m11_2 (sj11_1 H0 hV) (sj11_4 H0 hV hj11_l1) _ _ _ _) (e11_2 H0 _ _ _ _)
noncomputable def rj11_l1 (gV : AV → List AV → Hp → Res) (n : Nat) : A3 := @Nat.rec (fun _ => A3) (fun _ _ _ _ => none) (fun _ j11_l1 => b11_l1 (rj11_1 gV) (rj11_2 gV j11_l1)) n
theorem sj11_l1 (H0 : Hp) {gV : AV → List AV → Hp → Res} (hV : LV gV (acall cfg (callw cfg))) (n : Nat) : L3 (rj11_l1 gV n) (j11_l1 H0) := by
  induction n with
  | zero => exact fun _ _ _ _ => le_none _
  | succ n hj11_l1 => exact fun _ _ _ _ => le_eq (m11_l1 (sj11_1 H0 hV) (sj11_2 H0 hV hj11_l1) _ _ _ _) (e11_l1 H0 _ _ _ _)
noncomputable def bc11 (j11_l1 : A3) (p0 : AV) (H : Hp) : Res :=
  bnd (some ((.ptr H.length 0), H ++ [.cells [.nils, (.int .i64 0), (.int .i64 0), (.bool false), (.bool false)]])) fun r2_1 =>
  bnd ((afill [(1, 1, (.int .i64 (-1)))] [.nils, (.int .i64 0), (.int .i64 0), (.bool false), (.bool false)]).map .agg) fun t10_2 =>
  bnd ((afill [(0, 5, t10_2), (5, 1, p0)] [.nils, (.int .i64 0), (.int .i64 0), (.bool false), (.bool false), .nils, (.int .i64 0)]).map .agg) fun t12_3 =>
  bnd (abox t12_3 r2_1.2) fun r13_4 =>
  j11_l1 p0 r2_1.1 r13_4.1 r13_4.2
theorem ec11 (p0 : AV) (H : Hp) : c11 p0 H = bc11 (j11_l1 H) p0 H := (callw_cxm (C := cfg) (fn := Tryz.f11) (c := bodyOf Tryz.f11) (n := 77) [3, 4, 7, 8, 11] Tryz.func11 (by kernel_rfl) (by kernel_rfl) [p0] (by kernel_rfl) H).trans (by kernel_rfl)
theorem mc11 {j11_l1 dj11_l1 : A3} (hj11_l1 : L3 j11_l1 dj11_l1) : L1 (bc11 j11_l1) (bc11 dj11_l1) := fun _ _ =>
  bR fun _ => bR fun _ => bR fun _ => bR fun _ => hj11_l1 _ _ _ _
noncomputable def rc11 (gV : AV → List AV → Hp → Res) : A1 := fun p0 H => bc11 (rj11_l1 gV 100000) p0 H
theorem sc11 {gV : AV → List AV → Hp → Res} (hV : LV gV (acall cfg (callw cfg))) : L1 (rc11 gV) c11 := fun _ H => le_eq (mc11 (sj11_l1 H hV 100000) _ _) (ec11 _ _)

/-! internal_stringslite_IndexByte -/
noncomputable def c80 (p0 p1 : AV) (H : Hp) : Res := callw cfg 80 [p0, p1] H
noncomputable def bc80 (p0 p1 : AV) (H : Hp) : Res :=
  bnd (extC .indexByte [p0, p1] H) fun r7_1 =>
  some (r7_1.1, r7_1.2)
theorem ec80 (p0 p1 : AV) (H : Hp) : c80 p0 p1 H = bc80 p0 p1 H := (callw_cxm (C := cfg) (fn := Tryz.f80) (c := bodyOf Tryz.f80) (n := 8) [] Tryz.func80 (by kernel_rfl) (by kernel_rfl) [p0, p1] (by kernel_rfl) H).trans (by kernel_rfl)
theorem mc80 : L2 (bc80) (bc80) := fun _ _ _ =>
  bR fun _ => le_refl _
noncomputable def rc80 : A2 := fun p0 p1 H => bc80 p0 p1 H
theorem sc80 : L2 rc80 c80 := fun _ _ H => le_eq (mc80 _ _ _) (ec80 _ _ _)

/-! strings_IndexByte -/
noncomputable def c52 (p0 p1 : AV) (H : Hp) : Res := callw cfg 52 [p0, p1] H
noncomputable def bc52 (c80 : A2) (p0 p1 : AV) (H : Hp) : Res :=
  bnd (c80 p0 p1 H) fun r7_1 =>
  some (r7_1.1, r7_1.2)
theorem ec52 (p0 p1 : AV) (H : Hp) : c52 p0 p1 H = bc52 c80 p0 p1 H := (callw_cxm (C := cfg) (fn := Tryz.f52) (c := bodyOf Tryz.f52) (n := 8) [] Tryz.func52 (by kernel_rfl) (by kernel_rfl) [p0, p1] (by kernel_rfl) H).trans (by kernel_rfl)
theorem mc52 {c80 dc80 : A2} (hc80 : L2 c80 dc80) : L2 (bc52 c80) (bc52 dc80) := fun _ _ _ =>
  bC (hc80 _ _ _) fun _ => le_refl _
noncomputable def rc52 : A2 := fun p0 p1 H => bc52 rc80 p0 p1 H
theorem sc52 : L2 rc52 c52 := fun _ _ H => le_eq (mc52 sc80 _ _ _) (ec52 _ _ _)

/-! sortkey_blank -/
noncomputable def c53 (p0 : AV) (H : Hp) : Res := callw cfg 53 [p0] H
noncomputable def bc53 (p0 : AV) (H : Hp) : Res :=
  bnd (ibin .eql p0 (.int .u8 32)) fun t4_1 =>
  bnd (gdv t4_1 false (.tuple []) (some p0)) fun t6_2 =>
  bnd (gdv t4_1 false (.tuple []) (ibin .eql t6_2 (.int .u8 9))) fun t7_3 =>
  bnd (apick t4_1 (.bool true) t7_3) fun t8_4 =>
  some (t8_4, H)
theorem ec53 (p0 : AV) (H : Hp) : c53 p0 H = bc53 p0 H := (callw_cxm (C := cfg) (fn := Tryz.f53) (c := bodyOf Tryz.f53) (n := 9) [] Tryz.func53 (by kernel_rfl) (by kernel_rfl) [p0] (by kernel_rfl) H).trans (by kernel_rfl)
theorem mc53 : L1 (bc53) (bc53) := fun _ _ =>
  bR fun _ => bR fun _ => bR fun _ => bR fun _ => le_refl _
noncomputable def rc53 : A1 := fun p0 H => bc53 p0 H
theorem sc53 : L1 rc53 c53 := fun _ H => le_eq (mc53 _ _) (ec53 _ _)

/-! sortkey_field -/
noncomputable def c30 (p0 p1 p2 : AV) (H : Hp) : Res := callw cfg 30 [p0, p1, p2] H
noncomputable def j30_2 (H0 : Hp) (H : Hp) : Res := CXf 30 83 (sub (bodyOf Tryz.f30) [1, 1, 1]) (retL cfg 83 30 Tryz.f30 H0) [] H
noncomputable def k30_1 (H0 : Hp) : KL := seqL (fun k al H => CXf 30 83 (sub (bodyOf Tryz.f30) [1, 1, 1]) k (trimL (cfg.keep 30) (sub (bodyOf Tryz.f30) [1, 1, 1]) al) H) (retL cfg 83 30 Tryz.f30 H0)
theorem k30_1_tame (H0 : Hp) : Tame 83 (k30_1 H0) := tame_seq (C := cfg) (kp := cfg.keep 30) (sub (bodyOf Tryz.f30) [1, 1, 1]) (tame_ret 30 Tryz.f30 H0)
noncomputable def j30_4 (H0 : Hp) (x0 x1 x6 x11 : AV) (H : Hp) : Res := CXf 30 83 (sub (bodyOf Tryz.f30) [1, 1, 0, 1, 0, 0, 1, 1]) (seqL (fun k al H => LPf 30 83 (sub (bodyOf Tryz.f30) [1, 1, 0, 1, 0, 0]) k (trimL (cfg.keep 30) (sub (bodyOf Tryz.f30) [1, 1, 0, 1, 0, 0]) al) H) (blockL 2 (k30_1 H0))) [(0, x0), (1, x1), (6, x6), (11, x11)] H
noncomputable def k30_2 (H0 : Hp) : KL := seqL (fun k al H => CXf 30 83 (sub (bodyOf Tryz.f30) [1, 1, 0, 1, 0, 0, 1, 1]) k (trimL (cfg.keep 30) (sub (bodyOf Tryz.f30) [1, 1, 0, 1, 0, 0, 1, 1]) al) H) (seqL (fun k al H => LPf 30 83 (sub (bodyOf Tryz.f30) [1, 1, 0, 1, 0, 0]) k (trimL (cfg.keep 30) (sub (bodyOf Tryz.f30) [1, 1, 0, 1, 0, 0]) al) H) (blockL 2 (k30_1 H0)))
theorem k30_2_tame (H0 : Hp) : Tame 83 (k30_2 H0) := tame_seq (C := cfg) (kp := cfg.keep 30) (sub (bodyOf Tryz.f30) [1, 1, 0, 1, 0, 0, 1, 1]) (tame_loop (C := cfg) (kp := cfg.keep 30) (sub (bodyOf Tryz.f30) [1, 1, 0, 1, 0, 0]) (tame_block 2 (k30_1_tame H0)))
noncomputable def j30_7 (H0 : Hp) (x0 x1 x7 x11 : AV) (H : Hp) : Res := CXf 30 83 (sub (bodyOf Tryz.f30) [1, 1, 0, 1, 0, 0, 1, 0, 0, 1, 1, 1, 1]) (blockL 3 (k30_2 H0)) [(0, x0), (1, x1), (7, x7), (11, x11)] H
noncomputable def j30_6 (H0 : Hp) (x0 x1 x6 x7 x11 : AV) (H : Hp) : Res := CXf 30 83 (sub (bodyOf Tryz.f30) [1, 1, 0, 1, 0, 0, 1, 0, 0, 1, 1, 1]) (blockL 3 (k30_2 H0)) [(0, x0), (1, x1), (6, x6), (7, x7), (11, x11)] H
noncomputable def k30_3 (H0 : Hp) : KL := seqL (fun k al H => CXf 30 83 (sub (bodyOf Tryz.f30) [1, 1, 0, 1, 0, 0, 1, 0, 0, 1, 1, 1]) k (trimL (cfg.keep 30) (sub (bodyOf Tryz.f30) [1, 1, 0, 1, 0, 0, 1, 0, 0, 1, 1, 1]) al) H) (blockL 3 (k30_2 H0))
theorem k30_3_tame (H0 : Hp) : Tame 83 (k30_3 H0) := tame_seq (C := cfg) (kp := cfg.keep 30) (sub (bodyOf Tryz.f30) [1, 1, 0, 1, 0, 0, 1, 0, 0, 1, 1, 1]) (tame_block 3 (k30_2_tame H0))
noncomputable def j30_8 (H0 : Hp) (x0 x1 x6 x7 x11 : AV) (H : Hp) : Res := CXf 30 83 (sub (bodyOf Tryz.f30) [1, 1, 0, 1, 0, 0, 1, 0, 0, 1, 1, 0, 0, 0, 1]) (seqL (fun k al H => LPf 30 83 (sub (bodyOf Tryz.f30) [1, 1, 0, 1, 0, 0, 1, 0, 0, 1, 1, 0, 0, 0]) k (trimL (cfg.keep 30) (sub (bodyOf Tryz.f30) [1, 1, 0, 1, 0, 0, 1, 0, 0, 1, 1, 0, 0, 0]) al) H) (blockL 6 (k30_3 H0))) [(0, x0), (1, x1), (6, x6), (7, x7), (11, x11)] H
noncomputable def j30_l2 (H0 : Hp) (x0 x1 x6 x7 x11 : AV) (H : Hp) : Res := LPf 30 83 (sub (bodyOf Tryz.f30) [1, 1, 0, 1, 0, 0, 1, 0, 0, 1, 1, 0, 0, 0]) (blockL 6 (k30_3 H0)) [(0, x0), (1, x1), (6, x6), (7, x7), (11, x11)] H
noncomputable def j30_5 (H0 : Hp) (x0 x1 x6 x7 x11 : AV) (H : Hp) : Res := CXf 30 83 (sub (bodyOf Tryz.f30) [1, 1, 0, 1, 0, 0, 1, 0, 0, 1, 1]) (blockL 3 (k30_2 H0)) [(0, x0), (1, x1), (6, x6), (7, x7), (11, x11)] H
noncomputable def k30_4 (H0 : Hp) : KL := seqL (fun k al H => CXf 30 83 (sub (bodyOf Tryz.f30) [1, 1, 0, 1, 0, 0, 1, 0, 0, 1, 1]) k (trimL (cfg.keep 30) (sub (bodyOf Tryz.f30) [1, 1, 0, 1, 0, 0, 1, 0, 0, 1, 1]) al) H) (blockL 3 (k30_2 H0))
theorem k30_4_tame (H0 : Hp) : Tame 83 (k30_4 H0) := tame_seq (C := cfg) (kp := cfg.keep 30) (sub (bodyOf Tryz.f30) [1, 1, 0, 1, 0, 0, 1, 0, 0, 1, 1]) (tame_block 3 (k30_2_tame H0))
noncomputable def j30_9 (H0 : Hp) (x0 x1 x6 x7 x11 : AV) (H : Hp) : Res := CXf 30 83 (sub (bodyOf Tryz.f30) [1, 1, 0, 1, 0, 0, 1, 0, 0, 1, 0, 0, 0, 1]) (seqL (fun k al H => LPf 30 83 (sub (bodyOf Tryz.f30) [1, 1, 0, 1, 0, 0, 1, 0, 0, 1, 0, 0, 0]) k (trimL (cfg.keep 30) (sub (bodyOf Tryz.f30) [1, 1, 0, 1, 0, 0, 1, 0, 0, 1, 0, 0, 0]) al) H) (blockL 4 (k30_4 H0))) [(0, x0), (1, x1), (6, x6), (7, x7), (11, x11)] H
noncomputable def j30_l3 (H0 : Hp) (x0 x1 x6 x7 x11 : AV) (H : Hp) : Res := LPf 30 83 (sub (bodyOf Tryz.f30) [1, 1, 0, 1, 0, 0, 1, 0, 0, 1, 0, 0, 0]) (blockL 4 (k30_4 H0)) [(0, x0), (1, x1), (6, x6), (7, x7), (11, x11)] H
noncomputable def j30_3 (H0 : Hp) (x0 x1 x6 x11 : AV) (H : Hp) : Res := CXf 30 83 (sub (bodyOf Tryz.f30) [1, 1, 0, 1, 0, 0, 1]) (seqL (fun k al H => LPf 30 83 (sub (bodyOf Tryz.f30) [1, 1, 0, 1, 0, 0]) k (trimL (cfg.keep 30) (sub (bodyOf Tryz.f30) [1, 1, 0, 1, 0, 0]) al) H) (blockL 2 (k30_1 H0))) [(0, x0), (1, x1), (6, x6), (11, x11)] H
noncomputable def j30_l1 (H0 : Hp) (x0 x1 x6 x11 : AV) (H : Hp) : Res := LPf 30 83 (sub (bodyOf Tryz.f30) [1, 1, 0, 1, 0, 0]) (blockL 2 (k30_1 H0)) [(0, x0), (1, x1), (6, x6), (11, x11)] H
noncomputable def j30_1 (H0 : Hp) (x0 x1 x6 : AV) (H : Hp) : Res := CXf 30 83 (sub (bodyOf Tryz.f30) [1, 1]) (retL cfg 83 30 Tryz.f30 H0) [(0, x0), (1, x1), (6, x6)] H
noncomputable def k30_5 (H0 : Hp) : KL := seqL (fun k al H => CXf 30 83 (sub (bodyOf Tryz.f30) [1, 1]) k (trimL (cfg.keep 30) (sub (bodyOf Tryz.f30) [1, 1]) al) H) (retL cfg 83 30 Tryz.f30 H0)
theorem k30_5_tame (H0 : Hp) : Tame 83 (k30_5 H0) := tame_seq (C := cfg) (kp := cfg.keep 30) (sub (bodyOf Tryz.f30) [1, 1]) (tame_ret 30 Tryz.f30 H0)
noncomputable def j30_10 (H0 : Hp) (x0 x1 x2 x6 x9 : AV) (H : Hp) : Res := CXf 30 83 (sub (bodyOf Tryz.f30) [1, 0, 1, 0, 1, 0, 0, 1]) (seqL (fun k al H => LPf 30 83 (sub (bodyOf Tryz.f30) [1, 0, 1, 0, 1, 0, 0]) k (trimL (cfg.keep 30) (sub (bodyOf Tryz.f30) [1, 0, 1, 0, 1, 0, 0]) al) H) (blockL 0 (k30_5 H0))) [(0, x0), (1, x1), (2, x2), (6, x6), (9, x9)] H
noncomputable def k30_6 (H0 : Hp) : KL := seqL (fun k al H => CXf 30 83 (sub (bodyOf Tryz.f30) [1, 0, 1, 0, 1, 0, 0, 1]) k (trimL (cfg.keep 30) (sub (bodyOf Tryz.f30) [1, 0, 1, 0, 1, 0, 0, 1]) al) H) (seqL (fun k al H => LPf 30 83 (sub (bodyOf Tryz.f30) [1, 0, 1, 0, 1, 0, 0]) k (trimL (cfg.keep 30) (sub (bodyOf Tryz.f30) [1, 0, 1, 0, 1, 0, 0]) al) H) (blockL 0 (k30_5 H0)))
noncomputable def j30_12 (H0 : Hp) (x0 x1 x2 x6 x9 x10 : AV) (H : Hp) : Res := CXf 30 83 (sub (bodyOf Tryz.f30) [1, 0, 1, 0, 1, 0, 0, 0, 0, 1, 1, 1]) (blockL 1 (k30_6 H0)) [(0, x0), (1, x1), (2, x2), (6, x6), (9, x9), (10, x10)] H
noncomputable def j30_11 (H0 : Hp) (x0 x1 x2 x6 x9 x10 : AV) (H : Hp) : Res := CXf 30 83 (sub (bodyOf Tryz.f30) [1, 0, 1, 0, 1, 0, 0, 0, 0, 1, 1]) (blockL 1 (k30_6 H0)) [(0, x0), (1, x1), (2, x2), (6, x6), (9, x9), (10, x10)] H
noncomputable def j30_l4 (H0 : Hp) (x0 x1 x2 x6 x9 : AV) (H : Hp) : Res := LPf 30 83 (sub (bodyOf Tryz.f30) [1, 0, 1, 0, 1, 0, 0]) (blockL 0 (k30_5 H0)) [(0, x0), (1, x1), (2, x2), (6, x6), (9, x9)] H
noncomputable def b30_2 (H : Hp) : Res :=
  some ((.tuple [(.int .i64 0), (.int .i64 0), (.bool false)]), H)
theorem e30_2 (H0 : Hp) (H : Hp) : j30_2 H0 H = b30_2 H := (CXM_eq [3, 7, 9, 10, 12, 13, 15, 16, 17, 18, 20, 21] _ _ _ _).trans (by kernel_rfl)
theorem m30_2 : L0 (b30_2) (b30_2) := fun _ =>
  le_refl _
noncomputable def b30_4 (j30_l1 : A4) (x0 x1 x6 x11 : AV) (H : Hp) : Res :=
  bnd (ibin .add x11 (.int .i64 1)) fun t50_1 =>
  j30_l1 x0 x1 x6 t50_1 H
theorem e30_4 (H0 : Hp) (x0 x1 x6 x11 : AV) (H : Hp) : j30_4 H0 x0 x1 x6 x11 H = b30_4 (j30_l1 H0) x0 x1 x6 x11 H := (CXM_eq [3, 7, 9, 10, 12, 13, 15, 16, 17, 18, 20, 21] _ _ _ _).trans (by kernel_rfl)
theorem m30_4 {j30_l1 dj30_l1 : A4} (hj30_l1 : L4 j30_l1 dj30_l1) : L4 (b30_4 j30_l1) (b30_4 dj30_l1) := fun _ _ _ _ _ =>
  bR fun _ => hj30_l1 _ _ _ _ _
noncomputable def b30_7 (j30_4 : A4) (x0 x1 x7 x11 : AV) (H : Hp) : Res :=
  j30_4 x0 x1 x7 x11 H
theorem e30_7 (H0 : Hp) (x0 x1 x7 x11 : AV) (H : Hp) : j30_7 H0 x0 x1 x7 x11 H = b30_7 (j30_4 H0) x0 x1 x7 x11 H := (CXM_eq [3, 7, 9, 10, 12, 13, 15, 16, 17, 18, 20, 21] _ _ _ _).trans (by kernel_rfl)
theorem m30_7 {j30_4 dj30_4 : A4} (hj30_4 : L4 j30_4 dj30_4) : L4 (b30_7 j30_4) (b30_7 dj30_4) := fun _ _ _ _ _ =>
  hj30_4 _ _ _ _ _
noncomputable def b30_6 (j30_7 : A4) (x0 x1 x6 x7 x11 : AV) (H : Hp) : Res :=
  bnd (ibin .eql x11 x1) fun t79_2 =>
  cnd t79_2
    (some ((.tuple [x6, x7, (.bool true)]), H))
    (j30_7 x0 x1 x7 x11 H)
theorem e30_6 (H0 : Hp) (x0 x1 x6 x7 x11 : AV) (H : Hp) : j30_6 H0 x0 x1 x6 x7 x11 H = b30_6 (j30_7 H0) x0 x1 x6 x7 x11 H := (CXM_eq [3, 7, 9, 10, 12, 13, 15, 16, 17, 18, 20, 21] _ _ _ _).trans (by kernel_rfl)
theorem m30_6 {j30_7 dj30_7 : A4} (hj30_7 : L4 j30_7 dj30_7) : L5 (b30_6 j30_7) (b30_6 dj30_7) := fun _ _ _ _ _ _ =>
  bR fun _ => bK (le_refl _) (hj30_7 _ _ _ _ _)
noncomputable def b30_8 (j30_l2 : A5) (x0 x1 x6 x7 x11 : AV) (H : Hp) : Res :=
  bnd (ibin .add x7 (.int .i64 1)) fun t76_3 =>
  j30_l2 x0 x1 x6 t76_3 x11 H
theorem e30_8 (H0 : Hp) (x0 x1 x6 x7 x11 : AV) (H : Hp) : j30_8 H0 x0 x1 x6 x7 x11 H = b30_8 (j30_l2 H0) x0 x1 x6 x7 x11 H := (CXM_eq [3, 7, 9, 10, 12, 13, 15, 16, 17, 18, 20, 21] _ _ _ _).trans (by kernel_rfl)
theorem m30_8 {j30_l2 dj30_l2 : A5} (hj30_l2 : L5 j30_l2 dj30_l2) : L5 (b30_8 j30_l2) (b30_8 dj30_l2) := fun _ _ _ _ _ _ =>
  bR fun _ => hj30_l2 _ _ _ _ _ _
noncomputable def b30_l2 (c53 : A1) (j30_6 : A5) (j30_8 : A5) (x0 x1 x6 x7 x11 : AV) (H : Hp) : Res :=
  bnd (alenD .string x0) fun t66_4 =>
  bnd (ibin .lss x7 t66_4) fun t67_5 =>
  bnd (gdv t67_5 true (.tuple []) (some x0)) fun t69_6 =>
  bnd (gdv t67_5 true (.tuple []) (some x7)) fun t70_7 =>
  bnd (gdv t67_5 true (.tuple []) (aindexStr t69_6 t70_7)) fun t71_8 =>
  bnd (gdv t67_5 true ((.tuple []), H) (c53 t71_8 H)) fun r72_9 =>
  bnd (gdv t67_5 true (.tuple []) (aun .not r72_9.1)) fun t73_10 =>
  bnd (apick t67_5 t73_10 (.bool false)) fun t74_11 =>
  cnd t74_11
    (j30_8 x0 x1 x6 x7 x11 r72_9.2)
    (j30_6 x0 x1 x6 x7 x11 r72_9.2)
theorem e30_l2 (H0 : Hp) (x0 x1 x6 x7 x11 : AV) (H : Hp) : j30_l2 H0 x0 x1 x6 x7 x11 H = b30_l2 c53 (j30_6 H0) (j30_8 H0) x0 x1 x6 x7 x11 H := (LPL_eqm (C := cfg) [3, 7, 9, 10, 12, 13, 15, 16, 17, 18, 20, 21] (tame_block 6 (k30_3_tame H0)) _ _).trans (by kernel_rfl)
theorem m30_l2 {c53 dc53 : A1} (hc53 : L1 c53 dc53) {j30_6 dj30_6 : A5} (hj30_6 : L5 j30_6 dj30_6) {j30_8 dj30_8 : A5} (hj30_8 : L5 j30_8 dj30_8) : L5 (b30_l2 c53 j30_6 j30_8) (b30_l2 dc53 dj30_6 dj30_8) := fun _ _ _ _ _ _ =>
  bR fun _ => bR fun _ => bR fun _ => bR fun _ => bR fun _ => bG (hc53 _ _) fun _ => bR fun _ => bR fun _ => bK (hj30_8 _ _ _ _ _ _) (hj30_6 _ _ _ _ _ _)
noncomputable def b30_5 (j30_l2 : A5) (x0 x1 x6 x7 x11 : AV) (H : Hp) : Res :=
  j30_l2 x0 x1 x6 x7 x11 H
theorem e30_5 (H0 : Hp) (x0 x1 x6 x7 x11 : AV) (H : Hp) : j30_5 H0 x0 x1 x6 x7 x11 H = b30_5 (j30_l2 H0) x0 x1 x6 x7 x11 H := (CXM_eq [3, 7, 9, 10, 12, 13, 15, 16, 17, 18, 20, 21] _ _ _ _).trans (by kernel_rfl)
theorem m30_5 {j30_l2 dj30_l2 : A5} (hj30_l2 : L5 j30_l2 dj30_l2) : L5 (b30_5 j30_l2) (b30_5 dj30_l2) := fun _ _ _ _ _ _ =>
  hj30_l2 _ _ _ _ _ _
noncomputable def b30_9 (j30_l3 : A5) (x0 x1 x6 x7 x11 : AV) (H : Hp) : Res :=
  bnd (ibin .add x7 (.int .i64 1)) fun t63_12 =>
  j30_l3 x0 x1 x6 t63_12 x11 H
theorem e30_9 (H0 : Hp) (x0 x1 x6 x7 x11 : AV) (H : Hp) : j30_9 H0 x0 x1 x6 x7 x11 H = b30_9 (j30_l3 H0) x0 x1 x6 x7 x11 H := (CXM_eq [3, 7, 9, 10, 12, 13, 15, 16, 17, 18, 20, 21] _ _ _ _).trans (by kernel_rfl)
theorem m30_9 {j30_l3 dj30_l3 : A5} (hj30_l3 : L5 j30_l3 dj30_l3) : L5 (b30_9 j30_l3) (b30_9 dj30_l3) := fun _ _ _ _ _ _ =>
  bR fun _ => hj30_l3 _ _ _ _ _ _
noncomputable def b30_l3 (c53 : A1) (j30_5 : A5) (j30_9 : A5) (x0 x1 x6 x7 x11 : AV) (H : Hp) : Res :=
  bnd (alenD .string x0) fun t54_13 =>
  bnd (ibin .lss x7 t54_13) fun t55_14 =>
  bnd (gdv t55_14 true (.tuple []) (some x0)) fun t57_15 =>
  bnd (gdv t55_14 true (.tuple []) (some x7)) fun t58_16 =>
  bnd (gdv t55_14 true (.tuple []) (aindexStr t57_15 t58_16)) fun t59_17 =>
  bnd (gdv t55_14 true ((.tuple []), H) (c53 t59_17 H)) fun r60_18 =>
  bnd (apick t55_14 r60_18.1 (.bool false)) fun t61_19 =>
  cnd t61_19
    (j30_9 x0 x1 x6 x7 x11 r60_18.2)
    (j30_5 x0 x1 x6 x7 x11 r60_18.2)
theorem e30_l3 (H0 : Hp) (x0 x1 x6 x7 x11 : AV) (H : Hp) : j30_l3 H0 x0 x1 x6 x7 x11 H = b30_l3 c53 (j30_5 H0) (j30_9 H0) x0 x1 x6 x7 x11 H := (LPL_eqm (C := cfg) [3, 7, 9, 10, 12, 13, 15, 16, 17, 18, 20, 21] (tame_block 4 (k30_4_tame H0)) _ _).trans (by kernel_rfl)
theorem m30_l3 {c53 dc53 : A1} (hc53 : L1 c53 dc53) {j30_5 dj30_5 : A5} (hj30_5 : L5 j30_5 dj30_5) {j30_9 dj30_9 : A5} (hj30_9 : L5 j30_9 dj30_9) : L5 (b30_l3 c53 j30_5 j30_9) (b30_l3 dc53 dj30_5 dj30_9) := fun _ _ _ _ _ _ =>
  bR fun _ => bR fun _ => bR fun _ => bR fun _ => bR fun _ => bG (hc53 _ _) fun _ => bR fun _ => bK (hj30_9 _ _ _ _ _ _) (hj30_5 _ _ _ _ _ _)
noncomputable def b30_3 (j30_l3 : A5) (x0 x1 x6 x11 : AV) (H : Hp) : Res :=
  j30_l3 x0 x1 x6 x6 x11 H
theorem e30_3 (H0 : Hp) (x0 x1 x6 x11 : AV) (H : Hp) : j30_3 H0 x0 x1 x6 x11 H = b30_3 (j30_l3 H0) x0 x1 x6 x11 H := (CXM_eq [3, 7, 9, 10, 12, 13, 15, 16, 17, 18, 20, 21] _ _ _ _).trans (by kernel_rfl)
theorem m30_3 {j30_l3 dj30_l3 : A5} (hj30_l3 : L5 j30_l3 dj30_l3) : L4 (b30_3 j30_l3) (b30_3 dj30_l3) := fun _ _ _ _ _ =>
  hj30_l3 _ _ _ _ _ _
noncomputable def b30_l1 (j30_2 : A0) (j30_3 : A4) (x0 x1 x6 x11 : AV) (H : Hp) : Res :=
  bnd (alenD .string x0) fun t47_20 =>
  bnd (ibin .lss x6 t47_20) fun t48_21 =>
  cnd t48_21
    (j30_3 x0 x1 x6 x11 H)
    (j30_2 H)
theorem e30_l1 (H0 : Hp) (x0 x1 x6 x11 : AV) (H : Hp) : j30_l1 H0 x0 x1 x6 x11 H = b30_l1 (j30_2 H0) (j30_3 H0) x0 x1 x6 x11 H := (LPL_eqm (C := cfg) [3, 7, 9, 10, 12, 13, 15, 16, 17, 18, 20, 21] (tame_block 2 (k30_1_tame H0)) _ _).trans (by kernel_rfl)
theorem m30_l1 {j30_2 dj30_2 : A0} (hj30_2 : L0 j30_2 dj30_2) {j30_3 dj30_3 : A4} (hj30_3 : L4 j30_3 dj30_3) : L4 (b30_l1 j30_2 j30_3) (b30_l1 dj30_2 dj30_3) := fun _ _ _ _ _ =>
  bR fun _ => bR fun _ => bK (hj30_3 _ _ _ _ _) (hj30_2 _)
noncomputable def b30_1 (j30_l1 : A4) (x0 x1 x6 : AV) (H : Hp) : Res :=
  j30_l1 x0 x1 x6 (.int .i64 1) H
theorem e30_1 (H0 : Hp) (x0 x1 x6 : AV) (H : Hp) : j30_1 H0 x0 x1 x6 H = b30_1 (j30_l1 H0) x0 x1 x6 H := (CXM_eq [3, 7, 9, 10, 12, 13, 15, 16, 17, 18, 20, 21] _ _ _ _).trans (by kernel_rfl)
theorem m30_1 {j30_l1 dj30_l1 : A4} (hj30_l1 : L4 j30_l1 dj30_l1) : L3 (b30_1 j30_l1) (b30_1 dj30_l1) := fun _ _ _ _ =>
  hj30_l1 _ _ _ _ _
noncomputable def b30_10 (j30_l4 : A5) (x0 x1 x2 x6 x9 : AV) (H : Hp) : Res :=
  bnd (ibin .add x9 (.int .i64 1)) fun t19_26 =>
  j30_l4 x0 x1 x2 x6 t19_26 H
theorem e30_10 (H0 : Hp) (x0 x1 x2 x6 x9 : AV) (H : Hp) : j30_10 H0 x0 x1 x2 x6 x9 H = b30_10 (j30_l4 H0) x0 x1 x2 x6 x9 H := (CXM_eq [3, 7, 9, 10, 12, 13, 15, 16, 17, 18, 20, 21] _ _ _ _).trans (by kernel_rfl)
theorem m30_10 {j30_l4 dj30_l4 : A5} (hj30_l4 : L5 j30_l4 dj30_l4) : L5 (b30_10 j30_l4) (b30_10 dj30_l4) := fun _ _ _ _ _ _ =>
  bR fun _ => hj30_l4 _ _ _ _ _ _
noncomputable def b30_12 (j30_10 : A5) (x0 x1 x2 x6 x9 x10 : AV) (H : Hp) : Res :=
  bnd (ibin .add x10 (.int .i64 1)) fun t43_30 =>
  bnd (ibin .add x6 t43_30) fun t44_31 =>
  j30_10 x0 x1 x2 t44_31 x9 H
theorem e30_12 (H0 : Hp) (x0 x1 x2 x6 x9 x10 : AV) (H : Hp) : j30_12 H0 x0 x1 x2 x6 x9 x10 H = b30_12 (j30_10 H0) x0 x1 x2 x6 x9 x10 H := (CXM_eq [3, 7, 9, 10, 12, 13, 15, 16, 17, 18, 20, 21] _ _ _ _).trans (by kernel_rfl)
theorem m30_12 {j30_10 dj30_10 : A5} (hj30_10 : L5 j30_10 dj30_10) : L6 (b30_12 j30_10) (b30_12 dj30_10) := fun _ _ _ _ _ _ _ =>
  bR fun _ => bR fun _ => hj30_10 _ _ _ _ _ _
noncomputable def b30_11 (j30_12 : A6) (x0 x1 x2 x6 x9 x10 : AV) (H : Hp) : Res :=
  bnd (ibin .eql x9 x1) fun t36_32 =>
  cnd t36_32
    (bnd (ibin .add x6 x10) fun t40_33 =>
    some ((.tuple [x6, t40_33, (.bool true)]), H))
    (j30_12 x0 x1 x2 x6 x9 x10 H)
theorem e30_11 (H0 : Hp) (x0 x1 x2 x6 x9 x10 : AV) (H : Hp) : j30_11 H0 x0 x1 x2 x6 x9 x10 H = b30_11 (j30_12 H0) x0 x1 x2 x6 x9 x10 H := (CXM_eq [3, 7, 9, 10, 12, 13, 15, 16, 17, 18, 20, 21] _ _ _ _).trans (by kernel_rfl)
theorem m30_11 {j30_12 dj30_12 : A6} (hj30_12 : L6 j30_12 dj30_12) : L6 (b30_11 j30_12) (b30_11 dj30_12) := fun _ _ _ _ _ _ _ =>
  bR fun _ => bK (bR fun _ => le_refl _) (hj30_12 _ _ _ _ _ _ _)
noncomputable def b30_l4 (c52 : A2) (j30_11 : A6) (x0 x1 x2 x6 x9 : AV) (H : Hp) : Res :=
  bnd (asliceS x0 (some x6) none none) fun t22_27 =>
  bnd (cvInt .u8 x2) fun t24_28 =>
  bnd (c52 t22_27 t24_28 H) fun r25_29 =>
  bnd (ibin .lss r25_29.1 (.int .i64 0)) fun t27_34 =>
  cnd t27_34
    (bnd (alenD .string x0) fun t30_35 =>
    bnd (ibin .eql x9 x1) fun t33_36 =>
    some ((.tuple [x6, t30_35, t33_36]), r25_29.2))
    (j30_11 x0 x1 x2 x6 x9 r25_29.1 r25_29.2)
theorem e30_l4 (H0 : Hp) (x0 x1 x2 x6 x9 : AV) (H : Hp) : j30_l4 H0 x0 x1 x2 x6 x9 H = b30_l4 c52 (j30_11 H0) x0 x1 x2 x6 x9 H := (LPL_eqm (C := cfg) [3, 7, 9, 10, 12, 13, 15, 16, 17, 18, 20, 21] (tame_block 0 (k30_5_tame H0)) _ _).trans (by kernel_rfl)
theorem m30_l4 {c52 dc52 : A2} (hc52 : L2 c52 dc52) {j30_11 dj30_11 : A6} (hj30_11 : L6 j30_11 dj30_11) : L5 (b30_l4 c52 j30_11) (b30_l4 dc52 dj30_11) := fun _ _ _ _ _ _ =>
  bR fun _ => bR fun _ => bC (hc52 _ _ _) fun _ => bR fun _ => bK (bR fun _ => bR fun _ => le_refl _) (hj30_11 _ _ _ _ _ _ _)
noncomputable def rj30_2 : A0 := b30_2
theorem sj30_2 (H0 : Hp) : L0 (rj30_2) (j30_2 H0) := fun _ => le_eq (m30_2 _) (e30_2 H0 _)
noncomputable def rj30_4 (j30_l1 : A4) : A4 := b30_4 j30_l1
theorem sj30_4 (H0 : Hp) {yj30_l1 : A4} (hj30_l1 : L4 yj30_l1 (j30_l1 H0)) : L4 (rj30_4 yj30_l1) (j30_4 H0) := fun _ _ _ _ _ => le_eq (m30_4 hj30_l1 _ _ _ _ _) (e30_4 H0 _ _ _ _ _)
noncomputable def rj30_7 (j30_l1 : A4) : A4 := b30_7 (rj30_4 j30_l1)
theorem sj30_7 (H0 : Hp) {yj30_l1 : A4} (hj30_l1 : L4 yj30_l1 (j30_l1 H0)) : L4 (rj30_7 yj30_l1) (j30_7 H0) := fun _ _ _ _ _ => le_eq (m30_7 (sj30_4 H0 hj30_l1) _ _ _ _ _) (e30_7 H0 _ _ _ _ _)
noncomputable def rj30_6 (j30_l1 : A4) : A5 := b30_6 (rj30_7 j30_l1)
theorem sj30_6 (H0 : Hp) {yj30_l1 : A4} (hj30_l1 : L4 yj30_l1 (j30_l1 H0)) : L5 (rj30_6 yj30_l1) (j30_6 H0) := fun _ _ _ _ _ _ => le_eq (m30_6 (sj30_7 H0 hj30_l1) _ _ _ _ _ _) (e30_6 H0 _ _ _ _ _ _)
noncomputable def rj30_8 (j30_l2 : A5) : A5 := b30_8 j30_l2
theorem sj30_8 (H0 : Hp) {yj30_l2 : A5} (hj30_l2 : L5 yj30_l2 (j30_l2 H0)) : L5 (rj30_8 yj30_l2) (j30_8 H0) := fun _ _ _ _ _ _ => le_eq (m30_8 hj30_l2 _ _ _ _ _ _) (e30_8 H0 _ _ _ _ _ _)
noncomputable def rj30_l2 (j30_l1 : A4) (n : Nat) : A5 := @Nat.rec (fun _ => A5) (fun _ _ _ _ _ _ => none) (fun _ j30_l2 => b30_l2 rc53 (rj30_6 j30_l1) (rj30_8 j30_l2)) n
theorem sj30_l2 (H0 : Hp) {yj30_l1 : A4} (hj30_l1 : L4 yj30_l1 (j30_l1 H0)) (n : Nat) : L5 (rj30_l2 yj30_l1 n) (j30_l2 H0) := by
  induction n with
  | zero => exact fun _ _ _ _ _ _ => le_none _
  | succ n hj30_l2 => exact fun _ _ _ _ _ _ => le_eq (m30_l2 sc53 (sj30_6 H0 hj30_l1) (sj30_8 H0 hj30_l2) _ _ _ _ _ _) (e30_l2 H0 _ _ _ _ _ _)
noncomputable def rj30_5 (j30_l1 : A4) : A5 := b30_5 (rj30_l2 j30_l1 100000)
theorem sj30_5 (H0 : Hp) {yj30_l1 : A4} (hj30_l1 : L4 yj30_l1 (j30_l1 H0)) : L5 (rj30_5 yj30_l1) (j30_5 H0) := fun _ _ _ _ _ _ => le_eq (m30_5 (sj30_l2 H0 hj30_l1 100000) _ _ _ _ _ _) (e30_5 H0 _ _ _ _ _ _)
noncomputable def rj30_9 (j30_l3 : A5) : A5 := b30_9 j30_l3
theorem sj30_9 (H0 : Hp) {yj30_l3 : A5} (hj30_l3 : L5 yj30_l3 (j30_l3 H0)) : L5 (rj30_9 yj30_l3) (j30_9 H0) := fun _ _ _ _ _ _ => le_eq (m30_9 hj30_l3 _ _ _ _ _ _) (e30_9 H0 _ _ _ _ _ _)
noncomputable def rj30_l3 (j30_l1 : A4) (n : Nat) : A5 := @Nat.rec (fun _ => A5) (fun _ _ _ _ _ _ => none) (fun _ j30_l3 => b30_l3 rc53 (rj30_5 j30_l1) (rj30_9 j30_l3)) n
theorem sj30_l3 (H0 : Hp) {yj30_l1 : A4} (hj30_l1 : L4 yj30_l1 (j30_l1 H0)) (n : Nat) : L5 (rj30_l3 yj30_l1 n) (j30_l3 H0) := by
  induction n with
  | zero => exact fun _ _ _ _ _ _ => le_none _
  | succ n hj30_l3 => exact fun _ _ _ _ _ _ => le_eq (m30_l3 sc53 (sj30_5 H0 hj30_l1) (sj30_9 H0 hj30_l3) _ _ _ _ _ _) (e30_l3 H0 _ _ _ _ _ _)
noncomputable def rj30_3 (j30_l1 : A4) : A4 := b30_3 (rj30_l3 j30_l1 100000)
theorem sj30_3 (H0 : Hp) {yj30_l1 : A4} (hj30_l1 : L4 yj30_l1 (j30_l1 H0)) : L4 (rj30_3 yj30_l1) (j30_3 H0) := fun _ _ _ _ _ => le_eq (m30_3 (sj30_l3 H0 hj30_l1 100000) _ _ _ _ _) (e30_3 H0 _ _ _ _ _)
noncomputable def rj30_l1 (n : Nat) : A4 := @Nat.rec (fun _ => A4) (fun _ _ _ _ _ => none) (fun _ j30_l1 => b30_l1 (rj30_2) (rj30_3 j30_l1)) n
theorem sj30_l1 (H0 : Hp) (n : Nat) : L4 (rj30_l1 n) (j30_l1 H0) := by
  induction n with
  | zero => exact fun _ _ _ _ _ => le_none _
  | succ n hj30_l1 => exact fun _ _ _ _ _ => le_eq (m30_l1 (sj30_2 H0) (sj30_3 H0 hj30_l1) _ _ _ _ _) (e30_l1 H0 _ _ _ _ _)
noncomputable def rj30_1 : A3 := b30_1 (rj30_l1 100000)
theorem sj30_1 (H0 : Hp) : L3 (rj30_1) (j30_1 H0) := fun _ _ _ _ => le_eq (m30_1 (sj30_l1 H0 100000) _ _ _ _) (e30_1 H0 _ _ _ _)
noncomputable def rj30_10 (j30_l4 : A5) : A5 := b30_10 j30_l4
theorem sj30_10 (H0 : Hp) {yj30_l4 : A5} (hj30_l4 : L5 yj30_l4 (j30_l4 H0)) : L5 (rj30_10 yj30_l4) (j30_10 H0) := fun _ _ _ _ _ _ => le_eq (m30_10 hj30_l4 _ _ _ _ _ _) (e30_10 H0 _ _ _ _ _ _)
noncomputable def rj30_12 (j30_l4 : A5) : A6 := b30_12 (rj30_10 j30_l4)
theorem sj30_12 (H0 : Hp) {yj30_l4 : A5} (hj30_l4 : L5 yj30_l4 (j30_l4 H0)) : L6 (rj30_12 yj30_l4) (j30_12 H0) := fun _ _ _ _ _ _ _ => le_eq (m30_12 (sj30_10 H0 hj30_l4) _ _ _ _ _ _ _) (e30_12 H0 _ _ _ _ _ _ _)
noncomputable def rj30_11 (j30_l4 : A5) : A6 := b30_11 (rj30_12 j30_l4)
theorem sj30_11 (H0 : Hp) {yj30_l4 : A5} (hj30_l4 : L5 yj30_l4 (j30_l4 H0)) : L6 (rj30_11 yj30_l4) (j30_11 H0) := fun _ _ _ _ _ _ _ => le_eq (m30_11 (sj30_12 H0 hj30_l4) _ _ _ _ _ _ _) (e30_11 H0 _ _ _ _ _ _ _)
noncomputable def rj30_l4 (n : Nat) : A5 := @Nat.rec (fun _ => A5) (fun _ _ _ _ _ _ => none) (fun _ j30_l4 => b30_l4 rc52 (rj30_11 j30_l4)) n
theorem sj30_l4 (H0 : Hp) (n : Nat) : L5 (rj30_l4 n) (j30_l4 H0) := by
  induction n with
  | zero => exact fun _ _ _ _ _ _ => le_none _
  | succ n hj30_l4 => exact fun _ _ _ _ _ _ => le_eq (m30_l4 sc52 (sj30_11 H0 hj30_l4) _ _ _ _ _ _) (e30_l4 H0 _ _ _ _ _ _)
noncomputable def bc30 (j30_1 : A3) (j30_l4 : A5) (p0 p1 p2 : AV) (H : Hp) : Res :=
  bnd (ibin .geq p2 (.int .i64 0)) fun t13_22 =>
  bnd (gdv t13_22 true (.tuple []) (some p2)) fun t15_23 =>
  bnd (gdv t13_22 true (.tuple []) (ibin .leq t15_23 (.int .i64 255))) fun t16_24 =>
  bnd (apick t13_22 t16_24 (.bool false)) fun t17_25 =>
  cnd t17_25
    (j30_l4 p0 p1 p2 (.int .i64 0) (.int .i64 1) H)
    (j30_1 p0 p1 (.int .i64 0) H)
theorem ec30 (p0 p1 p2 : AV) (H : Hp) : c30 p0 p1 p2 H = bc30 (j30_1 H) (j30_l4 H) p0 p1 p2 H := (callw_cxm (C := cfg) (fn := Tryz.f30) (c := bodyOf Tryz.f30) (n := 83) [3, 7, 9, 10, 12, 13, 15, 16, 17, 18, 20, 21] Tryz.func30 (by kernel_rfl) (by kernel_rfl) [p0, p1, p2] (by kernel_rfl) H).trans (by kernel_rfl)
theorem mc30 {j30_1 dj30_1 : A3} (hj30_1 : L3 j30_1 dj30_1) {j30_l4 dj30_l4 : A5} (hj30_l4 : L5 j30_l4 dj30_l4) : L3 (bc30 j30_1 j30_l4) (bc30 dj30_1 dj30_l4) := fun _ _ _ _ =>
  bR fun _ => bR fun _ => bR fun _ => bR fun _ => bK (hj30_l4 _ _ _ _ _ _) (hj30_1 _ _ _ _)
noncomputable def rc30 : A3 := fun p0 p1 p2 H => bc30 (rj30_1) (rj30_l4 100000) p0 p1 p2 H
theorem sc30 : L3 rc30 c30 := fun _ _ _ H => le_eq (mc30 (sj30_1 H) (sj30_l4 H 100000) _ _ _ _) (ec30 _ _ _ _)

/-! sortkey_Extract -/
noncomputable def c16 (p0 p1 p2 : AV) (H : Hp) : Res := callw cfg 16 [p0, p1, p2] H
noncomputable def j16_3 (H0 : Hp) (x0 x7 x10 : AV) (H : Hp) : Res := CXf 16 70 (sub (bodyOf Tryz.f16) [1, 1, 1, 1, 1, 1, 1]) (retL cfg 70 16 Tryz.f16 H0) [(0, x0), (7, x7), (10, x10)] H
noncomputable def j16_2 (H0 : Hp) (x0 x7 x10 : AV) (H : Hp) : Res := CXf 16 70 (sub (bodyOf Tryz.f16) [1, 1, 1, 1, 1, 1]) (retL cfg 70 16 Tryz.f16 H0) [(0, x0), (7, x7), (10, x10)] H
noncomputable def j16_1 (H0 : Hp) (x0 x2 x4 x7 x8 : AV) (H : Hp) : Res := CXf 16 70 (sub (bodyOf Tryz.f16) [1, 1, 1]) (retL cfg 70 16 Tryz.f16 H0) [(0, x0), (2, x2), (4, x4), (7, x7), (8, x8)] H
noncomputable def b16_3 (x0 x7 x10 : AV) (H : Hp) : Res :=
  bnd (asliceS x0 (some x7) (some x10) none) fun t69_17 =>
  some (t69_17, H)
theorem e16_3 (H0 : Hp) (x0 x7 x10 : AV) (H : Hp) : j16_3 H0 x0 x7 x10 H = b16_3 x0 x7 x10 H := (CXM_eq [4, 12, 14] _ _ _ _).trans (by kernel_rfl)
theorem m16_3 : L3 (b16_3) (b16_3) := fun _ _ _ _ =>
  bR fun _ => le_refl _
noncomputable def b16_2 (j16_3 : A3) (x0 x7 x10 : AV) (H : Hp) : Res :=
  bnd (ibin .lss x10 x7) fun t65_18 =>
  cnd t65_18
    (some ((.str []), H))
    (j16_3 x0 x7 x10 H)
theorem e16_2 (H0 : Hp) (x0 x7 x10 : AV) (H : Hp) : j16_2 H0 x0 x7 x10 H = b16_2 (j16_3 H0) x0 x7 x10 H := (CXM_eq [4, 12, 14] _ _ _ _).trans (by kernel_rfl)
theorem m16_2 {j16_3 dj16_3 : A3} (hj16_3 : L3 j16_3 dj16_3) : L3 (b16_2 j16_3) (b16_2 dj16_3) := fun _ _ _ _ =>
  bR fun _ => bK (le_refl _) (hj16_3 _ _ _ _)
noncomputable def b16_1 (c30 : A3) (j16_2 : A3) (x0 x2 x4 x7 x8 : AV) (H : Hp) : Res :=
  bnd (afield 1 x4) fun t27_9 =>
  bnd (aload false 1 t27_9 H) fun t28_10 =>
  bnd (amax2 t28_10 (.int .i64 1)) fun t29_11 =>
  bnd (ibin .sub t29_11 (.int .i64 1)) fun t30_12 =>
  bnd (ibin .sub x8 x7) fun t33_13 =>
  bnd (amin2 t30_12 t33_13) fun t34_14 =>
  bnd (ibin .add x7 t34_14) fun t35_15 =>
  bnd (alenD .string x0) fun t37_16 =>
  bnd (afield 2 x4) fun t38_19 =>
  bnd (aload false 1 t38_19 H) fun t39_20 =>
  bnd (ibin .gtr t39_20 (.int .i64 0)) fun t40_21 =>
  cnd t40_21
    (bnd (afield 2 x4) fun t43_22 =>
    bnd (aload false 1 t43_22 H) fun t44_23 =>
    bnd (c30 x0 t44_23 x2 H) fun r46_24 =>
    bnd (aext r46_24.1 0) fun t47_25 =>
    bnd (aext r46_24.1 1) fun t48_26 =>
    bnd (aext r46_24.1 2) fun t49_27 =>
    cnd t49_27
      (bnd (afield 3 x4) fun t52_28 =>
      bnd (aload false 1 t52_28 r46_24.2) fun t53_29 =>
      bnd (ibin .gtr t53_29 (.int .i64 0)) fun t54_30 =>
      cnd t54_30
        (bnd (afield 3 x4) fun t56_31 =>
        bnd (aload false 1 t56_31 r46_24.2) fun t57_32 =>
        bnd (ibin .sub t48_26 t47_25) fun t60_33 =>
        bnd (amin2 t57_32 t60_33) fun t61_34 =>
        bnd (ibin .add t47_25 t61_34) fun t62_35 =>
        j16_2 x0 t35_15 t62_35 r46_24.2)
        (j16_2 x0 t35_15 t48_26 r46_24.2))
      (j16_2 x0 t35_15 t37_16 r46_24.2))
    (j16_2 x0 t35_15 t37_16 H)
theorem e16_1 (H0 : Hp) (x0 x2 x4 x7 x8 : AV) (H : Hp) : j16_1 H0 x0 x2 x4 x7 x8 H = b16_1 c30 (j16_2 H0) x0 x2 x4 x7 x8 H := (CXM_eq [4, 12, 14] _ _ _ _).trans (by kernel_rfl)
theorem m16_1 {c30 dc30 : A3} (hc30 : L3 c30 dc30) {j16_2 dj16_2 : A3} (hj16_2 : L3 j16_2 dj16_2) : L5 (b16_1 c30 j16_2) (b16_1 dc30 dj16_2) := fun _ _ _ _ _ _ =>
  bR fun _ => bR fun _ => bR fun _ => bR fun _ => bR fun _ => bR fun _ => bR fun _ => bR fun _ => bR fun _ => bR fun _ => bR fun _ => bK (bR fun _ => bR fun _ => bC (hc30 _ _ _ _) fun _ => bR fun _ => bR fun _ => bR fun _ => bK (bR fun _ => bR fun _ => bR fun _ => bK (bR fun _ => bR fun _ => bR fun _ => bR fun _ => bR fun _ => hj16_2 _ _ _ _) (hj16_2 _ _ _ _)) (hj16_2 _ _ _ _)) (hj16_2 _ _ _ _)
noncomputable def rj16_3 : A3 := b16_3
theorem sj16_3 (H0 : Hp) : L3 (rj16_3) (j16_3 H0) := fun _ _ _ _ => le_eq (m16_3 _ _ _ _) (e16_3 H0 _ _ _ _)
noncomputable def rj16_2 : A3 := b16_2 (rj16_3)
theorem sj16_2 (H0 : Hp) : L3 (rj16_2) (j16_2 H0) := fun _ _ _ _ => le_eq (m16_2 (sj16_3 H0) _ _ _ _) (e16_2 H0 _ _ _ _)
noncomputable def rj16_1 : A5 := b16_1 rc30 (rj16_2)
theorem sj16_1 (H0 : Hp) : L5 (rj16_1) (j16_1 H0) := fun _ _ _ _ _ _ => le_eq (m16_1 sc30 (sj16_2 H0) _ _ _ _ _ _) (e16_1 H0 _ _ _ _ _ _)
noncomputable def bc16 (c30 : A3) (j16_1 : A5) (p0 p1 p2 : AV) (H : Hp) : Res :=
  bnd (abox p1 H) fun r4_1 =>
  bnd (afield 0 r4_1.1) fun t16_2 =>
  bnd (aload false 1 t16_2 r4_1.2) fun t17_3 =>
  bnd (amax2 t17_3 (.int .i64 1)) fun t18_4 =>
  bnd (c30 p0 t18_4 p2 r4_1.2) fun r20_5 =>
  bnd (aext r20_5.1 0) fun t21_6 =>
  bnd (aext r20_5.1 1) fun t22_7 =>
  bnd (aext r20_5.1 2) fun t23_8 =>
  bnd (aun .not t23_8) fun t25_36 =>
  cnd t25_36
    (some ((.str []), r20_5.2))
    (j16_1 p0 p2 r4_1.1 t21_6 t22_7 r20_5.2)
theorem ec16 (p0 p1 p2 : AV) (H : Hp) : c16 p0 p1 p2 H = bc16 c30 (j16_1 H) p0 p1 p2 H := (callw_cxm (C := cfg) (fn := Tryz.f16) (c := bodyOf Tryz.f16) (n := 70) [4, 12, 14] Tryz.func16 (by kernel_rfl) (by kernel_rfl) [p0, p1, p2] (by kernel_rfl) H).trans (by kernel_rfl)
theorem mc16 {c30 dc30 : A3} (hc30 : L3 c30 dc30) {j16_1 dj16_1 : A5} (hj16_1 : L5 j16_1 dj16_1) : L3 (bc16 c30 j16_1) (bc16 dc30 dj16_1) := fun _ _ _ _ =>
  bR fun _ => bR fun _ => bR fun _ => bR fun _ => bC (hc30 _ _ _ _) fun _ => bR fun _ => bR fun _ => bR fun _ => bR fun _ => bK (le_refl _) (hj16_1 _ _ _ _ _ _)
noncomputable def rc16 : A3 := fun p0 p1 p2 H => bc16 rc30 (rj16_1) p0 p1 p2 H
theorem sc16 : L3 rc16 c16 := fun _ _ _ H => le_eq (mc16 sc30 (sj16_1 H) _ _ _ _) (ec16 _ _ _ _)

/-! sortkey_Check -/
noncomputable def c23 (p0 : AV) (H : Hp) : Res := callw cfg 23 [p0] H
noncomputable def j23_3 (H0 : Hp) (H : Hp) : Res := CXf 23 78 (sub (bodyOf Tryz.f23) [1, 1, 1, 1]) (retL cfg 78 23 Tryz.f23 H0) [] H
noncomputable def k23_1 (H0 : Hp) : KL := seqL (fun k al H => CXf 23 78 (sub (bodyOf Tryz.f23) [1, 1, 1, 1]) k (trimL (cfg.keep 23) (sub (bodyOf Tryz.f23) [1, 1, 1, 1]) al) H) (retL cfg 78 23 Tryz.f23 H0)
theorem k23_1_tame (H0 : Hp) : Tame 78 (k23_1 H0) := tame_seq (C := cfg) (kp := cfg.keep 23) (sub (bodyOf Tryz.f23) [1, 1, 1, 1]) (tame_ret 23 Tryz.f23 H0)
noncomputable def j23_5 (H0 : Hp) (x33 x34 x35 : AV) (H : Hp) : Res := CXf 23 78 (sub (bodyOf Tryz.f23) [1, 1, 1, 0, 1, 0, 0, 1, 1, 1]) (seqL (fun k al H => LPf 23 78 (sub (bodyOf Tryz.f23) [1, 1, 1, 0, 1, 0, 0]) k (trimL (cfg.keep 23) (sub (bodyOf Tryz.f23) [1, 1, 1, 0, 1, 0, 0]) al) H) (blockL 0 (k23_1 H0))) [(33, x33), (34, x34), (35, x35)] H
noncomputable def j23_4 (H0 : Hp) (x33 x34 x35 x36 : AV) (H : Hp) : Res := CXf 23 78 (sub (bodyOf Tryz.f23) [1, 1, 1, 0, 1, 0, 0, 1, 1]) (seqL (fun k al H => LPf 23 78 (sub (bodyOf Tryz.f23) [1, 1, 1, 0, 1, 0, 0]) k (trimL (cfg.keep 23) (sub (bodyOf Tryz.f23) [1, 1, 1, 0, 1, 0, 0]) al) H) (blockL 0 (k23_1 H0))) [(33, x33), (34, x34), (35, x35), (36, x36)] H
noncomputable def j23_l1 (H0 : Hp) (x33 x34 x35 : AV) (H : Hp) : Res := LPf 23 78 (sub (bodyOf Tryz.f23) [1, 1, 1, 0, 1, 0, 0]) (blockL 0 (k23_1 H0)) [(33, x33), (34, x34), (35, x35)] H
noncomputable def j23_2 (H0 : Hp) (x1 : AV) (H : Hp) : Res := CXf 23 78 (sub (bodyOf Tryz.f23) [1, 1, 1]) (retL cfg 78 23 Tryz.f23 H0) [(1, x1)] H
noncomputable def j23_1 (H0 : Hp) (x1 : AV) (H : Hp) : Res := CXf 23 78 (sub (bodyOf Tryz.f23) [1, 1]) (retL cfg 78 23 Tryz.f23 H0) [(1, x1)] H
noncomputable def b23_3 (H : Hp) : Res :=
  some ((.int .i64 0), H)
theorem e23_3 (H0 : Hp) (H : Hp) : j23_3 H0 H = b23_3 H := (CXM_eq [3, 5, 7, 10, 11] _ _ _ _).trans (by kernel_rfl)
theorem m23_3 : L0 (b23_3) (b23_3) := fun _ =>
  le_refl _
noncomputable def b23_5 (j23_l1 : A3) (x33 x34 x35 : AV) (H : Hp) : Res :=
  bnd (ibin .add x35 (.int .i64 1)) fun t77_6 =>
  j23_l1 x33 x34 t77_6 H
theorem e23_5 (H0 : Hp) (x33 x34 x35 : AV) (H : Hp) : j23_5 H0 x33 x34 x35 H = b23_5 (j23_l1 H0) x33 x34 x35 H := (CXM_eq [3, 5, 7, 10, 11] _ _ _ _).trans (by kernel_rfl)
theorem m23_5 {j23_l1 dj23_l1 : A3} (hj23_l1 : L3 j23_l1 dj23_l1) : L3 (b23_5 j23_l1) (b23_5 dj23_l1) := fun _ _ _ _ =>
  bR fun _ => hj23_l1 _ _ _ _
noncomputable def b23_4 (j23_5 : A3) (x33 x34 x35 x36 : AV) (H : Hp) : Res :=
  bnd (aindexS 5 x33 x35) fun t37_7 =>
  bnd (aload true 5 t37_7 H) fun t38_8 =>
  bnd (some ((.ptr H.length 0), H ++ [.cells [(.int .i64 0), (.int .i64 0), (.int .i64 0), (.int .i64 0), (.int .i64 0)]])) fun r4_9 =>
  bnd (astoreU 5 r4_9.1 t38_8 r4_9.2) fun r_10 =>
  bnd (afield 0 r4_9.1) fun t39_11 =>
  bnd (aload false 1 t39_11 r_10.2) fun t40_12 =>
  bnd (ibin .lss t40_12 (.int .i64 1)) fun t41_13 =>
  bnd (gdv t41_13 false (.tuple []) (afield 1 r4_9.1)) fun t43_14 =>
  bnd (gdv t41_13 false (.tuple []) (aload false 1 t43_14 r_10.2)) fun t44_15 =>
  bnd (gdv t41_13 false (.tuple []) (ibin .lss t44_15 (.int .i64 1))) fun t45_16 =>
  bnd (apick t41_13 (.bool true) t45_16) fun t46_17 =>
  bnd (gdv t46_17 false (.tuple []) (afield 2 r4_9.1)) fun t48_18 =>
  bnd (gdv t46_17 false (.tuple []) (aload false 1 t48_18 r_10.2)) fun t49_19 =>
  bnd (gdv t46_17 false (.tuple []) (ibin .lss t49_19 (.int .i64 0))) fun t50_20 =>
  bnd (apick t46_17 (.bool true) t50_20) fun t51_21 =>
  bnd (gdv t51_21 false (.tuple []) (afield 3 r4_9.1)) fun t53_22 =>
  bnd (gdv t51_21 false (.tuple []) (aload false 1 t53_22 r_10.2)) fun t54_23 =>
  bnd (gdv t51_21 false (.tuple []) (ibin .lss t54_23 (.int .i64 0))) fun t55_24 =>
  bnd (apick t51_21 (.bool true) t55_24) fun t56_25 =>
  bnd (gdv t56_25 false (.tuple []) (afield 2 r4_9.1)) fun t58_26 =>
  bnd (gdv t56_25 false (.tuple []) (aload false 1 t58_26 r_10.2)) fun t59_27 =>
  bnd (gdv t56_25 false (.tuple []) (ibin .eql t59_27 (.int .i64 0))) fun t60_28 =>
  bnd (gdv t56_25 false (.tuple []) (some t60_28)) fun t61_29 =>
  bnd (gdv t61_29 true (.tuple []) (afield 3 r4_9.1)) fun t62_30 =>
  bnd (gdv t61_29 true (.tuple []) (aload false 1 t62_30 r_10.2)) fun t63_31 =>
  bnd (gdv t61_29 true (.tuple []) (ibin .neq t63_31 (.int .i64 0))) fun t64_32 =>
  bnd (gdv t56_25 false (.tuple []) (apick t61_29 t64_32 (.bool false))) fun t65_33 =>
  bnd (apick t56_25 (.bool true) t65_33) fun t66_34 =>
  bnd (gdv t66_34 false (.tuple []) (afield 4 r4_9.1)) fun t68_35 =>
  bnd (gdv t66_34 false (.tuple []) (aload false 1 t68_35 r_10.2)) fun t69_36 =>
  bnd (gdv t66_34 false (.tuple []) (ibin .lss t69_36 (.int .i64 0))) fun t70_37 =>
  bnd (apick t66_34 (.bool true) t70_37) fun t71_38 =>
  bnd (gdv t71_38 false (.tuple []) (afield 4 r4_9.1)) fun t73_39 =>
  bnd (gdv t71_38 false (.tuple []) (aload false 1 t73_39 r_10.2)) fun t74_40 =>
  bnd (gdv t71_38 false (.tuple []) (ibin .gtr t74_40 (.int .i64 31))) fun t75_41 =>
  bnd (apick t71_38 (.bool true) t75_41) fun t76_42 =>
  cnd t76_42
    (some ((.int .i64 2), r_10.2))
    (j23_5 x33 x34 x35 r_10.2)
theorem e23_4 (H0 : Hp) (x33 x34 x35 x36 : AV) (H : Hp) : j23_4 H0 x33 x34 x35 x36 H = b23_4 (j23_5 H0) x33 x34 x35 x36 H := (CXM_eq [3, 5, 7, 10, 11] _ _ _ _).trans (by kernel_rfl)
theorem m23_4 {j23_5 dj23_5 : A3} (hj23_5 : L3 j23_5 dj23_5) : L4 (b23_4 j23_5) (b23_4 dj23_5) := fun _ _ _ _ _ =>
  bR fun _ => bR fun _ => bR fun _ => bR fun _ => bR fun _ => bR fun _ => bR fun _ => bR fun _ => bR fun _ => bR fun _ => bR fun _ => bR fun _ => bR fun _ => bR fun _ => bR fun _ => bR fun _ => bR fun _ => bR fun _ => bR fun _ => bR fun _ => bR fun _ => bR fun _ => bR fun _ => bR fun _ => bR fun _ => bR fun _ => bR fun _ => bR fun _ => bR fun _ => bR fun _ => bR fun _ => bR fun _ => bR fun _ => bR fun _ => bR fun _ => bR fun _ => bK (le_refl _) (hj23_5 _ _ _ _)
noncomputable def b23_l1 (j23_3 : A0) (j23_4 : A4) (x33 x34 x35 : AV) (H : Hp) : Res :=
  bnd (ibin .lss x35 x34) fun t36_5 =>
  cnd t36_5
    (j23_4 x33 x34 x35 t36_5 H)
    (j23_3 H)
theorem e23_l1 (H0 : Hp) (x33 x34 x35 : AV) (H : Hp) : j23_l1 H0 x33 x34 x35 H = b23_l1 (j23_3 H0) (j23_4 H0) x33 x34 x35 H := (LPL_eqm (C := cfg) [3, 5, 7, 10, 11] (tame_block 0 (k23_1_tame H0)) _ _).trans (by kernel_rfl)
theorem m23_l1 {j23_3 dj23_3 : A0} (hj23_3 : L0 j23_3 dj23_3) {j23_4 dj23_4 : A4} (hj23_4 : L4 j23_4 dj23_4) : L3 (b23_l1 j23_3 j23_4) (b23_l1 dj23_3 dj23_4) := fun _ _ _ _ =>
  bR fun _ => bK (hj23_4 _ _ _ _ _) (hj23_3 _)
noncomputable def b23_2 (j23_l1 : A3) (x1 : AV) (H : Hp) : Res :=
  bnd (afield 0 x1) fun t32_2 =>
  bnd (aload false 1 t32_2 H) fun t33_3 =>
  bnd (alenD (.slice 34) t33_3) fun t34_4 =>
  j23_l1 t33_3 t34_4 (.int .i64 0) H
theorem e23_2 (H0 : Hp) (x1 : AV) (H : Hp) : j23_2 H0 x1 H = b23_2 (j23_l1 H0) x1 H := (CXM_eq [3, 5, 7, 10, 11] _ _ _ _).trans (by kernel_rfl)
theorem m23_2 {j23_l1 dj23_l1 : A3} (hj23_l1 : L3 j23_l1 dj23_l1) : L1 (b23_2 j23_l1) (b23_2 dj23_l1) := fun _ _ =>
  bR fun _ => bR fun _ => bR fun _ => hj23_l1 _ _ _ _
noncomputable def b23_1 (j23_2 : A1) (x1 : AV) (H : Hp) : Res :=
  bnd (afield 1 x1) fun t9_43 =>
  bnd (aload false 1 t9_43 H) fun t10_44 =>
  bnd (ibin .lss t10_44 (.int .i64 (-1))) fun t11_45 =>
  bnd (gdv t11_45 false (.tuple []) (afield 1 x1)) fun t13_46 =>
  bnd (gdv t11_45 false (.tuple []) (aload false 1 t13_46 H)) fun t14_47 =>
  bnd (gdv t11_45 false (.tuple []) (ibin .gtr t14_47 (.int .i64 255))) fun t15_48 =>
  bnd (apick t11_45 (.bool true) t15_48) fun t16_49 =>
  bnd (gdv t16_49 false (.tuple []) (afield 1 x1)) fun t18_50 =>
  bnd (gdv t16_49 false (.tuple []) (aload false 1 t18_50 H)) fun t19_51 =>
  bnd (gdv t16_49 false (.tuple []) (ibin .eql t19_51 (.int .i64 10))) fun t20_52 =>
  bnd (apick t16_49 (.bool true) t20_52) fun t21_53 =>
  bnd (gdv t21_53 false (.tuple []) (afield 2 x1)) fun t23_54 =>
  bnd (gdv t21_53 false (.tuple []) (aload false 1 t23_54 H)) fun t24_55 =>
  bnd (gdv t21_53 false (.tuple []) (ibin .lss t24_55 (.int .i64 0))) fun t25_56 =>
  bnd (apick t21_53 (.bool true) t25_56) fun t26_57 =>
  bnd (gdv t26_57 false (.tuple []) (afield 2 x1)) fun t28_58 =>
  bnd (gdv t26_57 false (.tuple []) (aload false 1 t28_58 H)) fun t29_59 =>
  bnd (gdv t26_57 false (.tuple []) (ibin .gtr t29_59 (.int .i64 31))) fun t30_60 =>
  bnd (apick t26_57 (.bool true) t30_60) fun t31_61 =>
  cnd t31_61
    (some ((.int .i64 2), H))
    (j23_2 x1 H)
theorem e23_1 (H0 : Hp) (x1 : AV) (H : Hp) : j23_1 H0 x1 H = b23_1 (j23_2 H0) x1 H := (CXM_eq [3, 5, 7, 10, 11] _ _ _ _).trans (by kernel_rfl)
theorem m23_1 {j23_2 dj23_2 : A1} (hj23_2 : L1 j23_2 dj23_2) : L1 (b23_1 j23_2) (b23_1 dj23_2) := fun _ _ =>
  bR fun _ => bR fun _ => bR fun _ => bR fun _ => bR fun _ => bR fun _ => bR fun _ => bR fun _ => bR fun _ => bR fun _ => bR fun _ => bR fun _ => bR fun _ => bR fun _ => bR fun _ => bR fun _ => bR fun _ => bR fun _ => bR fun _ => bK (le_refl _) (hj23_2 _ _)
noncomputable def rj23_3 : A0 := b23_3
theorem sj23_3 (H0 : Hp) : L0 (rj23_3) (j23_3 H0) := fun _ => le_eq (m23_3 _) (e23_3 H0 _)
noncomputable def rj23_5 (j23_l1 : A3) : A3 := b23_5 j23_l1
theorem sj23_5 (H0 : Hp) {yj23_l1 : A3} (hj23_l1 : L3 yj23_l1 (j23_l1 H0)) : L3 (rj23_5 yj23_l1) (j23_5 H0) := fun _ _ _ _ => le_eq (m23_5 hj23_l1 _ _ _ _) (e23_5 H0 _ _ _ _)
noncomputable def rj23_4 (j23_l1 : A3) : A4 := b23_4 (rj23_5 j23_l1)
theorem sj23_4 (H0 : Hp) {yj23_l1 : A3} (hj23_l1 : L3 yj23_l1 (j23_l1 H0)) : L4 (rj23_4 yj23_l1) (j23_4 H0) := fun _ _ _ _ _ => le_eq (m23_4 (sj23_5 H0 hj23_l1) _ _ _ _ _) (e23_4 H0 _ _ _ _ _)
noncomputable def rj23_l1 (n : Nat) : A3 := @Nat.rec (fun _ => A3) (fun _ _ _ _ => none) (fun _ j23_l1 => b23_l1 (rj23_3) (rj23_4 j23_l1)) n
theorem sj23_l1 (H0 : Hp) (n : Nat) : L3 (rj23_l1 n) (j23_l1 H0) := by
  induction n with
  | zero => exact fun _ _ _ _ => le_none _
  | succ n hj23_l1 => exact fun _ _ _ _ => le_eq (m23_l1 (sj23_3 H0) (sj23_4 H0 hj23_l1) _ _ _ _) (e23_l1 H0 _ _ _ _)
noncomputable def rj23_2 : A1 := b23_2 (rj23_l1 100000)
theorem sj23_2 (H0 : Hp) : L1 (rj23_2) (j23_2 H0) := fun _ _ => le_eq (m23_2 (sj23_l1 H0 100000) _ _) (e23_2 H0 _ _)
noncomputable def rj23_1 : A1 := b23_1 (rj23_2)
theorem sj23_1 (H0 : Hp) : L1 (rj23_1) (j23_1 H0) := fun _ _ => le_eq (m23_1 (sj23_2 H0) _ _) (e23_1 H0 _ _)
noncomputable def bc23 (j23_1 : A1) (p0 : AV) (H : Hp) : Res :=
  bnd (abox p0 H) fun r1_1 =>
  bnd (afield 0 r1_1.1) fun t5_62 =>
  bnd (aload false 1 t5_62 r1_1.2) fun t6_63 =>
  bnd (alenD (.slice 34) t6_63) fun t7_64 =>
  bnd (ibin .gtr t7_64 (.int .i64 8)) fun t8_65 =>
  cnd t8_65
    (some ((.int .i64 3), r1_1.2))
    (j23_1 r1_1.1 r1_1.2)
theorem ec23 (p0 : AV) (H : Hp) : c23 p0 H = bc23 (j23_1 H) p0 H := (callw_cxm (C := cfg) (fn := Tryz.f23) (c := bodyOf Tryz.f23) (n := 78) [3, 5, 7, 10, 11] Tryz.func23 (by kernel_rfl) (by kernel_rfl) [p0] (by kernel_rfl) H).trans (by kernel_rfl)
theorem mc23 {j23_1 dj23_1 : A1} (hj23_1 : L1 j23_1 dj23_1) : L1 (bc23 j23_1) (bc23 dj23_1) := fun _ _ =>
  bR fun _ => bR fun _ => bR fun _ => bR fun _ => bR fun _ => bK (le_refl _) (hj23_1 _ _)
noncomputable def rc23 : A1 := fun p0 H => bc23 (rj23_1) p0 H
theorem sc23 : L1 rc23 c23 := fun _ H => le_eq (mc23 (sj23_1 H) _ _) (ec23 _ _)
noncomputable def q23 : A1 := fun p0 H => flatC (callw cfg 23) [p0] H
noncomputable def rq23 : A1 := fun p0 H => flatC (ofL1 (rc23)) [p0] H
theorem sq23 : L1 rq23 q23 := fun _ _ => flat_le (ofL1_le (sc23)) _ _

/-! sortkey_valid -/
noncomputable def c34 (p0 : AV) (H : Hp) : Res := callw cfg 34 [p0] H
noncomputable def j34_1 (H0 : Hp) (x1 x2 : AV) (H : Hp) : Res := CXf 34 8 (sub (bodyOf Tryz.f34) [1, 1]) (retL cfg 8 34 Tryz.f34 H0) [(1, x1), (2, x2)] H
noncomputable def b34_1 (x1 x2 : AV) (H : Hp) : Res :=
  bnd (aload true 5 x1 H) fun t7_3 =>
  bnd (astoreU 5 x2 t7_3 H) fun r_4 =>
  bnd (aload true 5 x2 r_4.2) fun v2_5 =>
  some (v2_5, r_4.2)
theorem e34_1 (H0 : Hp) (x1 x2 : AV) (H : Hp) : j34_1 H0 x1 x2 H = b34_1 x1 x2 H := (CXM_eq [3] _ _ _ _).trans (by kernel_rfl)
theorem m34_1 : L2 (b34_1) (b34_1) := fun _ _ _ =>
  bR fun _ => bR fun _ => bR fun _ => le_refl _
noncomputable def rj34_1 : A2 := b34_1
theorem sj34_1 (H0 : Hp) : L2 (rj34_1) (j34_1 H0) := fun _ _ _ => le_eq (m34_1 _ _ _) (e34_1 H0 _ _ _)
noncomputable def bc34 (q23 : A1) (j34_1 : A2) (p0 : AV) (H : Hp) : Res :=
  bnd (abox p0 H) fun r1_1 =>
  bnd (some ((.ptr r1_1.2.length 0), r1_1.2 ++ [.cells [.nils, (.int .i64 0), (.int .i64 0), (.bool false), (.bool false)]])) fun r2_2 =>
  bnd (aload true 5 r1_1.1 r2_2.2) fun t3_6 =>
  bnd (q23 t3_6 r2_2.2) fun r4_7 =>
  bnd (ibin .neq r4_7.1 (.int .i64 0)) fun t5_8 =>
  cnd t5_8
    (bnd ((afill [(1, 1, (.int .i64 (-1)))] [.nils, (.int .i64 0), (.int .i64 0), (.bool false), (.bool false)]).map .agg) fun t6_9 =>
    bnd (astoreU 5 r2_2.1 t6_9 r4_7.2) fun r_10 =>
    bnd (aload true 5 r2_2.1 r_10.2) fun v2_11 =>
    some (v2_11, r_10.2))
    (j34_1 r1_1.1 r2_2.1 r4_7.2)
theorem ec34 (p0 : AV) (H : Hp) : c34 p0 H = bc34 q23 (j34_1 H) p0 H := (callw_cxm (C := cfg) (fn := Tryz.f34) (c := bodyOf Tryz.f34) (n := 8) [3] Tryz.func34 (by kernel_rfl) (by kernel_rfl) [p0] (by kernel_rfl) H).trans (by kernel_rfl)
theorem mc34 {q23 dq23 : A1} (hq23 : L1 q23 dq23) {j34_1 dj34_1 : A2} (hj34_1 : L2 j34_1 dj34_1) : L1 (bc34 q23 j34_1) (bc34 dq23 dj34_1) := fun _ _ =>
  bR fun _ => bR fun _ => bR fun _ => bC (hq23 _ _) fun _ => bR fun _ => bK (bR fun _ => bR fun _ => bR fun _ => le_refl _) (hj34_1 _ _ _)
noncomputable def rc34 : A1 := fun p0 H => bc34 rq23 (rj34_1) p0 H
theorem sc34 : L1 rc34 c34 := fun _ H => le_eq (mc34 sq23 (sj34_1 H) _ _) (ec34 _ _)

/-! locale_name -/
noncomputable def c112 (p0 : AV) (H : Hp) : Res := callw cfg 112 [p0] H
noncomputable def j112_1 (H0 : Hp) (x0 : AV) (H : Hp) : Res := CXf 112 54 (sub (bodyOf Tryz.f112) [1, 1]) (retL cfg 54 112 Tryz.f112 H0) [(0, x0)] H
noncomputable def k112_1 (H0 : Hp) : KL := seqL (fun k al H => CXf 112 54 (sub (bodyOf Tryz.f112) [1, 1]) k (trimL (cfg.keep 112) (sub (bodyOf Tryz.f112) [1, 1]) al) H) (retL cfg 54 112 Tryz.f112 H0)
theorem k112_1_tame (H0 : Hp) : Tame 54 (k112_1 H0) := tame_seq (C := cfg) (kp := cfg.keep 112) (sub (bodyOf Tryz.f112) [1, 1]) (tame_ret 112 Tryz.f112 H0)
noncomputable def j112_3 (H0 : Hp) (x0 x7 x8 : AV) (H : Hp) : Res := CXf 112 54 (sub (bodyOf Tryz.f112) [1, 0, 1, 0, 0, 1, 1, 1]) (seqL (fun k al H => LPf 112 54 (sub (bodyOf Tryz.f112) [1, 0, 1, 0, 0]) k (trimL (cfg.keep 112) (sub (bodyOf Tryz.f112) [1, 0, 1, 0, 0]) al) H) (blockL 0 (k112_1 H0))) [(0, x0), (7, x7), (8, x8)] H
noncomputable def j112_2 (H0 : Hp) (x0 x7 x8 x9 : AV) (H : Hp) : Res := CXf 112 54 (sub (bodyOf Tryz.f112) [1, 0, 1, 0, 0, 1, 1]) (seqL (fun k al H => LPf 112 54 (sub (bodyOf Tryz.f112) [1, 0, 1, 0, 0]) k (trimL (cfg.keep 112) (sub (bodyOf Tryz.f112) [1, 0, 1, 0, 0]) al) H) (blockL 0 (k112_1 H0))) [(0, x0), (7, x7), (8, x8), (9, x9)] H
noncomputable def j112_l1 (H0 : Hp) (x0 x7 x8 : AV) (H : Hp) : Res := LPf 112 54 (sub (bodyOf Tryz.f112) [1, 0, 1, 0, 0]) (blockL 0 (k112_1 H0)) [(0, x0), (7, x7), (8, x8)] H
noncomputable def b112_1 (x0 : AV) (H : Hp) : Res :=
  bnd (sbin .neq x0 (.str [])) fun t48_1 =>
  bnd (gdv t48_1 true (.tuple []) (some x0)) fun t50_2 =>
  bnd (gdv t48_1 true (.tuple []) (alenD .string t50_2)) fun t51_3 =>
  bnd (gdv t48_1 true (.tuple []) (ibin .leq t51_3 (.int .i64 32))) fun t52_4 =>
  bnd (apick t48_1 t52_4 (.bool false)) fun t53_5 =>
  some (t53_5, H)
theorem e112_1 (H0 : Hp) (x0 : AV) (H : Hp) : j112_1 H0 x0 H = b112_1 x0 H := (CXM_eq [3, 8, 9] _ _ _ _).trans (by kernel_rfl)
theorem m112_1 : L1 (b112_1) (b112_1) := fun _ _ =>
  bR fun _ => bR fun _ => bR fun _ => bR fun _ => bR fun _ => le_refl _
noncomputable def b112_3 (j112_l1 : A3) (x0 x7 x8 : AV) (H : Hp) : Res :=
  bnd (ibin .add x8 (.int .i64 1)) fun t46_8 =>
  j112_l1 x0 x7 t46_8 H
theorem e112_3 (H0 : Hp) (x0 x7 x8 : AV) (H : Hp) : j112_3 H0 x0 x7 x8 H = b112_3 (j112_l1 H0) x0 x7 x8 H := (CXM_eq [3, 8, 9] _ _ _ _).trans (by kernel_rfl)
theorem m112_3 {j112_l1 dj112_l1 : A3} (hj112_l1 : L3 j112_l1 dj112_l1) : L3 (b112_3 j112_l1) (b112_3 dj112_l1) := fun _ _ _ _ =>
  bR fun _ => hj112_l1 _ _ _ _
noncomputable def b112_2 (j112_3 : A3) (x0 x7 x8 x9 : AV) (H : Hp) : Res :=
  bnd (aindexStr x0 x8) fun t13_9 =>
  bnd (ibin .eql t13_9 (.int .u8 95)) fun t15_10 =>
  bnd (gdv t15_10 false (.tuple []) (some t13_9)) fun t17_11 =>
  bnd (gdv t15_10 false (.tuple []) (ibin .geq t17_11 (.int .u8 97))) fun t18_12 =>
  bnd (gdv t15_10 false (.tuple []) (some t18_12)) fun t19_13 =>
  bnd (gdv t19_13 true (.tuple []) (some t13_9)) fun t20_14 =>
  bnd (gdv t19_13 true (.tuple []) (ibin .leq t20_14 (.int .u8 122))) fun t21_15 =>
  bnd (gdv t15_10 false (.tuple []) (apick t19_13 t21_15 (.bool false))) fun t22_16 =>
  bnd (apick t15_10 (.bool true) t22_16) fun t23_17 =>
  bnd (gdv t23_17 false (.tuple []) (some t13_9)) fun t25_18 =>
  bnd (gdv t23_17 false (.tuple []) (ibin .geq t25_18 (.int .u8 65))) fun t26_19 =>
  bnd (gdv t23_17 false (.tuple []) (some t26_19)) fun t27_20 =>
  bnd (gdv t27_20 true (.tuple []) (some t13_9)) fun t28_21 =>
  bnd (gdv t27_20 true (.tuple []) (ibin .leq t28_21 (.int .u8 90))) fun t29_22 =>
  bnd (gdv t23_17 false (.tuple []) (apick t27_20 t29_22 (.bool false))) fun t30_23 =>
  bnd (apick t23_17 (.bool true) t30_23) fun t31_24 =>
  bnd (aun .not t31_24) fun t33_25 =>
  bnd (gdv t33_25 true (.tuple []) (some x8)) fun t35_26 =>
  bnd (gdv t33_25 true (.tuple []) (ibin .eql t35_26 (.int .i64 0))) fun t36_27 =>
  bnd (gdv t33_25 true (.tuple []) (some t36_27)) fun t37_28 =>
  bnd (gdv t37_28 false (.tuple []) (some t13_9)) fun t38_29 =>
  bnd (gdv t37_28 false (.tuple []) (ibin .lss t38_29 (.int .u8 48))) fun t39_30 =>
  bnd (gdv t33_25 true (.tuple []) (apick t37_28 (.bool true) t39_30)) fun t40_31 =>
  bnd (gdv t33_25 true (.tuple []) (some t40_31)) fun t41_32 =>
  bnd (gdv t41_32 false (.tuple []) (some t13_9)) fun t42_33 =>
  bnd (gdv t41_32 false (.tuple []) (ibin .gtr t42_33 (.int .u8 57))) fun t43_34 =>
  bnd (gdv t33_25 true (.tuple []) (apick t41_32 (.bool true) t43_34)) fun t44_35 =>
  bnd (apick t33_25 t44_35 (.bool false)) fun t45_36 =>
  cnd t45_36
    (some ((.bool false), H))
    (j112_3 x0 x7 x8 H)
theorem e112_2 (H0 : Hp) (x0 x7 x8 x9 : AV) (H : Hp) : j112_2 H0 x0 x7 x8 x9 H = b112_2 (j112_3 H0) x0 x7 x8 x9 H := (CXM_eq [3, 8, 9] _ _ _ _).trans (by kernel_rfl)
theorem m112_2 {j112_3 dj112_3 : A3} (hj112_3 : L3 j112_3 dj112_3) : L4 (b112_2 j112_3) (b112_2 dj112_3) := fun _ _ _ _ _ =>
  bR fun _ => bR fun _ => bR fun _ => bR fun _ => bR fun _ => bR fun _ => bR fun _ => bR fun _ => bR fun _ => bR fun _ => bR fun _ => bR fun _ => bR fun _ => bR fun _ => bR fun _ => bR fun _ => bR fun _ => bR fun _ => bR fun _ => bR fun _ => bR fun _ => bR fun _ => bR fun _ => bR fun _ => bR fun _ => bR fun _ => bR fun _ => bR fun _ => bK (le_refl _) (hj112_3 _ _ _ _)
noncomputable def b112_l1 (j112_1 : A1) (j112_2 : A4) (x0 x7 x8 : AV) (H : Hp) : Res :=
  bnd (ibin .lss x8 x7) fun t9_7 =>
  cnd t9_7
    (j112_2 x0 x7 x8 t9_7 H)
    (j112_1 x0 H)
theorem e112_l1 (H0 : Hp) (x0 x7 x8 : AV) (H : Hp) : j112_l1 H0 x0 x7 x8 H = b112_l1 (j112_1 H0) (j112_2 H0) x0 x7 x8 H := (LPL_eqm (C := cfg) [3, 8, 9] (tame_block 0 (k112_1_tame H0)) _ _).trans (by kernel_rfl)
theorem m112_l1 {j112_1 dj112_1 : A1} (hj112_1 : L1 j112_1 dj112_1) {j112_2 dj112_2 : A4} (hj112_2 : L4 j112_2 dj112_2) : L3 (b112_l1 j112_1 j112_2) (b112_l1 dj112_1 dj112_2) := fun _ _ _ _ =>
  bR fun _ => bK (hj112_2 _ _ _ _ _) (hj112_1 _ _)
noncomputable def rj112_1 : A1 := b112_1
theorem sj112_1 (H0 : Hp) : L1 (rj112_1) (j112_1 H0) := fun _ _ => le_eq (m112_1 _ _) (e112_1 H0 _ _)
noncomputable def rj112_3 (j112_l1 : A3) : A3 := b112_3 j112_l1
theorem sj112_3 (H0 : Hp) {yj112_l1 : A3} (hj112_l1 : L3 yj112_l1 (j112_l1 H0)) : L3 (rj112_3 yj112_l1) (j112_3 H0) := fun _ _ _ _ => le_eq (m112_3 hj112_l1 _ _ _ _) (e112_3 H0 _ _ _ _)
noncomputable def rj112_2 (j112_l1 : A3) : A4 := b112_2 (rj112_3 j112_l1)
theorem sj112_2 (H0 : Hp) {yj112_l1 : A3} (hj112_l1 : L3 yj112_l1 (j112_l1 H0)) : L4 (rj112_2 yj112_l1) (j112_2 H0) := fun _ _ _ _ _ => le_eq (m112_2 (sj112_3 H0 hj112_l1) _ _ _ _ _) (e112_2 H0 _ _ _ _ _)
noncomputable def rj112_l1 (n : Nat) : A3 := @Nat.rec (fun _ => A3) (fun _ _ _ _ => none) (fun _ j112_l1 => b112_l1 (rj112_1) (rj112_2 j112_l1)) n
theorem sj112_l1 (H0 : Hp) (n : Nat) : L3 (rj112_l1 n) (j112_l1 H0) := by
  induction n with
  | zero => exact fun _ _ _ _ => le_none _
  | succ n hj112_l1 => exact fun _ _ _ _ => le_eq (m112_l1 (sj112_1 H0) (sj112_2 H0 hj112_l1) _ _ _ _) (e112_l1 H0 _ _ _ _)
noncomputable def bc112 (j112_l1 : A3) (p0 : AV) (H : Hp) : Res :=
  bnd (alenD .string p0) fun t7_6 =>
  j112_l1 p0 t7_6 (.int .i64 0) H
theorem ec112 (p0 : AV) (H : Hp) : c112 p0 H = bc112 (j112_l1 H) p0 H := (callw_cxm (C := cfg) (fn := Tryz.f112) (c := bodyOf Tryz.f112) (n := 54) [3, 8, 9] Tryz.func112 (by kernel_rfl) (by kernel_rfl) [p0] (by kernel_rfl) H).trans (by kernel_rfl)
theorem mc112 {j112_l1 dj112_l1 : A3} (hj112_l1 : L3 j112_l1 dj112_l1) : L1 (bc112 j112_l1) (bc112 dj112_l1) := fun _ _ =>
  bR fun _ => hj112_l1 _ _ _ _
noncomputable def rc112 : A1 := fun p0 H => bc112 (rj112_l1 100000) p0 H
theorem sc112 : L1 rc112 c112 := fun _ H => le_eq (mc112 (sj112_l1 H 100000) _ _) (ec112 _ _)

/-! locale_checkClasses -/
noncomputable def c113 (p0 : AV) (H : Hp) : Res := callw cfg 113 [p0] H
noncomputable def j113_2 (H0 : Hp) (H : Hp) : Res := CXf 113 28 (sub (bodyOf Tryz.f113) [1, 1, 1, 1]) (retL cfg 28 113 Tryz.f113 H0) [] H
noncomputable def k113_1 (H0 : Hp) : KL := seqL (fun k al H => CXf 113 28 (sub (bodyOf Tryz.f113) [1, 1, 1, 1]) k (trimL (cfg.keep 113) (sub (bodyOf Tryz.f113) [1, 1, 1, 1]) al) H) (retL cfg 28 113 Tryz.f113 H0)
theorem k113_1_tame (H0 : Hp) : Tame 28 (k113_1 H0) := tame_seq (C := cfg) (kp := cfg.keep 113) (sub (bodyOf Tryz.f113) [1, 1, 1, 1]) (tame_ret 113 Tryz.f113 H0)
noncomputable def j113_4 (H0 : Hp) (x3 x10 x11 x12 : AV) (H : Hp) : Res := CXf 113 28 (sub (bodyOf Tryz.f113) [1, 1, 1, 0, 1, 0, 0, 1, 1, 1]) (seqL (fun k al H => LPf 113 28 (sub (bodyOf Tryz.f113) [1, 1, 1, 0, 1, 0, 0]) k (trimL (cfg.keep 113) (sub (bodyOf Tryz.f113) [1, 1, 1, 0, 1, 0, 0]) al) H) (blockL 0 (k113_1 H0))) [(3, x3), (10, x10), (11, x11), (12, x12)] H
noncomputable def k113_2 (H0 : Hp) : KL := seqL (fun k al H => CXf 113 28 (sub (bodyOf Tryz.f113) [1, 1, 1, 0, 1, 0, 0, 1, 1, 1]) k (trimL (cfg.keep 113) (sub (bodyOf Tryz.f113) [1, 1, 1, 0, 1, 0, 0, 1, 1, 1]) al) H) (seqL (fun k al H => LPf 113 28 (sub (bodyOf Tryz.f113) [1, 1, 1, 0, 1, 0, 0]) k (trimL (cfg.keep 113) (sub (bodyOf Tryz.f113) [1, 1, 1, 0, 1, 0, 0]) al) H) (blockL 0 (k113_1 H0)))
noncomputable def j113_6 (H0 : Hp) (x3 x5 x10 x11 x12 : AV) (H : Hp) : Res := CXf 113 28 (sub (bodyOf Tryz.f113) [1, 1, 1, 0, 1, 0, 0, 1, 1, 0, 0, 1, 1, 1]) (blockL 1 (k113_2 H0)) [(3, x3), (5, x5), (10, x10), (11, x11), (12, x12)] H
noncomputable def j113_5 (H0 : Hp) (x3 x5 x10 x11 x12 : AV) (H : Hp) : Res := CXf 113 28 (sub (bodyOf Tryz.f113) [1, 1, 1, 0, 1, 0, 0, 1, 1, 0, 0, 1, 1]) (blockL 1 (k113_2 H0)) [(3, x3), (5, x5), (10, x10), (11, x11), (12, x12)] H
noncomputable def j113_3 (H0 : Hp) (x3 x10 x11 x12 x13 : AV) (H : Hp) : Res := CXf 113 28 (sub (bodyOf Tryz.f113) [1, 1, 1, 0, 1, 0, 0, 1, 1]) (seqL (fun k al H => LPf 113 28 (sub (bodyOf Tryz.f113) [1, 1, 1, 0, 1, 0, 0]) k (trimL (cfg.keep 113) (sub (bodyOf Tryz.f113) [1, 1, 1, 0, 1, 0, 0]) al) H) (blockL 0 (k113_1 H0))) [(3, x3), (10, x10), (11, x11), (12, x12), (13, x13)] H
noncomputable def j113_l1 (H0 : Hp) (x3 x10 x11 x12 : AV) (H : Hp) : Res := LPf 113 28 (sub (bodyOf Tryz.f113) [1, 1, 1, 0, 1, 0, 0]) (blockL 0 (k113_1 H0)) [(3, x3), (10, x10), (11, x11), (12, x12)] H
noncomputable def j113_1 (H0 : Hp) (x0 : AV) (H : Hp) : Res := CXf 113 28 (sub (bodyOf Tryz.f113) [1, 1]) (retL cfg 28 113 Tryz.f113 H0) [(0, x0)] H
noncomputable def b113_2 (H : Hp) : Res :=
  some ((.int .i64 0), H)
theorem e113_2 (H0 : Hp) (H : Hp) : j113_2 H0 H = b113_2 H := (CXM_eq [3, 6, 9, 11, 12, 13] _ _ _ _).trans (by kernel_rfl)
theorem m113_2 : L0 (b113_2) (b113_2) := fun _ =>
  le_refl _
noncomputable def b113_4 (j113_l1 : A4) (x3 x10 x11 x12 : AV) (H : Hp) : Res :=
  bnd (ibin .add x12 (.int .i64 1)) fun t27_4 =>
  j113_l1 x3 x10 x11 t27_4 H
theorem e113_4 (H0 : Hp) (x3 x10 x11 x12 : AV) (H : Hp) : j113_4 H0 x3 x10 x11 x12 H = b113_4 (j113_l1 H0) x3 x10 x11 x12 H := (CXM_eq [3, 6, 9, 11, 12, 13] _ _ _ _).trans (by kernel_rfl)
theorem m113_4 {j113_l1 dj113_l1 : A4} (hj113_l1 : L4 j113_l1 dj113_l1) : L4 (b113_4 j113_l1) (b113_4 dj113_l1) := fun _ _ _ _ _ =>
  bR fun _ => hj113_l1 _ _ _ _ _
noncomputable def b113_6 (j113_4 : A4) (x3 x5 x10 x11 x12 : AV) (H : Hp) : Res :=
  bnd (afield 0 x5) fun t25_9 =>
  bnd (aload false 1 t25_9 H) fun t26_10 =>
  bnd (amapSet .string x3 t26_10 (.bool true) H) fun r_11 =>
  j113_4 x3 x10 x11 x12 r_11.2
theorem e113_6 (H0 : Hp) (x3 x5 x10 x11 x12 : AV) (H : Hp) : j113_6 H0 x3 x5 x10 x11 x12 H = b113_6 (j113_4 H0) x3 x5 x10 x11 x12 H := (CXM_eq [3, 6, 9, 11, 12, 13] _ _ _ _).trans (by kernel_rfl)
theorem m113_6 {j113_4 dj113_4 : A4} (hj113_4 : L4 j113_4 dj113_4) : L5 (b113_6 j113_4) (b113_6 dj113_4) := fun _ _ _ _ _ _ =>
  bR fun _ => bR fun _ => bR fun _ => hj113_4 _ _ _ _ _
noncomputable def b113_5 (j113_6 : A5) (x3 x5 x10 x11 x12 : AV) (H : Hp) : Res :=
  bnd (afield 0 x5) fun t21_12 =>
  bnd (aload false 1 t21_12 H) fun t22_13 =>
  bnd (alookup .string (.bool false) false x3 t22_13 H) fun t23_14 =>
  cnd t23_14
    (some ((.int .i64 6), H))
    (j113_6 x3 x5 x10 x11 x12 H)
theorem e113_5 (H0 : Hp) (x3 x5 x10 x11 x12 : AV) (H : Hp) : j113_5 H0 x3 x5 x10 x11 x12 H = b113_5 (j113_6 H0) x3 x5 x10 x11 x12 H := (CXM_eq [3, 6, 9, 11, 12, 13] _ _ _ _).trans (by kernel_rfl)
theorem m113_5 {j113_6 dj113_6 : A5} (hj113_6 : L5 j113_6 dj113_6) : L5 (b113_5 j113_6) (b113_5 dj113_6) := fun _ _ _ _ _ _ =>
  bR fun _ => bR fun _ => bR fun _ => bK (le_refl _) (hj113_6 _ _ _ _ _ _)
noncomputable def b113_3 (c112 : A1) (j113_5 : A5) (x3 x10 x11 x12 x13 : AV) (H : Hp) : Res :=
  bnd (aindexS 5 x10 x12) fun t14_5 =>
  bnd (aload true 5 t14_5 H) fun t15_6 =>
  bnd (some ((.ptr H.length 0), H ++ [.cells [(.str []), (.int .u64 0), (.int .u64 0), (.int .u64 0), (.int .u64 0)]])) fun r5_7 =>
  bnd (astoreU 5 r5_7.1 t15_6 r5_7.2) fun r_8 =>
  bnd (afield 0 r5_7.1) fun t16_15 =>
  bnd (aload false 1 t16_15 r_8.2) fun t17_16 =>
  bnd (c112 t17_16 r_8.2) fun r18_17 =>
  bnd (aun .not r18_17.1) fun t19_18 =>
  cnd t19_18
    (some ((.int .i64 4), r18_17.2))
    (j113_5 x3 r5_7.1 x10 x11 x12 r18_17.2)
theorem e113_3 (H0 : Hp) (x3 x10 x11 x12 x13 : AV) (H : Hp) : j113_3 H0 x3 x10 x11 x12 x13 H = b113_3 c112 (j113_5 H0) x3 x10 x11 x12 x13 H := (CXM_eq [3, 6, 9, 11, 12, 13] _ _ _ _).trans (by kernel_rfl)
theorem m113_3 {c112 dc112 : A1} (hc112 : L1 c112 dc112) {j113_5 dj113_5 : A5} (hj113_5 : L5 j113_5 dj113_5) : L5 (b113_3 c112 j113_5) (b113_3 dc112 dj113_5) := fun _ _ _ _ _ _ =>
  bR fun _ => bR fun _ => bR fun _ => bR fun _ => bR fun _ => bR fun _ => bC (hc112 _ _) fun _ => bR fun _ => bK (le_refl _) (hj113_5 _ _ _ _ _ _)
noncomputable def b113_l1 (j113_2 : A0) (j113_3 : A5) (x3 x10 x11 x12 : AV) (H : Hp) : Res :=
  bnd (ibin .lss x12 x11) fun t13_3 =>
  cnd t13_3
    (j113_3 x3 x10 x11 x12 t13_3 H)
    (j113_2 H)
theorem e113_l1 (H0 : Hp) (x3 x10 x11 x12 : AV) (H : Hp) : j113_l1 H0 x3 x10 x11 x12 H = b113_l1 (j113_2 H0) (j113_3 H0) x3 x10 x11 x12 H := (LPL_eqm (C := cfg) [3, 6, 9, 11, 12, 13] (tame_block 0 (k113_1_tame H0)) _ _).trans (by kernel_rfl)
theorem m113_l1 {j113_2 dj113_2 : A0} (hj113_2 : L0 j113_2 dj113_2) {j113_3 dj113_3 : A5} (hj113_3 : L5 j113_3 dj113_3) : L4 (b113_l1 j113_2 j113_3) (b113_l1 dj113_2 dj113_3) := fun _ _ _ _ _ =>
  bR fun _ => bK (hj113_3 _ _ _ _ _ _) (hj113_2 _)
noncomputable def b113_1 (j113_l1 : A4) (x0 : AV) (H : Hp) : Res :=
  bnd (some ((.map H.length), H ++ [.map [] 0])) fun r9_1 =>
  bnd (alenD (.slice 157) x0) fun t11_2 =>
  j113_l1 r9_1.1 x0 t11_2 (.int .i64 0) r9_1.2
theorem e113_1 (H0 : Hp) (x0 : AV) (H : Hp) : j113_1 H0 x0 H = b113_1 (j113_l1 H0) x0 H := (CXM_eq [3, 6, 9, 11, 12, 13] _ _ _ _).trans (by kernel_rfl)
theorem m113_1 {j113_l1 dj113_l1 : A4} (hj113_l1 : L4 j113_l1 dj113_l1) : L1 (b113_1 j113_l1) (b113_1 dj113_l1) := fun _ _ =>
  bR fun _ => bR fun _ => hj113_l1 _ _ _ _ _
noncomputable def rj113_2 : A0 := b113_2
theorem sj113_2 (H0 : Hp) : L0 (rj113_2) (j113_2 H0) := fun _ => le_eq (m113_2 _) (e113_2 H0 _)
noncomputable def rj113_4 (j113_l1 : A4) : A4 := b113_4 j113_l1
theorem sj113_4 (H0 : Hp) {yj113_l1 : A4} (hj113_l1 : L4 yj113_l1 (j113_l1 H0)) : L4 (rj113_4 yj113_l1) (j113_4 H0) := fun _ _ _ _ _ => le_eq (m113_4 hj113_l1 _ _ _ _ _) (e113_4 H0 _ _ _ _ _)
noncomputable def rj113_6 (j113_l1 : A4) : A5 := b113_6 (rj113_4 j113_l1)
theorem sj113_6 (H0 : Hp) {yj113_l1 : A4} (hj113_l1 : L4 yj113_l1 (j113_l1 H0)) : L5 (rj113_6 yj113_l1) (j113_6 H0) := fun _ _ _ _ _ _ => le_eq (m113_6 (sj113_4 H0 hj113_l1) _ _ _ _ _ _) (e113_6 H0 _ _ _ _ _ _)
noncomputable def rj113_5 (j113_l1 : A4) : A5 := b113_5 (rj113_6 j113_l1)
theorem sj113_5 (H0 : Hp) {yj113_l1 : A4} (hj113_l1 : L4 yj113_l1 (j113_l1 H0)) : L5 (rj113_5 yj113_l1) (j113_5 H0) := fun _ _ _ _ _ _ => le_eq (m113_5 (sj113_6 H0 hj113_l1) _ _ _ _ _ _) (e113_5 H0 _ _ _ _ _ _)
noncomputable def rj113_3 (j113_l1 : A4) : A5 := b113_3 rc112 (rj113_5 j113_l1)
theorem sj113_3 (H0 : Hp) {yj113_l1 : A4} (hj113_l1 : L4 yj113_l1 (j113_l1 H0)) : L5 (rj113_3 yj113_l1) (j113_3 H0) := fun _ _ _ _ _ _ => le_eq (m113_3 sc112 (sj113_5 H0 hj113_l1) _ _ _ _ _ _) (e113_3 H0 _ _ _ _ _ _)
noncomputable def rj113_l1 (n : Nat) : A4 := @Nat.rec (fun _ => A4) (fun _ _ _ _ _ => none) (fun _ j113_l1 => b113_l1 (rj113_2) (rj113_3 j113_l1)) n
theorem sj113_l1 (H0 : Hp) (n : Nat) : L4 (rj113_l1 n) (j113_l1 H0) := by
  induction n with
  | zero => exact fun _ _ _ _ _ => le_none _
  | succ n hj113_l1 => exact fun _ _ _ _ _ => le_eq (m113_l1 (sj113_2 H0) (sj113_3 H0 hj113_l1) _ _ _ _ _) (e113_l1 H0 _ _ _ _ _)
noncomputable def rj113_1 : A1 := b113_1 (rj113_l1 100000)
theorem sj113_1 (H0 : Hp) : L1 (rj113_1) (j113_1 H0) := fun _ _ => le_eq (m113_1 (sj113_l1 H0 100000) _ _) (e113_1 H0 _ _)
noncomputable def bc113 (j113_1 : A1) (p0 : AV) (H : Hp) : Res :=
  bnd (alenD (.slice 157) p0) fun t7_19 =>
  bnd (ibin .gtr t7_19 (.int .i64 24)) fun t8_20 =>
  cnd t8_20
    (some ((.int .i64 3), H))
    (j113_1 p0 H)
theorem ec113 (p0 : AV) (H : Hp) : c113 p0 H = bc113 (j113_1 H) p0 H := (callw_cxm (C := cfg) (fn := Tryz.f113) (c := bodyOf Tryz.f113) (n := 28) [3, 6, 9, 11, 12, 13] Tryz.func113 (by kernel_rfl) (by kernel_rfl) [p0] (by kernel_rfl) H).trans (by kernel_rfl)
theorem mc113 {j113_1 dj113_1 : A1} (hj113_1 : L1 j113_1 dj113_1) : L1 (bc113 j113_1) (bc113 dj113_1) := fun _ _ =>
  bR fun _ => bR fun _ => bK (le_refl _) (hj113_1 _ _)
noncomputable def rc113 : A1 := fun p0 H => bc113 (rj113_1) p0 H
theorem sc113 : L1 rc113 c113 := fun _ H => le_eq (mc113 (sj113_1 H) _ _) (ec113 _ _)

/-! locale_checkElements -/
noncomputable def c114 (p0 : AV) (H : Hp) : Res := callw cfg 114 [p0] H
noncomputable def j114_2 (H0 : Hp) (H : Hp) : Res := CXf 114 38 (sub (bodyOf Tryz.f114) [1, 1, 1, 1]) (retL cfg 38 114 Tryz.f114 H0) [] H
noncomputable def k114_1 (H0 : Hp) : KL := seqL (fun k al H => CXf 114 38 (sub (bodyOf Tryz.f114) [1, 1, 1, 1]) k (trimL (cfg.keep 114) (sub (bodyOf Tryz.f114) [1, 1, 1, 1]) al) H) (retL cfg 38 114 Tryz.f114 H0)
theorem k114_1_tame (H0 : Hp) : Tame 38 (k114_1 H0) := tame_seq (C := cfg) (kp := cfg.keep 114) (sub (bodyOf Tryz.f114) [1, 1, 1, 1]) (tame_ret 114 Tryz.f114 H0)
noncomputable def j114_4 (H0 : Hp) (x3 x10 x11 x12 : AV) (H : Hp) : Res := CXf 114 38 (sub (bodyOf Tryz.f114) [1, 1, 1, 0, 1, 0, 0, 1, 1, 1]) (seqL (fun k al H => LPf 114 38 (sub (bodyOf Tryz.f114) [1, 1, 1, 0, 1, 0, 0]) k (trimL (cfg.keep 114) (sub (bodyOf Tryz.f114) [1, 1, 1, 0, 1, 0, 0]) al) H) (blockL 0 (k114_1 H0))) [(3, x3), (10, x10), (11, x11), (12, x12)] H
noncomputable def k114_2 (H0 : Hp) : KL := seqL (fun k al H => CXf 114 38 (sub (bodyOf Tryz.f114) [1, 1, 1, 0, 1, 0, 0, 1, 1, 1]) k (trimL (cfg.keep 114) (sub (bodyOf Tryz.f114) [1, 1, 1, 0, 1, 0, 0, 1, 1, 1]) al) H) (seqL (fun k al H => LPf 114 38 (sub (bodyOf Tryz.f114) [1, 1, 1, 0, 1, 0, 0]) k (trimL (cfg.keep 114) (sub (bodyOf Tryz.f114) [1, 1, 1, 0, 1, 0, 0]) al) H) (blockL 0 (k114_1 H0)))
noncomputable def j114_6 (H0 : Hp) (x3 x5 x10 x11 x12 : AV) (H : Hp) : Res := CXf 114 38 (sub (bodyOf Tryz.f114) [1, 1, 1, 0, 1, 0, 0, 1, 1, 0, 0, 1, 1, 1]) (blockL 1 (k114_2 H0)) [(3, x3), (5, x5), (10, x10), (11, x11), (12, x12)] H
noncomputable def j114_5 (H0 : Hp) (x3 x5 x10 x11 x12 : AV) (H : Hp) : Res := CXf 114 38 (sub (bodyOf Tryz.f114) [1, 1, 1, 0, 1, 0, 0, 1, 1, 0, 0, 1, 1]) (blockL 1 (k114_2 H0)) [(3, x3), (5, x5), (10, x10), (11, x11), (12, x12)] H
noncomputable def j114_3 (H0 : Hp) (x3 x10 x11 x12 x13 : AV) (H : Hp) : Res := CXf 114 38 (sub (bodyOf Tryz.f114) [1, 1, 1, 0, 1, 0, 0, 1, 1]) (seqL (fun k al H => LPf 114 38 (sub (bodyOf Tryz.f114) [1, 1, 1, 0, 1, 0, 0]) k (trimL (cfg.keep 114) (sub (bodyOf Tryz.f114) [1, 1, 1, 0, 1, 0, 0]) al) H) (blockL 0 (k114_1 H0))) [(3, x3), (10, x10), (11, x11), (12, x12), (13, x13)] H
noncomputable def j114_l1 (H0 : Hp) (x3 x10 x11 x12 : AV) (H : Hp) : Res := LPf 114 38 (sub (bodyOf Tryz.f114) [1, 1, 1, 0, 1, 0, 0]) (blockL 0 (k114_1 H0)) [(3, x3), (10, x10), (11, x11), (12, x12)] H
noncomputable def j114_1 (H0 : Hp) (x0 : AV) (H : Hp) : Res := CXf 114 38 (sub (bodyOf Tryz.f114) [1, 1]) (retL cfg 38 114 Tryz.f114 H0) [(0, x0)] H
noncomputable def b114_2 (H : Hp) : Res :=
  some ((.int .i64 0), H)
theorem e114_2 (H0 : Hp) (H : Hp) : j114_2 H0 H = b114_2 H := (CXM_eq [3, 6, 9, 11, 12, 13] _ _ _ _).trans (by kernel_rfl)
theorem m114_2 : L0 (b114_2) (b114_2) := fun _ =>
  le_refl _
noncomputable def b114_4 (j114_l1 : A4) (x3 x10 x11 x12 : AV) (H : Hp) : Res :=
  bnd (ibin .add x12 (.int .i64 1)) fun t37_4 =>
  j114_l1 x3 x10 x11 t37_4 H
theorem e114_4 (H0 : Hp) (x3 x10 x11 x12 : AV) (H : Hp) : j114_4 H0 x3 x10 x11 x12 H = b114_4 (j114_l1 H0) x3 x10 x11 x12 H := (CXM_eq [3, 6, 9, 11, 12, 13] _ _ _ _).trans (by kernel_rfl)
theorem m114_4 {j114_l1 dj114_l1 : A4} (hj114_l1 : L4 j114_l1 dj114_l1) : L4 (b114_4 j114_l1) (b114_4 dj114_l1) := fun _ _ _ _ _ =>
  bR fun _ => hj114_l1 _ _ _ _ _
noncomputable def b114_6 (j114_4 : A4) (x3 x5 x10 x11 x12 : AV) (H : Hp) : Res :=
  bnd (afield 0 x5) fun t35_9 =>
  bnd (aload false 1 t35_9 H) fun t36_10 =>
  bnd (amapSet .string x3 t36_10 (.bool true) H) fun r_11 =>
  j114_4 x3 x10 x11 x12 r_11.2
theorem e114_6 (H0 : Hp) (x3 x5 x10 x11 x12 : AV) (H : Hp) : j114_6 H0 x3 x5 x10 x11 x12 H = b114_6 (j114_4 H0) x3 x5 x10 x11 x12 H := (CXM_eq [3, 6, 9, 11, 12, 13] _ _ _ _).trans (by kernel_rfl)
theorem m114_6 {j114_4 dj114_4 : A4} (hj114_4 : L4 j114_4 dj114_4) : L5 (b114_6 j114_4) (b114_6 dj114_4) := fun _ _ _ _ _ _ =>
  bR fun _ => bR fun _ => bR fun _ => hj114_4 _ _ _ _ _
noncomputable def b114_5 (j114_6 : A5) (x3 x5 x10 x11 x12 : AV) (H : Hp) : Res :=
  bnd (afield 0 x5) fun t31_12 =>
  bnd (aload false 1 t31_12 H) fun t32_13 =>
  bnd (alookup .string (.bool false) false x3 t32_13 H) fun t33_14 =>
  cnd t33_14
    (some ((.int .i64 6), H))
    (j114_6 x3 x5 x10 x11 x12 H)
theorem e114_5 (H0 : Hp) (x3 x5 x10 x11 x12 : AV) (H : Hp) : j114_5 H0 x3 x5 x10 x11 x12 H = b114_5 (j114_6 H0) x3 x5 x10 x11 x12 H := (CXM_eq [3, 6, 9, 11, 12, 13] _ _ _ _).trans (by kernel_rfl)
theorem m114_5 {j114_6 dj114_6 : A5} (hj114_6 : L5 j114_6 dj114_6) : L5 (b114_5 j114_6) (b114_5 dj114_6) := fun _ _ _ _ _ _ =>
  bR fun _ => bR fun _ => bR fun _ => bK (le_refl _) (hj114_6 _ _ _ _ _ _)
noncomputable def b114_3 (j114_5 : A5) (x3 x10 x11 x12 x13 : AV) (H : Hp) : Res :=
  bnd (aindexS 2 x10 x12) fun t14_5 =>
  bnd (aload true 2 t14_5 H) fun t15_6 =>
  bnd (some ((.ptr H.length 0), H ++ [.cells [(.str []), (.int .i64 0)]])) fun r5_7 =>
  bnd (astoreU 2 r5_7.1 t15_6 r5_7.2) fun r_8 =>
  bnd (afield 0 r5_7.1) fun t16_15 =>
  bnd (aload false 1 t16_15 r_8.2) fun t17_16 =>
  bnd (alenD .string t17_16) fun t18_17 =>
  bnd (ibin .neq t18_17 (.int .i64 2)) fun t19_18 =>
  bnd (gdv t19_18 false (.tuple []) (afield 1 r5_7.1)) fun t21_19 =>
  bnd (gdv t19_18 false (.tuple []) (aload false 1 t21_19 r_8.2)) fun t22_20 =>
  bnd (gdv t19_18 false (.tuple []) (ibin .lss t22_20 (.int .i64 0))) fun t23_21 =>
  bnd (apick t19_18 (.bool true) t23_21) fun t24_22 =>
  bnd (gdv t24_22 false (.tuple []) (afield 1 r5_7.1)) fun t26_23 =>
  bnd (gdv t24_22 false (.tuple []) (aload false 1 t26_23 r_8.2)) fun t27_24 =>
  bnd (gdv t24_22 false (.tuple []) (ibin .gtr t27_24 (.int .i64 65535))) fun t28_25 =>
  bnd (apick t24_22 (.bool true) t28_25) fun t29_26 =>
  cnd t29_26
    (some ((.int .i64 2), r_8.2))
    (j114_5 x3 r5_7.1 x10 x11 x12 r_8.2)
theorem e114_3 (H0 : Hp) (x3 x10 x11 x12 x13 : AV) (H : Hp) : j114_3 H0 x3 x10 x11 x12 x13 H = b114_3 (j114_5 H0) x3 x10 x11 x12 x13 H := (CXM_eq [3, 6, 9, 11, 12, 13] _ _ _ _).trans (by kernel_rfl)
theorem m114_3 {j114_5 dj114_5 : A5} (hj114_5 : L5 j114_5 dj114_5) : L5 (b114_3 j114_5) (b114_3 dj114_5) := fun _ _ _ _ _ _ =>
  bR fun _ => bR fun _ => bR fun _ => bR fun _ => bR fun _ => bR fun _ => bR fun _ => bR fun _ => bR fun _ => bR fun _ => bR fun _ => bR fun _ => bR fun _ => bR fun _ => bR fun _ => bR fun _ => bK (le_refl _) (hj114_5 _ _ _ _ _ _)
noncomputable def b114_l1 (j114_2 : A0) (j114_3 : A5) (x3 x10 x11 x12 : AV) (H : Hp) : Res :=
  bnd (ibin .lss x12 x11) fun t13_3 =>
  cnd t13_3
    (j114_3 x3 x10 x11 x12 t13_3 H)
    (j114_2 H)
theorem e114_l1 (H0 : Hp) (x3 x10 x11 x12 : AV) (H : Hp) : j114_l1 H0 x3 x10 x11 x12 H = b114_l1 (j114_2 H0) (j114_3 H0) x3 x10 x11 x12 H := (LPL_eqm (C := cfg) [3, 6, 9, 11, 12, 13] (tame_block 0 (k114_1_tame H0)) _ _).trans (by kernel_rfl)
theorem m114_l1 {j114_2 dj114_2 : A0} (hj114_2 : L0 j114_2 dj114_2) {j114_3 dj114_3 : A5} (hj114_3 : L5 j114_3 dj114_3) : L4 (b114_l1 j114_2 j114_3) (b114_l1 dj114_2 dj114_3) := fun _ _ _ _ _ =>
  bR fun _ => bK (hj114_3 _ _ _ _ _ _) (hj114_2 _)
noncomputable def b114_1 (j114_l1 : A4) (x0 : AV) (H : Hp) : Res :=
  bnd (some ((.map H.length), H ++ [.map [] 0])) fun r9_1 =>
  bnd (alenD (.slice 119) x0) fun t11_2 =>
  j114_l1 r9_1.1 x0 t11_2 (.int .i64 0) r9_1.2
theorem e114_1 (H0 : Hp) (x0 : AV) (H : Hp) : j114_1 H0 x0 H = b114_1 (j114_l1 H0) x0 H := (CXM_eq [3, 6, 9, 11, 12, 13] _ _ _ _).trans (by kernel_rfl)
theorem m114_1 {j114_l1 dj114_l1 : A4} (hj114_l1 : L4 j114_l1 dj114_l1) : L1 (b114_1 j114_l1) (b114_1 dj114_l1) := fun _ _ =>
  bR fun _ => bR fun _ => hj114_l1 _ _ _ _ _
noncomputable def rj114_2 : A0 := b114_2
theorem sj114_2 (H0 : Hp) : L0 (rj114_2) (j114_2 H0) := fun _ => le_eq (m114_2 _) (e114_2 H0 _)
noncomputable def rj114_4 (j114_l1 : A4) : A4 := b114_4 j114_l1
theorem sj114_4 (H0 : Hp) {yj114_l1 : A4} (hj114_l1 : L4 yj114_l1 (j114_l1 H0)) : L4 (rj114_4 yj114_l1) (j114_4 H0) := fun _ _ _ _ _ => le_eq (m114_4 hj114_l1 _ _ _ _ _) (e114_4 H0 _ _ _ _ _)
noncomputable def rj114_6 (j114_l1 : A4) : A5 := b114_6 (rj114_4 j114_l1)
theorem sj114_6 (H0 : Hp) {yj114_l1 : A4} (hj114_l1 : L4 yj114_l1 (j114_l1 H0)) : L5 (rj114_6 yj114_l1) (j114_6 H0) := fun _ _ _ _ _ _ => le_eq (m114_6 (sj114_4 H0 hj114_l1) _ _ _ _ _ _) (e114_6 H0 _ _ _ _ _ _)
noncomputable def rj114_5 (j114_l1 : A4) : A5 := b114_5 (rj114_6 j114_l1)
theorem sj114_5 (H0 : Hp) {yj114_l1 : A4} (hj114_l1 : L4 yj114_l1 (j114_l1 H0)) : L5 (rj114_5 yj114_l1) (j114_5 H0) := fun _ _ _ _ _ _ => le_eq (m114_5 (sj114_6 H0 hj114_l1) _ _ _ _ _ _) (e114_5 H0 _ _ _ _ _ _)
noncomputable def rj114_3 (j114_l1 : A4) : A5 := b114_3 (rj114_5 j114_l1)
theorem sj114_3 (H0 : Hp) {yj114_l1 : A4} (hj114_l1 : L4 yj114_l1 (j114_l1 H0)) : L5 (rj114_3 yj114_l1) (j114_3 H0) := fun _ _ _ _ _ _ => le_eq (m114_3 (sj114_5 H0 hj114_l1) _ _ _ _ _ _) (e114_3 H0 _ _ _ _ _ _)
noncomputable def rj114_l1 (n : Nat) : A4 := @Nat.rec (fun _ => A4) (fun _ _ _ _ _ => none) (fun _ j114_l1 => b114_l1 (rj114_2) (rj114_3 j114_l1)) n
theorem sj114_l1 (H0 : Hp) (n : Nat) : L4 (rj114_l1 n) (j114_l1 H0) := by
  induction n with
  | zero => exact fun _ _ _ _ _ => le_none _
  | succ n hj114_l1 => exact fun _ _ _ _ _ => le_eq (m114_l1 (sj114_2 H0) (sj114_3 H0 hj114_l1) _ _ _ _ _) (e114_l1 H0 _ _ _ _ _)
noncomputable def rj114_1 : A1 := b114_1 (rj114_l1 100000)
theorem sj114_1 (H0 : Hp) : L1 (rj114_1) (j114_1 H0) := fun _ _ => le_eq (m114_1 (sj114_l1 H0 100000) _ _) (e114_1 H0 _ _)
noncomputable def bc114 (j114_1 : A1) (p0 : AV) (H : Hp) : Res :=
  bnd (alenD (.slice 119) p0) fun t7_27 =>
  bnd (ibin .gtr t7_27 (.int .i64 64)) fun t8_28 =>
  cnd t8_28
    (some ((.int .i64 3), H))
    (j114_1 p0 H)
theorem ec114 (p0 : AV) (H : Hp) : c114 p0 H = bc114 (j114_1 H) p0 H := (callw_cxm (C := cfg) (fn := Tryz.f114) (c := bodyOf Tryz.f114) (n := 38) [3, 6, 9, 11, 12, 13] Tryz.func114 (by kernel_rfl) (by kernel_rfl) [p0] (by kernel_rfl) H).trans (by kernel_rfl)
theorem mc114 {j114_1 dj114_1 : A1} (hj114_1 : L1 j114_1 dj114_1) : L1 (bc114 j114_1) (bc114 dj114_1) := fun _ _ =>
  bR fun _ => bR fun _ => bK (le_refl _) (hj114_1 _ _)
noncomputable def rc114 : A1 := fun p0 H => bc114 (rj114_1) p0 H
theorem sc114 : L1 rc114 c114 := fun _ H => le_eq (mc114 (sj114_1 H) _ _) (ec114 _ _)

/-! locale_Check -/
noncomputable def c93 (p0 : AV) (H : Hp) : Res := callw cfg 93 [p0] H
noncomputable def j93_4 (H0 : Hp) (x1 : AV) (H : Hp) : Res := CXf 93 49 (sub (bodyOf Tryz.f93) [1, 1, 1, 1, 1]) (retL cfg 49 93 Tryz.f93 H0) [(1, x1)] H
noncomputable def j93_3 (H0 : Hp) (x1 : AV) (H : Hp) : Res := CXf 93 49 (sub (bodyOf Tryz.f93) [1, 1, 1, 1]) (retL cfg 49 93 Tryz.f93 H0) [(1, x1)] H
noncomputable def k93_1 (H0 : Hp) : KL := seqL (fun k al H => CXf 93 49 (sub (bodyOf Tryz.f93) [1, 1, 1, 1]) k (trimL (cfg.keep 93) (sub (bodyOf Tryz.f93) [1, 1, 1, 1]) al) H) (retL cfg 49 93 Tryz.f93 H0)
theorem k93_1_tame (H0 : Hp) : Tame 49 (k93_1 H0) := tame_seq (C := cfg) (kp := cfg.keep 93) (sub (bodyOf Tryz.f93) [1, 1, 1, 1]) (tame_ret 93 Tryz.f93 H0)
noncomputable def j93_6 (H0 : Hp) (x1 x27 x28 x29 : AV) (H : Hp) : Res := CXf 93 49 (sub (bodyOf Tryz.f93) [1, 1, 1, 0, 1, 0, 0, 1, 1, 1]) (seqL (fun k al H => LPf 93 49 (sub (bodyOf Tryz.f93) [1, 1, 1, 0, 1, 0, 0]) k (trimL (cfg.keep 93) (sub (bodyOf Tryz.f93) [1, 1, 1, 0, 1, 0, 0]) al) H) (blockL 0 (k93_1 H0))) [(1, x1), (27, x27), (28, x28), (29, x29)] H
noncomputable def j93_5 (H0 : Hp) (x1 x27 x28 x29 x30 : AV) (H : Hp) : Res := CXf 93 49 (sub (bodyOf Tryz.f93) [1, 1, 1, 0, 1, 0, 0, 1, 1]) (seqL (fun k al H => LPf 93 49 (sub (bodyOf Tryz.f93) [1, 1, 1, 0, 1, 0, 0]) k (trimL (cfg.keep 93) (sub (bodyOf Tryz.f93) [1, 1, 1, 0, 1, 0, 0]) al) H) (blockL 0 (k93_1 H0))) [(1, x1), (27, x27), (28, x28), (29, x29), (30, x30)] H
noncomputable def j93_l1 (H0 : Hp) (x1 x27 x28 x29 : AV) (H : Hp) : Res := LPf 93 49 (sub (bodyOf Tryz.f93) [1, 1, 1, 0, 1, 0, 0]) (blockL 0 (k93_1 H0)) [(1, x1), (27, x27), (28, x28), (29, x29)] H
noncomputable def j93_2 (H0 : Hp) (x1 : AV) (H : Hp) : Res := CXf 93 49 (sub (bodyOf Tryz.f93) [1, 1, 1]) (retL cfg 49 93 Tryz.f93 H0) [(1, x1)] H
noncomputable def j93_1 (H0 : Hp) (x1 : AV) (H : Hp) : Res := CXf 93 49 (sub (bodyOf Tryz.f93) [1, 1]) (retL cfg 49 93 Tryz.f93 H0) [(1, x1)] H
noncomputable def b93_4 (c114 : A1) (x1 : AV) (H : Hp) : Res :=
  bnd (afield 5 x1) fun t46_2 =>
  bnd (aload false 1 t46_2 H) fun t47_3 =>
  bnd (c114 t47_3 H) fun r48_4 =>
  some (r48_4.1, r48_4.2)
theorem e93_4 (H0 : Hp) (x1 : AV) (H : Hp) : j93_4 H0 x1 H = b93_4 c114 x1 H := (CXM_eq [3, 5, 7, 10, 11, 14] _ _ _ _).trans (by kernel_rfl)
theorem m93_4 {c114 dc114 : A1} (hc114 : L1 c114 dc114) : L1 (b93_4 c114) (b93_4 dc114) := fun _ _ =>
  bR fun _ => bR fun _ => bC (hc114 _ _) fun _ => le_refl _
noncomputable def b93_3 (c113 : A1) (j93_4 : A1) (x1 : AV) (H : Hp) : Res :=
  bnd (afield 4 x1) fun t40_5 =>
  bnd (aload false 1 t40_5 H) fun t41_6 =>
  bnd (c113 t41_6 H) fun r42_7 =>
  bnd (ibin .neq r42_7.1 (.int .i64 0)) fun t44_8 =>
  cnd t44_8
    (some (r42_7.1, r42_7.2))
    (j93_4 x1 r42_7.2)
theorem e93_3 (H0 : Hp) (x1 : AV) (H : Hp) : j93_3 H0 x1 H = b93_3 c113 (j93_4 H0) x1 H := (CXM_eq [3, 5, 7, 10, 11, 14] _ _ _ _).trans (by kernel_rfl)
theorem m93_3 {c113 dc113 : A1} (hc113 : L1 c113 dc113) {j93_4 dj93_4 : A1} (hj93_4 : L1 j93_4 dj93_4) : L1 (b93_3 c113 j93_4) (b93_3 dc113 dj93_4) := fun _ _ =>
  bR fun _ => bR fun _ => bC (hc113 _ _) fun _ => bR fun _ => bK (le_refl _) (hj93_4 _ _)
noncomputable def b93_6 (j93_l1 : A4) (x1 x27 x28 x29 : AV) (H : Hp) : Res :=
  bnd (ibin .add x29 (.int .i64 1)) fun t39_13 =>
  j93_l1 x1 x27 x28 t39_13 H
theorem e93_6 (H0 : Hp) (x1 x27 x28 x29 : AV) (H : Hp) : j93_6 H0 x1 x27 x28 x29 H = b93_6 (j93_l1 H0) x1 x27 x28 x29 H := (CXM_eq [3, 5, 7, 10, 11, 14] _ _ _ _).trans (by kernel_rfl)
theorem m93_6 {j93_l1 dj93_l1 : A4} (hj93_l1 : L4 j93_l1 dj93_l1) : L4 (b93_6 j93_l1) (b93_6 dj93_l1) := fun _ _ _ _ _ =>
  bR fun _ => hj93_l1 _ _ _ _ _
noncomputable def b93_5 (j93_6 : A4) (x1 x27 x28 x29 x30 : AV) (H : Hp) : Res :=
  bnd (aindexS 1 x27 x29) fun t31_14 =>
  bnd (aload false 1 t31_14 H) fun t32_15 =>
  bnd (ibin .lss t32_15 (.int .i64 0)) fun t34_16 =>
  bnd (gdv t34_16 false (.tuple []) (some t32_15)) fun t36_17 =>
  bnd (gdv t34_16 false (.tuple []) (ibin .gtr t36_17 (.int .i64 65535))) fun t37_18 =>
  bnd (apick t34_16 (.bool true) t37_18) fun t38_19 =>
  cnd t38_19
    (some ((.int .i64 2), H))
    (j93_6 x1 x27 x28 x29 H)
theorem e93_5 (H0 : Hp) (x1 x27 x28 x29 x30 : AV) (H : Hp) : j93_5 H0 x1 x27 x28 x29 x30 H = b93_5 (j93_6 H0) x1 x27 x28 x29 x30 H := (CXM_eq [3, 5, 7, 10, 11, 14] _ _ _ _).trans (by kernel_rfl)
theorem m93_5 {j93_6 dj93_6 : A4} (hj93_6 : L4 j93_6 dj93_6) : L5 (b93_5 j93_6) (b93_5 dj93_6) := fun _ _ _ _ _ _ =>
  bR fun _ => bR fun _ => bR fun _ => bR fun _ => bR fun _ => bR fun _ => bK (le_refl _) (hj93_6 _ _ _ _ _)
noncomputable def b93_l1 (j93_3 : A1) (j93_5 : A5) (x1 x27 x28 x29 : AV) (H : Hp) : Res :=
  bnd (ibin .lss x29 x28) fun t30_12 =>
  cnd t30_12
    (j93_5 x1 x27 x28 x29 t30_12 H)
    (j93_3 x1 H)
theorem e93_l1 (H0 : Hp) (x1 x27 x28 x29 : AV) (H : Hp) : j93_l1 H0 x1 x27 x28 x29 H = b93_l1 (j93_3 H0) (j93_5 H0) x1 x27 x28 x29 H := (LPL_eqm (C := cfg) [3, 5, 7, 10, 11, 14] (tame_block 0 (k93_1_tame H0)) _ _).trans (by kernel_rfl)
theorem m93_l1 {j93_3 dj93_3 : A1} (hj93_3 : L1 j93_3 dj93_3) {j93_5 dj93_5 : A5} (hj93_5 : L5 j93_5 dj93_5) : L4 (b93_l1 j93_3 j93_5) (b93_l1 dj93_3 dj93_5) := fun _ _ _ _ _ =>
  bR fun _ => bK (hj93_5 _ _ _ _ _ _) (hj93_3 _ _)
noncomputable def b93_2 (j93_l1 : A4) (x1 : AV) (H : Hp) : Res :=
  bnd (afield 1 x1) fun t26_9 =>
  bnd (aload false 1 t26_9 H) fun t27_10 =>
  bnd (alenD (.slice 3) t27_10) fun t28_11 =>
  j93_l1 x1 t27_10 t28_11 (.int .i64 0) H
theorem e93_2 (H0 : Hp) (x1 : AV) (H : Hp) : j93_2 H0 x1 H = b93_2 (j93_l1 H0) x1 H := (CXM_eq [3, 5, 7, 10, 11, 14] _ _ _ _).trans (by kernel_rfl)
theorem m93_2 {j93_l1 dj93_l1 : A4} (hj93_l1 : L4 j93_l1 dj93_l1) : L1 (b93_2 j93_l1) (b93_2 dj93_l1) := fun _ _ =>
  bR fun _ => bR fun _ => bR fun _ => hj93_l1 _ _ _ _ _
noncomputable def b93_1 (j93_2 : A1) (x1 : AV) (H : Hp) : Res :=
  bnd (afield 1 x1) fun t10_20 =>
  bnd (aload false 1 t10_20 H) fun t11_21 =>
  bnd (alenD (.slice 3) t11_21) fun t12_22 =>
  bnd (ibin .neq t12_22 (.int .i64 256)) fun t13_23 =>
  bnd (gdv t13_23 false (.tuple []) (afield 2 x1)) fun t15_24 =>
  bnd (gdv t13_23 false (.tuple []) (aload false 1 t15_24 H)) fun t16_25 =>
  bnd (gdv t13_23 false (.tuple []) (alenD .string t16_25)) fun t17_26 =>
  bnd (gdv t13_23 false (.tuple []) (ibin .neq t17_26 (.int .i64 256))) fun t18_27 =>
  bnd (apick t13_23 (.bool true) t18_27) fun t19_28 =>
  bnd (gdv t19_28 false (.tuple []) (afield 3 x1)) fun t21_29 =>
  bnd (gdv t19_28 false (.tuple []) (aload false 1 t21_29 H)) fun t22_30 =>
  bnd (gdv t19_28 false (.tuple []) (alenD .string t22_30)) fun t23_31 =>
  bnd (gdv t19_28 false (.tuple []) (ibin .neq t23_31 (.int .i64 256))) fun t24_32 =>
  bnd (apick t19_28 (.bool true) t24_32) fun t25_33 =>
  cnd t25_33
    (some ((.int .i64 2), H))
    (j93_2 x1 H)
theorem e93_1 (H0 : Hp) (x1 : AV) (H : Hp) : j93_1 H0 x1 H = b93_1 (j93_2 H0) x1 H := (CXM_eq [3, 5, 7, 10, 11, 14] _ _ _ _).trans (by kernel_rfl)
theorem m93_1 {j93_2 dj93_2 : A1} (hj93_2 : L1 j93_2 dj93_2) : L1 (b93_1 j93_2) (b93_1 dj93_2) := fun _ _ =>
  bR fun _ => bR fun _ => bR fun _ => bR fun _ => bR fun _ => bR fun _ => bR fun _ => bR fun _ => bR fun _ => bR fun _ => bR fun _ => bR fun _ => bR fun _ => bR fun _ => bK (le_refl _) (hj93_2 _ _)
noncomputable def rj93_4 : A1 := b93_4 rc114
theorem sj93_4 (H0 : Hp) : L1 (rj93_4) (j93_4 H0) := fun _ _ => le_eq (m93_4 sc114 _ _) (e93_4 H0 _ _)
noncomputable def rj93_3 : A1 := b93_3 rc113 (rj93_4)
theorem sj93_3 (H0 : Hp) : L1 (rj93_3) (j93_3 H0) := fun _ _ => le_eq (m93_3 sc113 (sj93_4 H0) _ _) (e93_3 H0 _ _)
noncomputable def rj93_6 (j93_l1 : A4) : A4 := b93_6 j93_l1
theorem sj93_6 (H0 : Hp) {yj93_l1 : A4} (hj93_l1 : L4 yj93_l1 (j93_l1 H0)) : L4 (rj93_6 yj93_l1) (j93_6 H0) := fun _ _ _ _ _ => le_eq (m93_6 hj93_l1 _ _ _ _ _) (e93_6 H0 _ _ _ _ _)
noncomputable def rj93_5 (j93_l1 : A4) : A5 := b93_5 (rj93_6 j93_l1)
theorem sj93_5 (H0 : Hp) {yj93_l1 : A4} (hj93_l1 : L4 yj93_l1 (j93_l1 H0)) : L5 (rj93_5 yj93_l1) (j93_5 H0) := fun _ _ _ _ _ _ => le_eq (m93_5 (sj93_6 H0 hj93_l1) _ _ _ _ _ _) (e93_5 H0 _ _ _ _ _ _)
noncomputable def rj93_l1 (n : Nat) : A4 := @Nat.rec (fun _ => A4) (fun _ _ _ _ _ => none) (fun _ j93_l1 => b93_l1 (rj93_3) (rj93_5 j93_l1)) n
theorem sj93_l1 (H0 : Hp) (n : Nat) : L4 (rj93_l1 n) (j93_l1 H0) := by
  induction n with
  | zero => exact fun _ _ _ _ _ => le_none _
  | succ n hj93_l1 => exact fun _ _ _ _ _ => le_eq (m93_l1 (sj93_3 H0) (sj93_5 H0 hj93_l1) _ _ _ _ _) (e93_l1 H0 _ _ _ _ _)
noncomputable def rj93_2 : A1 := b93_2 (rj93_l1 100000)
theorem sj93_2 (H0 : Hp) : L1 (rj93_2) (j93_2 H0) := fun _ _ => le_eq (m93_2 (sj93_l1 H0 100000) _ _) (e93_2 H0 _ _)
noncomputable def rj93_1 : A1 := b93_1 (rj93_2)
theorem sj93_1 (H0 : Hp) : L1 (rj93_1) (j93_1 H0) := fun _ _ => le_eq (m93_1 (sj93_2 H0) _ _) (e93_1 H0 _ _)
noncomputable def bc93 (c112 : A1) (j93_1 : A1) (p0 : AV) (H : Hp) : Res :=
  bnd (abox p0 H) fun r1_1 =>
  bnd (afield 0 r1_1.1) fun t6_34 =>
  bnd (aload false 1 t6_34 r1_1.2) fun t7_35 =>
  bnd (c112 t7_35 r1_1.2) fun r8_36 =>
  bnd (aun .not r8_36.1) fun t9_37 =>
  cnd t9_37
    (some ((.int .i64 4), r8_36.2))
    (j93_1 r1_1.1 r8_36.2)
theorem ec93 (p0 : AV) (H : Hp) : c93 p0 H = bc93 c112 (j93_1 H) p0 H := (callw_cxm (C := cfg) (fn := Tryz.f93) (c := bodyOf Tryz.f93) (n := 49) [3, 5, 7, 10, 11, 14] Tryz.func93 (by kernel_rfl) (by kernel_rfl) [p0] (by kernel_rfl) H).trans (by kernel_rfl)
theorem mc93 {c112 dc112 : A1} (hc112 : L1 c112 dc112) {j93_1 dj93_1 : A1} (hj93_1 : L1 j93_1 dj93_1) : L1 (bc93 c112 j93_1) (bc93 dc112 dj93_1) := fun _ _ =>
  bR fun _ => bR fun _ => bR fun _ => bC (hc112 _ _) fun _ => bR fun _ => bK (le_refl _) (hj93_1 _ _)
noncomputable def rc93 : A1 := fun p0 H => bc93 rc112 (rj93_1) p0 H
theorem sc93 : L1 rc93 c93 := fun _ H => le_eq (mc93 sc112 (sj93_1 H) _ _) (ec93 _ _)

/-! locale_shifted -/
noncomputable def c115 (p0 p1 p2 : AV) (H : Hp) : Res := callw cfg 115 [p0, p1, p2] H
noncomputable def j115_1 (H0 : Hp) (x7 : AV) (H : Hp) : Res := CXf 115 40 (sub (bodyOf Tryz.f115) [1, 1, 1]) (retL cfg 40 115 Tryz.f115 H0) [(7, x7)] H
noncomputable def k115_1 (H0 : Hp) : KL := seqL (fun k al H => CXf 115 40 (sub (bodyOf Tryz.f115) [1, 1, 1]) k (trimL (cfg.keep 115) (sub (bodyOf Tryz.f115) [1, 1, 1]) al) H) (retL cfg 40 115 Tryz.f115 H0)
theorem k115_1_tame (H0 : Hp) : Tame 40 (k115_1 H0) := tame_seq (C := cfg) (kp := cfg.keep 115) (sub (bodyOf Tryz.f115) [1, 1, 1]) (tame_ret 115 Tryz.f115 H0)
noncomputable def j115_3 (H0 : Hp) (x0 x1 x2 x7 x11 x12 : AV) (H : Hp) : Res := CXf 115 40 (sub (bodyOf Tryz.f115) [1, 1, 0, 1, 0, 0, 1, 1, 1]) (seqL (fun k al H => LPf 115 40 (sub (bodyOf Tryz.f115) [1, 1, 0, 1, 0, 0]) k (trimL (cfg.keep 115) (sub (bodyOf Tryz.f115) [1, 1, 0, 1, 0, 0]) al) H) (blockL 0 (k115_1 H0))) [(0, x0), (1, x1), (2, x2), (7, x7), (11, x11), (12, x12)] H
noncomputable def j115_2 (H0 : Hp) (x0 x1 x2 x7 x11 x12 x13 : AV) (H : Hp) : Res := CXf 115 40 (sub (bodyOf Tryz.f115) [1, 1, 0, 1, 0, 0, 1, 1]) (seqL (fun k al H => LPf 115 40 (sub (bodyOf Tryz.f115) [1, 1, 0, 1, 0, 0]) k (trimL (cfg.keep 115) (sub (bodyOf Tryz.f115) [1, 1, 0, 1, 0, 0]) al) H) (blockL 0 (k115_1 H0))) [(0, x0), (1, x1), (2, x2), (7, x7), (11, x11), (12, x12), (13, x13)] H
noncomputable def j115_l1 (H0 : Hp) (x0 x1 x2 x7 x11 x12 : AV) (H : Hp) : Res := LPf 115 40 (sub (bodyOf Tryz.f115) [1, 1, 0, 1, 0, 0]) (blockL 0 (k115_1 H0)) [(0, x0), (1, x1), (2, x2), (7, x7), (11, x11), (12, x12)] H
noncomputable def b115_1 (x7 : AV) (H : Hp) : Res :=
  bnd (cvOfBytes x7) fun t39_2 =>
  some (t39_2, H)
theorem e115_1 (H0 : Hp) (x7 : AV) (H : Hp) : j115_1 H0 x7 H = b115_1 x7 H := (CXM_eq [4, 8, 9] _ _ _ _).trans (by kernel_rfl)
theorem m115_1 : L1 (b115_1) (b115_1) := fun _ _ =>
  bR fun _ => le_refl _
noncomputable def b115_3 (j115_l1 : A6) (x0 x1 x2 x7 x11 x12 : AV) (H : Hp) : Res :=
  bnd (ibin .add x12 (.int .i64 1)) fun t37_5 =>
  j115_l1 x0 x1 x2 x7 x11 t37_5 H
theorem e115_3 (H0 : Hp) (x0 x1 x2 x7 x11 x12 : AV) (H : Hp) : j115_3 H0 x0 x1 x2 x7 x11 x12 H = b115_3 (j115_l1 H0) x0 x1 x2 x7 x11 x12 H := (CXM_eq [4, 8, 9] _ _ _ _).trans (by kernel_rfl)
theorem m115_3 {j115_l1 dj115_l1 : A6} (hj115_l1 : L6 j115_l1 dj115_l1) : L6 (b115_3 j115_l1) (b115_3 dj115_l1) := fun _ _ _ _ _ _ _ =>
  bR fun _ => hj115_l1 _ _ _ _ _ _ _
noncomputable def b115_2 (j115_3 : A6) (x0 x1 x2 x7 x11 x12 x13 : AV) (H : Hp) : Res :=
  bnd (cvInt .u8 x12) fun t18_6 =>
  bnd (aindexS 1 x7 x12) fun t19_7 =>
  bnd (astoreU 1 t19_7 t18_6 H) fun r_8 =>
  bnd (cvInt .u8 x12) fun t21_9 =>
  bnd (ibin .geq t21_9 x0) fun t23_10 =>
  bnd (gdv t23_10 true (.tuple []) (some x12)) fun t25_11 =>
  bnd (gdv t23_10 true (.tuple []) (cvInt .u8 t25_11)) fun t26_12 =>
  bnd (gdv t23_10 true (.tuple []) (some x1)) fun t27_13 =>
  bnd (gdv t23_10 true (.tuple []) (ibin .leq t26_12 t27_13)) fun t28_14 =>
  bnd (apick t23_10 t28_14 (.bool false)) fun t29_15 =>
  cnd t29_15
    (bnd (ibin .add x12 x2) fun t34_16 =>
    bnd (cvInt .u8 t34_16) fun t35_17 =>
    bnd (aindexS 1 x7 x12) fun t36_18 =>
    bnd (astoreU 1 t36_18 t35_17 r_8.2) fun r_19 =>
    j115_3 x0 x1 x2 x7 x11 x12 r_19.2)
    (j115_3 x0 x1 x2 x7 x11 x12 r_8.2)
theorem e115_2 (H0 : Hp) (x0 x1 x2 x7 x11 x12 x13 : AV) (H : Hp) : j115_2 H0 x0 x1 x2 x7 x11 x12 x13 H = b115_2 (j115_3 H0) x0 x1 x2 x7 x11 x12 x13 H := (CXM_eq [4, 8, 9] _ _ _ _).trans (by kernel_rfl)
theorem m115_2 {j115_3 dj115_3 : A6} (hj115_3 : L6 j115_3 dj115_3) : L7 (b115_2 j115_3) (b115_2 dj115_3) := fun _ _ _ _ _ _ _ _ =>
  bR fun _ => bR fun _ => bR fun _ => bR fun _ => bR fun _ => bR fun _ => bR fun _ => bR fun _ => bR fun _ => bR fun _ => bK (bR fun _ => bR fun _ => bR fun _ => bR fun _ => hj115_3 _ _ _ _ _ _ _) (hj115_3 _ _ _ _ _ _ _)
noncomputable def b115_l1 (j115_1 : A1) (j115_2 : A7) (x0 x1 x2 x7 x11 x12 : AV) (H : Hp) : Res :=
  bnd (ibin .lss x12 x11) fun t13_4 =>
  cnd t13_4
    (j115_2 x0 x1 x2 x7 x11 x12 t13_4 H)
    (j115_1 x7 H)
theorem e115_l1 (H0 : Hp) (x0 x1 x2 x7 x11 x12 : AV) (H : Hp) : j115_l1 H0 x0 x1 x2 x7 x11 x12 H = b115_l1 (j115_1 H0) (j115_2 H0) x0 x1 x2 x7 x11 x12 H := (LPL_eqm (C := cfg) [4, 8, 9] (tame_block 0 (k115_1_tame H0)) _ _).trans (by kernel_rfl)
theorem m115_l1 {j115_1 dj115_1 : A1} (hj115_1 : L1 j115_1 dj115_1) {j115_2 dj115_2 : A7} (hj115_2 : L7 j115_2 dj115_2) : L6 (b115_l1 j115_1 j115_2) (b115_l1 dj115_1 dj115_2) := fun _ _ _ _ _ _ _ =>
  bR fun _ => bK (hj115_2 _ _ _ _ _ _ _ _) (hj115_1 _ _)
noncomputable def rj115_1 : A1 := b115_1
theorem sj115_1 (H0 : Hp) : L1 (rj115_1) (j115_1 H0) := fun _ _ => le_eq (m115_1 _ _) (e115_1 H0 _ _)
noncomputable def rj115_3 (j115_l1 : A6) : A6 := b115_3 j115_l1
theorem sj115_3 (H0 : Hp) {yj115_l1 : A6} (hj115_l1 : L6 yj115_l1 (j115_l1 H0)) : L6 (rj115_3 yj115_l1) (j115_3 H0) := fun _ _ _ _ _ _ _ => le_eq (m115_3 hj115_l1 _ _ _ _ _ _ _) (e115_3 H0 _ _ _ _ _ _ _)
noncomputable def rj115_2 (j115_l1 : A6) : A7 := b115_2 (rj115_3 j115_l1)
theorem sj115_2 (H0 : Hp) {yj115_l1 : A6} (hj115_l1 : L6 yj115_l1 (j115_l1 H0)) : L7 (rj115_2 yj115_l1) (j115_2 H0) := fun _ _ _ _ _ _ _ _ => le_eq (m115_2 (sj115_3 H0 hj115_l1) _ _ _ _ _ _ _ _) (e115_2 H0 _ _ _ _ _ _ _ _)
noncomputable def rj115_l1 (n : Nat) : A6 := @Nat.rec (fun _ => A6) (fun _ _ _ _ _ _ _ => none) (fun _ j115_l1 => b115_l1 (rj115_1) (rj115_2 j115_l1)) n
theorem sj115_l1 (H0 : Hp) (n : Nat) : L6 (rj115_l1 n) (j115_l1 H0) := by
  induction n with
  | zero => exact fun _ _ _ _ _ _ _ => le_none _
  | succ n hj115_l1 => exact fun _ _ _ _ _ _ _ => le_eq (m115_l1 (sj115_1 H0) (sj115_2 H0 hj115_l1) _ _ _ _ _ _ _) (e115_l1 H0 _ _ _ _ _ _ _)
noncomputable def bc115 (j115_l1 : A6) (p0 p1 p2 : AV) (H : Hp) : Res :=
  bnd (amake 1 1 false (.int .u8 0) (.int .i64 256) (.int .i64 256) H) fun r9_1 =>
  bnd (alenD (.slice 5) r9_1.1) fun t11_3 =>
  j115_l1 p0 p1 p2 r9_1.1 t11_3 (.int .i64 0) r9_1.2
theorem ec115 (p0 p1 p2 : AV) (H : Hp) : c115 p0 p1 p2 H = bc115 (j115_l1 H) p0 p1 p2 H := (callw_cxm (C := cfg) (fn := Tryz.f115) (c := bodyOf Tryz.f115) (n := 40) [4, 8, 9] Tryz.func115 (by kernel_rfl) (by kernel_rfl) [p0, p1, p2] (by kernel_rfl) H).trans (by kernel_rfl)
theorem mc115 {j115_l1 dj115_l1 : A6} (hj115_l1 : L6 j115_l1 dj115_l1) : L3 (bc115 j115_l1) (bc115 dj115_l1) := fun _ _ _ _ =>
  bR fun _ => bR fun _ => hj115_l1 _ _ _ _ _ _ _
noncomputable def rc115 : A3 := fun p0 p1 p2 H => bc115 (rj115_l1 100000) p0 p1 p2 H
theorem sc115 : L3 rc115 c115 := fun _ _ _ H => le_eq (mc115 (sj115_l1 H 100000) _ _ _ _) (ec115 _ _ _ _)

/-! locale_Default -/
noncomputable def c94 (H : Hp) : Res := callw cfg 94 [] H
noncomputable def j94_1 (H0 : Hp) (x0 x1 : AV) (H : Hp) : Res := CXf 94 18 (sub (bodyOf Tryz.f94) [1, 1, 1]) (retL cfg 18 94 Tryz.f94 H0) [(0, x0), (1, x1)] H
noncomputable def k94_1 (H0 : Hp) : KL := seqL (fun k al H => CXf 94 18 (sub (bodyOf Tryz.f94) [1, 1, 1]) k (trimL (cfg.keep 94) (sub (bodyOf Tryz.f94) [1, 1, 1]) al) H) (retL cfg 18 94 Tryz.f94 H0)
theorem k94_1_tame (H0 : Hp) : Tame 18 (k94_1 H0) := tame_seq (C := cfg) (kp := cfg.keep 94) (sub (bodyOf Tryz.f94) [1, 1, 1]) (tame_ret 94 Tryz.f94 H0)
noncomputable def j94_3 (H0 : Hp) (x0 x1 x5 x6 : AV) (H : Hp) : Res := CXf 94 18 (sub (bodyOf Tryz.f94) [1, 1, 0, 1, 0, 0, 1, 1, 1]) (seqL (fun k al H => LPf 94 18 (sub (bodyOf Tryz.f94) [1, 1, 0, 1, 0, 0]) k (trimL (cfg.keep 94) (sub (bodyOf Tryz.f94) [1, 1, 0, 1, 0, 0]) al) H) (blockL 0 (k94_1 H0))) [(0, x0), (1, x1), (5, x5), (6, x6)] H
noncomputable def j94_2 (H0 : Hp) (x0 x1 x5 x6 x7 : AV) (H : Hp) : Res := CXf 94 18 (sub (bodyOf Tryz.f94) [1, 1, 0, 1, 0, 0, 1, 1]) (seqL (fun k al H => LPf 94 18 (sub (bodyOf Tryz.f94) [1, 1, 0, 1, 0, 0]) k (trimL (cfg.keep 94) (sub (bodyOf Tryz.f94) [1, 1, 0, 1, 0, 0]) al) H) (blockL 0 (k94_1 H0))) [(0, x0), (1, x1), (5, x5), (6, x6), (7, x7)] H
noncomputable def j94_l1 (H0 : Hp) (x0 x1 x5 x6 : AV) (H : Hp) : Res := LPf 94 18 (sub (bodyOf Tryz.f94) [1, 1, 0, 1, 0, 0]) (blockL 0 (k94_1 H0)) [(0, x0), (1, x1), (5, x5), (6, x6)] H
noncomputable def b94_1 (c115 : A3) (x0 x1 : AV) (H : Hp) : Res :=
  bnd (c115 (.int .u8 65) (.int .u8 90) (.int .i64 32) H) fun r15_3 =>
  bnd (c115 (.int .u8 97) (.int .u8 122) (.int .i64 (-32)) r15_3.2) fun r16_4 =>
  bnd ((afill [(0, 1, (.str [112, 111, 115, 105, 120])), (1, 1, x1), (2, 1, r15_3.1), (3, 1, r16_4.1)] [(.str []), .nils, (.str []), (.str []), .nils, .nils]).map .agg) fun t17_5 =>
  bnd (astoreU 6 x0 t17_5 r16_4.2) fun r_6 =>
  bnd (aload true 6 x0 r_6.2) fun v0_7 =>
  some (v0_7, r_6.2)
theorem e94_1 (H0 : Hp) (x0 x1 : AV) (H : Hp) : j94_1 H0 x0 x1 H = b94_1 c115 x0 x1 H := (CXM_eq [4, 6, 7] _ _ _ _).trans (by kernel_rfl)
theorem m94_1 {c115 dc115 : A3} (hc115 : L3 c115 dc115) : L2 (b94_1 c115) (b94_1 dc115) := fun _ _ _ =>
  bC (hc115 _ _ _ _) fun _ => bC (hc115 _ _ _ _) fun _ => bR fun _ => bR fun _ => bR fun _ => le_refl _
noncomputable def b94_3 (j94_l1 : A4) (x0 x1 x5 x6 : AV) (H : Hp) : Res :=
  bnd (ibin .add x6 (.int .i64 1)) fun t13_10 =>
  j94_l1 x0 x1 x5 t13_10 H
theorem e94_3 (H0 : Hp) (x0 x1 x5 x6 : AV) (H : Hp) : j94_3 H0 x0 x1 x5 x6 H = b94_3 (j94_l1 H0) x0 x1 x5 x6 H := (CXM_eq [4, 6, 7] _ _ _ _).trans (by kernel_rfl)
theorem m94_3 {j94_l1 dj94_l1 : A4} (hj94_l1 : L4 j94_l1 dj94_l1) : L4 (b94_3 j94_l1) (b94_3 dj94_l1) := fun _ _ _ _ _ =>
  bR fun _ => hj94_l1 _ _ _ _ _
noncomputable def b94_2 (j94_3 : A4) (x0 x1 x5 x6 x7 : AV) (H : Hp) : Res :=
  bnd (aindexS 1 x1 x6) fun t12_11 =>
  bnd (astoreU 1 t12_11 x6 H) fun r_12 =>
  j94_3 x0 x1 x5 x6 r_12.2
theorem e94_2 (H0 : Hp) (x0 x1 x5 x6 x7 : AV) (H : Hp) : j94_2 H0 x0 x1 x5 x6 x7 H = b94_2 (j94_3 H0) x0 x1 x5 x6 x7 H := (CXM_eq [4, 6, 7] _ _ _ _).trans (by kernel_rfl)
theorem m94_2 {j94_3 dj94_3 : A4} (hj94_3 : L4 j94_3 dj94_3) : L5 (b94_2 j94_3) (b94_2 dj94_3) := fun _ _ _ _ _ _ =>
  bR fun _ => bR fun _ => hj94_3 _ _ _ _ _
noncomputable def b94_l1 (j94_1 : A2) (j94_2 : A5) (x0 x1 x5 x6 : AV) (H : Hp) : Res :=
  bnd (ibin .lss x6 x5) fun t7_9 =>
  cnd t7_9
    (j94_2 x0 x1 x5 x6 t7_9 H)
    (j94_1 x0 x1 H)
theorem e94_l1 (H0 : Hp) (x0 x1 x5 x6 : AV) (H : Hp) : j94_l1 H0 x0 x1 x5 x6 H = b94_l1 (j94_1 H0) (j94_2 H0) x0 x1 x5 x6 H := (LPL_eqm (C := cfg) [4, 6, 7] (tame_block 0 (k94_1_tame H0)) _ _).trans (by kernel_rfl)
theorem m94_l1 {j94_1 dj94_1 : A2} (hj94_1 : L2 j94_1 dj94_1) {j94_2 dj94_2 : A5} (hj94_2 : L5 j94_2 dj94_2) : L4 (b94_l1 j94_1 j94_2) (b94_l1 dj94_1 dj94_2) := fun _ _ _ _ _ =>
  bR fun _ => bK (hj94_2 _ _ _ _ _ _) (hj94_1 _ _ _)
noncomputable def rj94_1 : A2 := b94_1 rc115
theorem sj94_1 (H0 : Hp) : L2 (rj94_1) (j94_1 H0) := fun _ _ _ => le_eq (m94_1 sc115 _ _ _) (e94_1 H0 _ _ _)
noncomputable def rj94_3 (j94_l1 : A4) : A4 := b94_3 j94_l1
theorem sj94_3 (H0 : Hp) {yj94_l1 : A4} (hj94_l1 : L4 yj94_l1 (j94_l1 H0)) : L4 (rj94_3 yj94_l1) (j94_3 H0) := fun _ _ _ _ _ => le_eq (m94_3 hj94_l1 _ _ _ _ _) (e94_3 H0 _ _ _ _ _)
noncomputable def rj94_2 (j94_l1 : A4) : A5 := b94_2 (rj94_3 j94_l1)
theorem sj94_2 (H0 : Hp) {yj94_l1 : A4} (hj94_l1 : L4 yj94_l1 (j94_l1 H0)) : L5 (rj94_2 yj94_l1) (j94_2 H0) := fun _ _ _ _ _ _ => le_eq (m94_2 (sj94_3 H0 hj94_l1) _ _ _ _ _ _) (e94_2 H0 _ _ _ _ _ _)
noncomputable def rj94_l1 (n : Nat) : A4 := @Nat.rec (fun _ => A4) (fun _ _ _ _ _ => none) (fun _ j94_l1 => b94_l1 (rj94_1) (rj94_2 j94_l1)) n
theorem sj94_l1 (H0 : Hp) (n : Nat) : L4 (rj94_l1 n) (j94_l1 H0) := by
  induction n with
  | zero => exact fun _ _ _ _ _ => le_none _
  | succ n hj94_l1 => exact fun _ _ _ _ _ => le_eq (m94_l1 (sj94_1 H0) (sj94_2 H0 hj94_l1) _ _ _ _ _) (e94_l1 H0 _ _ _ _ _)
noncomputable def bc94 (j94_l1 : A4) (H : Hp) : Res :=
  bnd (some ((.ptr H.length 0), H ++ [.cells [(.str []), .nils, (.str []), (.str []), .nils, .nils]])) fun r0_1 =>
  bnd (amake 1 8 false (.int .i64 0) (.int .i64 256) (.int .i64 256) r0_1.2) fun r3_2 =>
  bnd (alenD (.slice 3) r3_2.1) fun t5_8 =>
  j94_l1 r0_1.1 r3_2.1 t5_8 (.int .i64 0) r3_2.2
theorem ec94 (H : Hp) : c94 H = bc94 (j94_l1 H) H := (callw_cxm (C := cfg) (fn := Tryz.f94) (c := bodyOf Tryz.f94) (n := 18) [4, 6, 7] Tryz.func94 (by kernel_rfl) (by kernel_rfl) [] (by kernel_rfl) H).trans (by kernel_rfl)
theorem mc94 {j94_l1 dj94_l1 : A4} (hj94_l1 : L4 j94_l1 dj94_l1) : L0 (bc94 j94_l1) (bc94 dj94_l1) := fun _ =>
  bR fun _ => bR fun _ => bR fun _ => hj94_l1 _ _ _ _ _
noncomputable def rc94 : A0 := fun H => bc94 (rj94_l1 100000) H
theorem sc94 : L0 rc94 c94 := fun H => le_eq (mc94 (sj94_l1 H 100000) _) (ec94 _)

/-! locale_valid -/
noncomputable def c65 (p0 : AV) (H : Hp) : Res := callw cfg 65 [p0] H
noncomputable def j65_1 (H0 : Hp) (x1 x2 : AV) (H : Hp) : Res := CXf 65 16 (sub (bodyOf Tryz.f65) [1, 1]) (retL cfg 16 65 Tryz.f65 H0) [(1, x1), (2, x2)] H
noncomputable def b65_1 (x1 x2 : AV) (H : Hp) : Res :=
  bnd (amake 1 8 false (.int .i64 0) (.int .i64 256) (.int .i64 256) H) fun r8_3 =>
  bnd (afield 1 x1) fun t10_4 =>
  bnd (aload false 1 t10_4 r8_3.2) fun t11_5 =>
  bnd (acopy 1 r8_3.1 t11_5 r8_3.2) fun r12_6 =>
  bnd (afield 1 x1) fun t14_7 =>
  bnd (astoreU 1 t14_7 r8_3.1 r12_6.2) fun r_8 =>
  bnd (aload true 6 x1 r_8.2) fun t15_9 =>
  bnd (astoreU 6 x2 t15_9 r_8.2) fun r_10 =>
  bnd (aload true 6 x2 r_10.2) fun v2_11 =>
  some (v2_11, r_10.2)
theorem e65_1 (H0 : Hp) (x1 x2 : AV) (H : Hp) : j65_1 H0 x1 x2 H = b65_1 x1 x2 H := (CXM_eq [3] _ _ _ _).trans (by kernel_rfl)
theorem m65_1 : L2 (b65_1) (b65_1) := fun _ _ _ =>
  bR fun _ => bR fun _ => bR fun _ => bR fun _ => bR fun _ => bR fun _ => bR fun _ => bR fun _ => bR fun _ => le_refl _
noncomputable def rj65_1 : A2 := b65_1
theorem sj65_1 (H0 : Hp) : L2 (rj65_1) (j65_1 H0) := fun _ _ _ => le_eq (m65_1 _ _ _) (e65_1 H0 _ _ _)
noncomputable def bc65 (c93 : A1) (c94 : A0) (j65_1 : A2) (p0 : AV) (H : Hp) : Res :=
  bnd (abox p0 H) fun r1_1 =>
  bnd (some ((.ptr r1_1.2.length 0), r1_1.2 ++ [.cells [(.str []), .nils, (.str []), (.str []), .nils, .nils]])) fun r2_2 =>
  bnd (aload true 6 r1_1.1 r2_2.2) fun t4_12 =>
  bnd (c93 t4_12 r2_2.2) fun r5_13 =>
  bnd (ibin .neq r5_13.1 (.int .i64 0)) fun t6_14 =>
  cnd t6_14
    (bnd (c94 r5_13.2) fun r7_15 =>
    bnd (astoreU 6 r2_2.1 r7_15.1 r7_15.2) fun r_16 =>
    bnd (aload true 6 r2_2.1 r_16.2) fun v2_17 =>
    some (v2_17, r_16.2))
    (j65_1 r1_1.1 r2_2.1 r5_13.2)
theorem ec65 (p0 : AV) (H : Hp) : c65 p0 H = bc65 c93 c94 (j65_1 H) p0 H := (callw_cxm (C := cfg) (fn := Tryz.f65) (c := bodyOf Tryz.f65) (n := 16) [3] Tryz.func65 (by kernel_rfl) (by kernel_rfl) [p0] (by kernel_rfl) H).trans (by kernel_rfl)
theorem mc65 {c93 dc93 : A1} (hc93 : L1 c93 dc93) {c94 dc94 : A0} (hc94 : L0 c94 dc94) {j65_1 dj65_1 : A2} (hj65_1 : L2 j65_1 dj65_1) : L1 (bc65 c93 c94 j65_1) (bc65 dc93 dc94 dj65_1) := fun _ _ =>
  bR fun _ => bR fun _ => bR fun _ => bC (hc93 _ _) fun _ => bR fun _ => bK (bC (hc94 _) fun _ => bR fun _ => bR fun _ => le_refl _) (hj65_1 _ _ _)
noncomputable def rc65 : A1 := fun p0 H => bc65 rc93 rc94 (rj65_1) p0 H
theorem sc65 : L1 rc65 c65 := fun _ H => le_eq (mc65 sc93 sc94 (sj65_1 H) _ _) (ec65 _ _)

/-! internal_bytealg_CompareString -/
noncomputable def c95 (p0 p1 : AV) (H : Hp) : Res := callw cfg 95 [p0, p1] H
noncomputable def bc95 (p0 p1 : AV) (H : Hp) : Res :=
  bnd (extC .cmp [p0, p1] H) fun r7_1 =>
  some (r7_1.1, r7_1.2)
theorem ec95 (p0 p1 : AV) (H : Hp) : c95 p0 p1 H = bc95 p0 p1 H := (callw_cxm (C := cfg) (fn := Tryz.f95) (c := bodyOf Tryz.f95) (n := 8) [] Tryz.func95 (by kernel_rfl) (by kernel_rfl) [p0, p1] (by kernel_rfl) H).trans (by kernel_rfl)
theorem mc95 : L2 (bc95) (bc95) := fun _ _ _ =>
  bR fun _ => le_refl _
noncomputable def rc95 : A2 := fun p0 p1 H => bc95 p0 p1 H
theorem sc95 : L2 rc95 c95 := fun _ _ H => le_eq (mc95 _ _ _) (ec95 _ _ _)

/-! strings_Compare -/
noncomputable def c69 (p0 p1 : AV) (H : Hp) : Res := callw cfg 69 [p0, p1] H
noncomputable def bc69 (c95 : A2) (p0 p1 : AV) (H : Hp) : Res :=
  bnd (c95 p0 p1 H) fun r7_1 =>
  some (r7_1.1, r7_1.2)
theorem ec69 (p0 p1 : AV) (H : Hp) : c69 p0 p1 H = bc69 c95 p0 p1 H := (callw_cxm (C := cfg) (fn := Tryz.f69) (c := bodyOf Tryz.f69) (n := 8) [] Tryz.func69 (by kernel_rfl) (by kernel_rfl) [p0, p1] (by kernel_rfl) H).trans (by kernel_rfl)
theorem mc69 {c95 dc95 : A2} (hc95 : L2 c95 dc95) : L2 (bc69 c95) (bc69 dc95) := fun _ _ _ =>
  bC (hc95 _ _ _) fun _ => le_refl _
noncomputable def rc69 : A2 := fun p0 p1 H => bc69 rc95 p0 p1 H
theorem sc69 : L2 rc69 c69 := fun _ _ H => le_eq (mc69 sc95 _ _ _) (ec69 _ _ _)

/-! locale_Compare -/
noncomputable def c38 (p0 p1 p2 : AV) (H : Hp) : Res := callw cfg 38 [p0, p1, p2] H
noncomputable def j38_3 (H0 : Hp) (x1 x2 : AV) (H : Hp) : Res := CXf 38 60 (sub (bodyOf Tryz.f38) [1, 1, 1, 1, 1, 1, 1]) (retL cfg 60 38 Tryz.f38 H0) [(1, x1), (2, x2)] H
noncomputable def j38_2 (H0 : Hp) (x1 x2 x8 x9 : AV) (H : Hp) : Res := CXf 38 60 (sub (bodyOf Tryz.f38) [1, 1, 1, 1, 1, 1]) (retL cfg 60 38 Tryz.f38 H0) [(1, x1), (2, x2), (8, x8), (9, x9)] H
noncomputable def j38_1 (H0 : Hp) (x1 x2 x8 x9 : AV) (H : Hp) : Res := CXf 38 60 (sub (bodyOf Tryz.f38) [1, 1, 1, 1, 1]) (retL cfg 60 38 Tryz.f38 H0) [(1, x1), (2, x2), (8, x8), (9, x9)] H
noncomputable def k38_1 (H0 : Hp) : KL := seqL (fun k al H => CXf 38 60 (sub (bodyOf Tryz.f38) [1, 1, 1, 1, 1]) k (trimL (cfg.keep 38) (sub (bodyOf Tryz.f38) [1, 1, 1, 1, 1]) al) H) (retL cfg 60 38 Tryz.f38 H0)
theorem k38_1_tame (H0 : Hp) : Tame 60 (k38_1 H0) := tame_seq (C := cfg) (kp := cfg.keep 38) (sub (bodyOf Tryz.f38) [1, 1, 1, 1, 1]) (tame_ret 38 Tryz.f38 H0)
noncomputable def j38_5 (H0 : Hp) (x1 x2 x8 x9 x24 x25 : AV) (H : Hp) : Res := CXf 38 60 (sub (bodyOf Tryz.f38) [1, 1, 1, 1, 0, 1, 0, 0, 1, 1, 1]) (seqL (fun k al H => LPf 38 60 (sub (bodyOf Tryz.f38) [1, 1, 1, 1, 0, 1, 0, 0]) k (trimL (cfg.keep 38) (sub (bodyOf Tryz.f38) [1, 1, 1, 1, 0, 1, 0, 0]) al) H) (blockL 0 (k38_1 H0))) [(1, x1), (2, x2), (8, x8), (9, x9), (24, x24), (25, x25)] H
noncomputable def k38_2 (H0 : Hp) : KL := seqL (fun k al H => CXf 38 60 (sub (bodyOf Tryz.f38) [1, 1, 1, 1, 0, 1, 0, 0, 1, 1, 1]) k (trimL (cfg.keep 38) (sub (bodyOf Tryz.f38) [1, 1, 1, 1, 0, 1, 0, 0, 1, 1, 1]) al) H) (seqL (fun k al H => LPf 38 60 (sub (bodyOf Tryz.f38) [1, 1, 1, 1, 0, 1, 0, 0]) k (trimL (cfg.keep 38) (sub (bodyOf Tryz.f38) [1, 1, 1, 1, 0, 1, 0, 0]) al) H) (blockL 0 (k38_1 H0)))
noncomputable def j38_6 (H0 : Hp) (x1 x2 x8 x9 x10 x24 x25 : AV) (H : Hp) : Res := CXf 38 60 (sub (bodyOf Tryz.f38) [1, 1, 1, 1, 0, 1, 0, 0, 1, 1, 0, 0, 1, 1]) (blockL 1 (k38_2 H0)) [(1, x1), (2, x2), (8, x8), (9, x9), (10, x10), (24, x24), (25, x25)] H
noncomputable def j38_4 (H0 : Hp) (x1 x2 x8 x9 x24 x25 x26 : AV) (H : Hp) : Res := CXf 38 60 (sub (bodyOf Tryz.f38) [1, 1, 1, 1, 0, 1, 0, 0, 1, 1]) (seqL (fun k al H => LPf 38 60 (sub (bodyOf Tryz.f38) [1, 1, 1, 1, 0, 1, 0, 0]) k (trimL (cfg.keep 38) (sub (bodyOf Tryz.f38) [1, 1, 1, 1, 0, 1, 0, 0]) al) H) (blockL 0 (k38_1 H0))) [(1, x1), (2, x2), (8, x8), (9, x9), (24, x24), (25, x25), (26, x26)] H
noncomputable def j38_l1 (H0 : Hp) (x1 x2 x8 x9 x24 x25 : AV) (H : Hp) : Res := LPf 38 60 (sub (bodyOf Tryz.f38) [1, 1, 1, 1, 0, 1, 0, 0]) (blockL 0 (k38_1 H0)) [(1, x1), (2, x2), (8, x8), (9, x9), (24, x24), (25, x25)] H
noncomputable def b38_3 (c69 : A2) (x1 x2 : AV) (H : Hp) : Res :=
  bnd (c69 x1 x2 H) fun r59_8 =>
  some (r59_8.1, r59_8.2)
theorem e38_3 (H0 : Hp) (x1 x2 : AV) (H : Hp) : j38_3 H0 x1 x2 H = b38_3 c69 x1 x2 H := (CXM_eq [6, 9, 11, 12, 14, 16] _ _ _ _).trans (by kernel_rfl)
theorem m38_3 {c69 dc69 : A2} (hc69 : L2 c69 dc69) : L2 (b38_3 c69) (b38_3 dc69) := fun _ _ _ =>
  bC (hc69 _ _ _) fun _ => le_refl _
noncomputable def b38_2 (j38_3 : A2) (x1 x2 x8 x9 : AV) (H : Hp) : Res :=
  bnd (alenD (.slice 3) x8) fun t53_9 =>
  bnd (alenD (.slice 3) x9) fun t55_10 =>
  bnd (ibin .gtr t53_9 t55_10) fun t56_11 =>
  cnd t56_11
    (some ((.int .i64 1), H))
    (j38_3 x1 x2 H)
theorem e38_2 (H0 : Hp) (x1 x2 x8 x9 : AV) (H : Hp) : j38_2 H0 x1 x2 x8 x9 H = b38_2 (j38_3 H0) x1 x2 x8 x9 H := (CXM_eq [6, 9, 11, 12, 14, 16] _ _ _ _).trans (by kernel_rfl)
theorem m38_2 {j38_3 dj38_3 : A2} (hj38_3 : L2 j38_3 dj38_3) : L4 (b38_2 j38_3) (b38_2 dj38_3) := fun _ _ _ _ _ =>
  bR fun _ => bR fun _ => bR fun _ => bK (le_refl _) (hj38_3 _ _ _)
noncomputable def b38_1 (j38_2 : A4) (x1 x2 x8 x9 : AV) (H : Hp) : Res :=
  bnd (alenD (.slice 3) x8) fun t48_12 =>
  bnd (alenD (.slice 3) x9) fun t50_13 =>
  bnd (ibin .lss t48_12 t50_13) fun t51_14 =>
  cnd t51_14
    (some ((.int .i64 (-1)), H))
    (j38_2 x1 x2 x8 x9 H)
theorem e38_1 (H0 : Hp) (x1 x2 x8 x9 : AV) (H : Hp) : j38_1 H0 x1 x2 x8 x9 H = b38_1 (j38_2 H0) x1 x2 x8 x9 H := (CXM_eq [6, 9, 11, 12, 14, 16] _ _ _ _).trans (by kernel_rfl)
theorem m38_1 {j38_2 dj38_2 : A4} (hj38_2 : L4 j38_2 dj38_2) : L4 (b38_1 j38_2) (b38_1 dj38_2) := fun _ _ _ _ _ =>
  bR fun _ => bR fun _ => bR fun _ => bK (le_refl _) (hj38_2 _ _ _ _ _)
noncomputable def b38_5 (j38_l1 : A6) (x1 x2 x8 x9 x24 x25 : AV) (H : Hp) : Res :=
  bnd (ibin .add x25 (.int .i64 1)) fun t46_19 =>
  j38_l1 x1 x2 x8 x9 x24 t46_19 H
theorem e38_5 (H0 : Hp) (x1 x2 x8 x9 x24 x25 : AV) (H : Hp) : j38_5 H0 x1 x2 x8 x9 x24 x25 H = b38_5 (j38_l1 H0) x1 x2 x8 x9 x24 x25 H := (CXM_eq [6, 9, 11, 12, 14, 16] _ _ _ _).trans (by kernel_rfl)
theorem m38_5 {j38_l1 dj38_l1 : A6} (hj38_l1 : L6 j38_l1 dj38_l1) : L6 (b38_5 j38_l1) (b38_5 dj38_l1) := fun _ _ _ _ _ _ _ =>
  bR fun _ => hj38_l1 _ _ _ _ _ _ _
noncomputable def b38_6 (j38_5 : A6) (x1 x2 x8 x9 x10 x24 x25 : AV) (H : Hp) : Res :=
  bnd (aindexS 1 x8 x10) fun t39_20 =>
  bnd (aload false 1 t39_20 H) fun t40_21 =>
  bnd (aindexS 1 x9 x10) fun t43_22 =>
  bnd (aload false 1 t43_22 H) fun t44_23 =>
  bnd (ibin .gtr t40_21 t44_23) fun t45_24 =>
  cnd t45_24
    (some ((.int .i64 1), H))
    (j38_5 x1 x2 x8 x9 x24 x25 H)
theorem e38_6 (H0 : Hp) (x1 x2 x8 x9 x10 x24 x25 : AV) (H : Hp) : j38_6 H0 x1 x2 x8 x9 x10 x24 x25 H = b38_6 (j38_5 H0) x1 x2 x8 x9 x10 x24 x25 H := (CXM_eq [6, 9, 11, 12, 14, 16] _ _ _ _).trans (by kernel_rfl)
theorem m38_6 {j38_5 dj38_5 : A6} (hj38_5 : L6 j38_5 dj38_5) : L7 (b38_6 j38_5) (b38_6 dj38_5) := fun _ _ _ _ _ _ _ _ =>
  bR fun _ => bR fun _ => bR fun _ => bR fun _ => bR fun _ => bK (le_refl _) (hj38_5 _ _ _ _ _ _ _)
noncomputable def b38_4 (j38_6 : A7) (x1 x2 x8 x9 x24 x25 x26 : AV) (H : Hp) : Res :=
  bnd (aindexS 1 x8 x25) fun t30_25 =>
  bnd (aload false 1 t30_25 H) fun t31_26 =>
  bnd (aindexS 1 x9 x25) fun t34_27 =>
  bnd (aload false 1 t34_27 H) fun t35_28 =>
  bnd (ibin .lss t31_26 t35_28) fun t36_29 =>
  cnd t36_29
    (some ((.int .i64 (-1)), H))
    (j38_6 x1 x2 x8 x9 x25 x24 x25 H)
theorem e38_4 (H0 : Hp) (x1 x2 x8 x9 x24 x25 x26 : AV) (H : Hp) : j38_4 H0 x1 x2 x8 x9 x24 x25 x26 H = b38_4 (j38_6 H0) x1 x2 x8 x9 x24 x25 x26 H := (CXM_eq [6, 9, 11, 12, 14, 16] _ _ _ _).trans (by kernel_rfl)
theorem m38_4 {j38_6 dj38_6 : A7} (hj38_6 : L7 j38_6 dj38_6) : L7 (b38_4 j38_6) (b38_4 dj38_6) := fun _ _ _ _ _ _ _ _ =>
  bR fun _ => bR fun _ => bR fun _ => bR fun _ => bR fun _ => bK (le_refl _) (hj38_6 _ _ _ _ _ _ _ _)
noncomputable def b38_l1 (j38_1 : A4) (j38_4 : A7) (x1 x2 x8 x9 x24 x25 : AV) (H : Hp) : Res :=
  bnd (ibin .lss x25 x24) fun t26_18 =>
  cnd t26_18
    (j38_4 x1 x2 x8 x9 x24 x25 t26_18 H)
    (j38_1 x1 x2 x8 x9 H)
theorem e38_l1 (H0 : Hp) (x1 x2 x8 x9 x24 x25 : AV) (H : Hp) : j38_l1 H0 x1 x2 x8 x9 x24 x25 H = b38_l1 (j38_1 H0) (j38_4 H0) x1 x2 x8 x9 x24 x25 H := (LPL_eqm (C := cfg) [6, 9, 11, 12, 14, 16] (tame_block 0 (k38_1_tame H0)) _ _).trans (by kernel_rfl)
theorem m38_l1 {j38_1 dj38_1 : A4} (hj38_1 : L4 j38_1 dj38_1) {j38_4 dj38_4 : A7} (hj38_4 : L7 j38_4 dj38_4) : L6 (b38_l1 j38_1 j38_4) (b38_l1 dj38_1 dj38_4) := fun _ _ _ _ _ _ _ =>
  bR fun _ => bK (hj38_4 _ _ _ _ _ _ _ _) (hj38_1 _ _ _ _ _)
noncomputable def rj38_3 (gV : AV → List AV → Hp → Res) : A2 := b38_3 rc69
theorem sj38_3 (H0 : Hp) {gV : AV → List AV → Hp → Res} (hV : LV gV (acall cfg (callw cfg))) : L2 (rj38_3 gV) (j38_3 H0) := fun _ _ _ => le_eq (m38_3 sc69 _ _ _) (e38_3 H0 _ _ _)
noncomputable def rj38_2 (gV : AV → List AV → Hp → Res) : A4 := b38_2 (rj38_3 gV)
theorem sj38_2 (H0 : Hp) {gV : AV → List AV → Hp → Res} (hV : LV gV (acall cfg (callw cfg))) : L4 (rj38_2 gV) (j38_2 H0) := fun _ _ _ _ _ => le_eq (m38_2 (sj38_3 H0 hV) _ _ _ _ _) (e38_2 H0 _ _ _ _ _)
noncomputable def rj38_1 (gV : AV → List AV → Hp → Res) : A4 := b38_1 (rj38_2 gV)
theorem sj38_1 (H0 : Hp) {gV : AV → List AV → Hp → Res} (hV : LV gV (acall cfg (callw cfg))) : L4 (rj38_1 gV) (j38_1 H0) := fun _ _ _ _ _ => le_eq (m38_1 (sj38_2 H0 hV) _ _ _ _ _) (e38_1 H0 _ _ _ _ _)
noncomputable def rj38_5 (gV : AV → List AV → Hp → Res) (j38_l1 : A6) : A6 := b38_5 j38_l1
theorem sj38_5 (H0 : Hp) {gV : AV → List AV → Hp → Res} (hV : LV gV (acall cfg (callw cfg))) {yj38_l1 : A6} (hj38_l1 : L6 yj38_l1 (j38_l1 H0)) : L6 (rj38_5 gV yj38_l1) (j38_5 H0) := fun _ _ _ _ _ _ _ => le_eq (m38_5 hj38_l1 _ _ _ _ _ _ _) (e38_5 H0 _ _ _ _ _ _ _)
noncomputable def rj38_6 (gV : AV → List AV → Hp → Res) (j38_l1 : A6) : A7 := b38_6 (rj38_5 gV j38_l1)
theorem sj38_6 (H0 : Hp) {gV : AV → List AV → Hp → Res} (hV : LV gV (acall cfg (callw cfg))) {yj38_l1 : A6} (hj38_l1 : L6 yj38_l1 (j38_l1 H0)) : L7 (rj38_6 gV yj38_l1) (j38_6 H0) := fun _ _ _ _ _ _ _ _ => le_eq (m38_6 (sj38_5 H0 hV hj38_l1) _ _ _ _ _ _ _ _) (e38_6 H0 _ _ _ _ _ _ _ _)
noncomputable def rj38_4 (gV : AV → List AV → Hp → Res) (j38_l1 : A6) : A7 := b38_4 (rj38_6 gV j38_l1)
theorem sj38_4 (H0 : Hp) {gV : AV → List AV → Hp → Res} (hV : LV gV (acall cfg (callw cfg))) {yj38_l1 : A6} (hj38_l1 : L6 yj38_l1 (j38_l1 H0)) : L7 (rj38_4 gV yj38_l1) (j38_4 H0) := fun _ _ _ _ _ _ _ _ => le_eq (m38_4 (sj38_6 H0 hV hj38_l1) _ _ _ _ _ _ _ _) (e38_4 H0 _ _ _ _ _ _ _ _)
noncomputable def rj38_l1 (gV : AV → List AV → Hp → Res) (n : Nat) : A6 := @Nat.rec (fun _ => A6) (fun _ _ _ _ _ _ _ => none) (fun _ j38_l1 => b38_l1 (rj38_1 gV) (rj38_4 gV j38_l1)) n
theorem sj38_l1 (H0 : Hp) {gV : AV → List AV → Hp → Res} (hV : LV gV (acall cfg (callw cfg))) (n : Nat) : L6 (rj38_l1 gV n) (j38_l1 H0) := by
  induction n with
  | zero => exact fun _ _ _ _ _ _ _ => le_none _
  | succ n hj38_l1 => exact fun _ _ _ _ _ _ _ => le_eq (m38_l1 (sj38_1 H0 hV) (sj38_4 H0 hV hj38_l1) _ _ _ _ _ _ _) (e38_l1 H0 _ _ _ _ _ _ _)
noncomputable def bc38 (c65 : A1) (j38_l1 : A6) (cV : AV → List AV → Hp → Res) (p0 p1 p2 : AV) (H : Hp) : Res :=
  bnd (abox p0 H) fun r3_1 =>
  bnd (aload true 6 r3_1.1 r3_1.2) fun t11_2 =>
  bnd (c65 t11_2 r3_1.2) fun r12_3 =>
  bnd (astoreU 6 r3_1.1 r12_3.1 r12_3.2) fun r_4 =>
  bnd (some (.fn (.func 66) [] [r3_1.1])) fun t13_5 =>
  bnd (cV t13_5 [p1] r_4.2) fun r16_6 =>
  bnd (cV t13_5 [p2] r16_6.2) fun r19_7 =>
  bnd (alenD (.slice 3) r16_6.1) fun t21_15 =>
  bnd (alenD (.slice 3) r19_7.1) fun t23_16 =>
  bnd (amin2 t21_15 t23_16) fun t24_17 =>
  j38_l1 p1 p2 r16_6.1 r19_7.1 t24_17 (.int .i64 0) r19_7.2
theorem ec38 (p0 p1 p2 : AV) (H : Hp) : c38 p0 p1 p2 H = bc38 c65 (j38_l1 H) (acall cfg (callw cfg)) p0 p1 p2 H := (callw_cxm (C := cfg) (fn := Tryz.f38) (c := bodyOf Tryz.f38) (n := 60) [6, 9, 11, 12, 14, 16] Tryz.func38 (by kernel_rfl) (by kernel_rfl) [p0, p1, p2] (by kernel_rfl) H).trans (by kernel_rfl)
theorem mc38 {c65 dc65 : A1} (hc65 : L1 c65 dc65) {j38_l1 dj38_l1 : A6} (hj38_l1 : L6 j38_l1 dj38_l1) {cV dcV : AV → List AV → Hp → Res} (hcV : LV cV dcV) : L3 (bc38 c65 j38_l1 cV) (bc38 dc65 dj38_l1 dcV) := fun _ _ _ _ =>
  bR fun _ => bR fun _ => bC (hc65 _ _) fun _ => bR fun _ => bR fun _ => bC (hcV _ _ _) fun _ => bC (hcV _ _ _) fun _ => bR fun _ => bR fun _ => bR fun _ => hj38_l1 _ _ _ _ _ _ _
noncomputable def rc38 (gV : AV → List AV → Hp → Res) : A3 := fun p0 p1 p2 H => bc38 rc65 (rj38_l1 gV 100000) gV p0 p1 p2 H
theorem sc38 {gV : AV → List AV → Hp → Res} (hV : LV gV (acall cfg (callw cfg))) : L3 (rc38 gV) c38 := fun _ _ _ H => le_eq (mc38 sc65 (sj38_l1 H hV 100000) hV _ _ _ _) (ec38 _ _ _ _)

/-! decimal_digits -/
noncomputable def c81 (p0 : AV) (H : Hp) : Res := callw cfg 81 [p0] H
noncomputable def j81_1 (H0 : Hp) (x3 : AV) (H : Hp) : Res := CXf 81 23 (sub (bodyOf Tryz.f81) [1, 1, 1]) (retL cfg 23 81 Tryz.f81 H0) [(3, x3)] H
noncomputable def k81_1 (H0 : Hp) : KL := seqL (fun k al H => CXf 81 23 (sub (bodyOf Tryz.f81) [1, 1, 1]) k (trimL (cfg.keep 81) (sub (bodyOf Tryz.f81) [1, 1, 1]) al) H) (retL cfg 23 81 Tryz.f81 H0)
theorem k81_1_tame (H0 : Hp) : Tame 23 (k81_1 H0) := tame_seq (C := cfg) (kp := cfg.keep 81) (sub (bodyOf Tryz.f81) [1, 1, 1]) (tame_ret 81 Tryz.f81 H0)
noncomputable def j81_2 (H0 : Hp) (x0 x3 : AV) (H : Hp) : Res := CXf 81 23 (sub (bodyOf Tryz.f81) [1, 1, 0, 0, 0, 1]) (seqL (fun k al H => LPf 81 23 (sub (bodyOf Tryz.f81) [1, 1, 0, 0, 0]) k (trimL (cfg.keep 81) (sub (bodyOf Tryz.f81) [1, 1, 0, 0, 0]) al) H) (blockL 0 (k81_1 H0))) [(0, x0), (3, x3)] H
noncomputable def j81_l1 (H0 : Hp) (x0 x3 : AV) (H : Hp) : Res := LPf 81 23 (sub (bodyOf Tryz.f81) [1, 1, 0, 0, 0]) (blockL 0 (k81_1 H0)) [(0, x0), (3, x3)] H
noncomputable def b81_1 (x3 : AV) (H : Hp) : Res :=
  some (x3, H)
theorem e81_1 (H0 : Hp) (x3 : AV) (H : Hp) : j81_1 H0 x3 H = b81_1 x3 H := (CXM_eq [3, 4] _ _ _ _).trans (by kernel_rfl)
theorem m81_1 : L1 (b81_1) (b81_1) := fun _ _ =>
  le_refl _
noncomputable def b81_2 (j81_l1 : A2) (x0 x3 : AV) (H : Hp) : Res :=
  bnd (ibin .add x3 (.int .i64 1)) fun t21_1 =>
  j81_l1 x0 t21_1 H
theorem e81_2 (H0 : Hp) (x0 x3 : AV) (H : Hp) : j81_2 H0 x0 x3 H = b81_2 (j81_l1 H0) x0 x3 H := (CXM_eq [3, 4] _ _ _ _).trans (by kernel_rfl)
theorem m81_2 {j81_l1 dj81_l1 : A2} (hj81_l1 : L2 j81_l1 dj81_l1) : L2 (b81_2 j81_l1) (b81_2 dj81_l1) := fun _ _ _ =>
  bR fun _ => hj81_l1 _ _ _
noncomputable def b81_l1 (j81_1 : A1) (j81_2 : A2) (x0 x3 : AV) (H : Hp) : Res :=
  bnd (alenD .string x0) fun t6_2 =>
  bnd (ibin .lss x3 t6_2) fun t7_3 =>
  bnd (gdv t7_3 true (.tuple []) (some x0)) fun t9_4 =>
  bnd (gdv t7_3 true (.tuple []) (some x3)) fun t10_5 =>
  bnd (gdv t7_3 true (.tuple []) (aindexStr t9_4 t10_5)) fun t11_6 =>
  bnd (gdv t7_3 true (.tuple []) (ibin .geq t11_6 (.int .u8 48))) fun t12_7 =>
  bnd (apick t7_3 t12_7 (.bool false)) fun t13_8 =>
  bnd (gdv t13_8 true (.tuple []) (some x0)) fun t15_9 =>
  bnd (gdv t13_8 true (.tuple []) (some x3)) fun t16_10 =>
  bnd (gdv t13_8 true (.tuple []) (aindexStr t15_9 t16_10)) fun t17_11 =>
  bnd (gdv t13_8 true (.tuple []) (ibin .leq t17_11 (.int .u8 57))) fun t18_12 =>
  bnd (apick t13_8 t18_12 (.bool false)) fun t19_13 =>
  cnd t19_13
    (j81_2 x0 x3 H)
    (j81_1 x3 H)
theorem e81_l1 (H0 : Hp) (x0 x3 : AV) (H : Hp) : j81_l1 H0 x0 x3 H = b81_l1 (j81_1 H0) (j81_2 H0) x0 x3 H := (LPL_eqm (C := cfg) [3, 4] (tame_block 0 (k81_1_tame H0)) _ _).trans (by kernel_rfl)
theorem m81_l1 {j81_1 dj81_1 : A1} (hj81_1 : L1 j81_1 dj81_1) {j81_2 dj81_2 : A2} (hj81_2 : L2 j81_2 dj81_2) : L2 (b81_l1 j81_1 j81_2) (b81_l1 dj81_1 dj81_2) := fun _ _ _ =>
  bR fun _ => bR fun _ => bR fun _ => bR fun _ => bR fun _ => bR fun _ => bR fun _ => bR fun _ => bR fun _ => bR fun _ => bR fun _ => bR fun _ => bK (hj81_2 _ _ _) (hj81_1 _ _)
noncomputable def rj81_1 : A1 := b81_1
theorem sj81_1 (H0 : Hp) : L1 (rj81_1) (j81_1 H0) := fun _ _ => le_eq (m81_1 _ _) (e81_1 H0 _ _)
noncomputable def rj81_2 (j81_l1 : A2) : A2 := b81_2 j81_l1
theorem sj81_2 (H0 : Hp) {yj81_l1 : A2} (hj81_l1 : L2 yj81_l1 (j81_l1 H0)) : L2 (rj81_2 yj81_l1) (j81_2 H0) := fun _ _ _ => le_eq (m81_2 hj81_l1 _ _ _) (e81_2 H0 _ _ _)
noncomputable def rj81_l1 (n : Nat) : A2 := @Nat.rec (fun _ => A2) (fun _ _ _ => none) (fun _ j81_l1 => b81_l1 (rj81_1) (rj81_2 j81_l1)) n
theorem sj81_l1 (H0 : Hp) (n : Nat) : L2 (rj81_l1 n) (j81_l1 H0) := by
  induction n with
  | zero => exact fun _ _ _ => le_none _
  | succ n hj81_l1 => exact fun _ _ _ => le_eq (m81_l1 (sj81_1 H0) (sj81_2 H0 hj81_l1) _ _ _) (e81_l1 H0 _ _ _)
noncomputable def bc81 (j81_l1 : A2) (p0 : AV) (H : Hp) : Res :=
  j81_l1 p0 (.int .i64 0) H
theorem ec81 (p0 : AV) (H : Hp) : c81 p0 H = bc81 (j81_l1 H) p0 H := (callw_cxm (C := cfg) (fn := Tryz.f81) (c := bodyOf Tryz.f81) (n := 23) [3, 4] Tryz.func81 (by kernel_rfl) (by kernel_rfl) [p0] (by kernel_rfl) H).trans (by kernel_rfl)
theorem mc81 {j81_l1 dj81_l1 : A2} (hj81_l1 : L2 j81_l1 dj81_l1) : L1 (bc81 j81_l1) (bc81 dj81_l1) := fun _ _ =>
  hj81_l1 _ _ _
noncomputable def rc81 : A1 := fun p0 H => bc81 (rj81_l1 100000) p0 H
theorem sc81 : L1 rc81 c81 := fun _ H => le_eq (mc81 (sj81_l1 H 100000) _ _) (ec81 _ _)

/-! decimal_fraction -/
noncomputable def c104 (p0 : AV) (H : Hp) : Res := callw cfg 104 [p0] H
noncomputable def j104_1 (H0 : Hp) (x3 : AV) (H : Hp) : Res := CXf 104 23 (sub (bodyOf Tryz.f104) [1, 1, 1]) (retL cfg 23 104 Tryz.f104 H0) [(3, x3)] H
noncomputable def k104_1 (H0 : Hp) : KL := seqL (fun k al H => CXf 104 23 (sub (bodyOf Tryz.f104) [1, 1, 1]) k (trimL (cfg.keep 104) (sub (bodyOf Tryz.f104) [1, 1, 1]) al) H) (retL cfg 23 104 Tryz.f104 H0)
theorem k104_1_tame (H0 : Hp) : Tame 23 (k104_1 H0) := tame_seq (C := cfg) (kp := cfg.keep 104) (sub (bodyOf Tryz.f104) [1, 1, 1]) (tame_ret 104 Tryz.f104 H0)
noncomputable def j104_3 (H0 : Hp) (x0 x3 x5 : AV) (H : Hp) : Res := CXf 104 23 (sub (bodyOf Tryz.f104) [1, 1, 0, 1, 0, 0, 1, 1, 1]) (seqL (fun k al H => LPf 104 23 (sub (bodyOf Tryz.f104) [1, 1, 0, 1, 0, 0]) k (trimL (cfg.keep 104) (sub (bodyOf Tryz.f104) [1, 1, 0, 1, 0, 0]) al) H) (blockL 0 (k104_1 H0))) [(0, x0), (3, x3), (5, x5)] H
noncomputable def j104_2 (H0 : Hp) (x0 x3 x5 x6 : AV) (H : Hp) : Res := CXf 104 23 (sub (bodyOf Tryz.f104) [1, 1, 0, 1, 0, 0, 1, 1]) (seqL (fun k al H => LPf 104 23 (sub (bodyOf Tryz.f104) [1, 1, 0, 1, 0, 0]) k (trimL (cfg.keep 104) (sub (bodyOf Tryz.f104) [1, 1, 0, 1, 0, 0]) al) H) (blockL 0 (k104_1 H0))) [(0, x0), (3, x3), (5, x5), (6, x6)] H
noncomputable def j104_l1 (H0 : Hp) (x0 x3 x5 : AV) (H : Hp) : Res := LPf 104 23 (sub (bodyOf Tryz.f104) [1, 1, 0, 1, 0, 0]) (blockL 0 (k104_1 H0)) [(0, x0), (3, x3), (5, x5)] H
noncomputable def b104_1 (x3 : AV) (H : Hp) : Res :=
  some (x3, H)
theorem e104_1 (H0 : Hp) (x3 : AV) (H : Hp) : j104_1 H0 x3 H = b104_1 x3 H := (CXM_eq [4, 8, 9] _ _ _ _).trans (by kernel_rfl)
theorem m104_1 : L1 (b104_1) (b104_1) := fun _ _ =>
  le_refl _
noncomputable def b104_3 (j104_l1 : A3) (x0 x3 x5 : AV) (H : Hp) : Res :=
  bnd (ibin .add x5 (.int .i64 1)) fun t21_2 =>
  j104_l1 x0 x3 t21_2 H
theorem e104_3 (H0 : Hp) (x0 x3 x5 : AV) (H : Hp) : j104_3 H0 x0 x3 x5 H = b104_3 (j104_l1 H0) x0 x3 x5 H := (CXM_eq [4, 8, 9] _ _ _ _).trans (by kernel_rfl)
theorem m104_3 {j104_l1 dj104_l1 : A3} (hj104_l1 : L3 j104_l1 dj104_l1) : L3 (b104_3 j104_l1) (b104_3 dj104_l1) := fun _ _ _ _ =>
  bR fun _ => hj104_l1 _ _ _ _
noncomputable def b104_2 (j104_3 : A3) (x0 x3 x5 x6 : AV) (H : Hp) : Res :=
  bnd (ibin .mul x3 (.int .i64 10)) fun t9_3 =>
  bnd (alenD .string x0) fun t12_4 =>
  bnd (ibin .lss x5 t12_4) fun t13_5 =>
  cnd t13_5
    (bnd (aindexStr x0 x5) fun t17_6 =>
    bnd (ibin .sub t17_6 (.int .u8 48)) fun t18_7 =>
    bnd (cvInt .i64 t18_7) fun t19_8 =>
    bnd (ibin .add t9_3 t19_8) fun t20_9 =>
    j104_3 x0 t20_9 x5 H)
    (j104_3 x0 t9_3 x5 H)
theorem e104_2 (H0 : Hp) (x0 x3 x5 x6 : AV) (H : Hp) : j104_2 H0 x0 x3 x5 x6 H = b104_2 (j104_3 H0) x0 x3 x5 x6 H := (CXM_eq [4, 8, 9] _ _ _ _).trans (by kernel_rfl)
theorem m104_2 {j104_3 dj104_3 : A3} (hj104_3 : L3 j104_3 dj104_3) : L4 (b104_2 j104_3) (b104_2 dj104_3) := fun _ _ _ _ _ =>
  bR fun _ => bR fun _ => bR fun _ => bK (bR fun _ => bR fun _ => bR fun _ => bR fun _ => hj104_3 _ _ _ _) (hj104_3 _ _ _ _)
noncomputable def b104_l1 (j104_1 : A1) (j104_2 : A4) (x0 x3 x5 : AV) (H : Hp) : Res :=
  bnd (ibin .lss x5 (.int .i64 4)) fun t6_1 =>
  cnd t6_1
    (j104_2 x0 x3 x5 t6_1 H)
    (j104_1 x3 H)
theorem e104_l1 (H0 : Hp) (x0 x3 x5 : AV) (H : Hp) : j104_l1 H0 x0 x3 x5 H = b104_l1 (j104_1 H0) (j104_2 H0) x0 x3 x5 H := (LPL_eqm (C := cfg) [4, 8, 9] (tame_block 0 (k104_1_tame H0)) _ _).trans (by kernel_rfl)
theorem m104_l1 {j104_1 dj104_1 : A1} (hj104_1 : L1 j104_1 dj104_1) {j104_2 dj104_2 : A4} (hj104_2 : L4 j104_2 dj104_2) : L3 (b104_l1 j104_1 j104_2) (b104_l1 dj104_1 dj104_2) := fun _ _ _ _ =>
  bR fun _ => bK (hj104_2 _ _ _ _ _) (hj104_1 _ _)
noncomputable def rj104_1 : A1 := b104_1
theorem sj104_1 (H0 : Hp) : L1 (rj104_1) (j104_1 H0) := fun _ _ => le_eq (m104_1 _ _) (e104_1 H0 _ _)
noncomputable def rj104_3 (j104_l1 : A3) : A3 := b104_3 j104_l1
theorem sj104_3 (H0 : Hp) {yj104_l1 : A3} (hj104_l1 : L3 yj104_l1 (j104_l1 H0)) : L3 (rj104_3 yj104_l1) (j104_3 H0) := fun _ _ _ _ => le_eq (m104_3 hj104_l1 _ _ _ _) (e104_3 H0 _ _ _ _)
noncomputable def rj104_2 (j104_l1 : A3) : A4 := b104_2 (rj104_3 j104_l1)
theorem sj104_2 (H0 : Hp) {yj104_l1 : A3} (hj104_l1 : L3 yj104_l1 (j104_l1 H0)) : L4 (rj104_2 yj104_l1) (j104_2 H0) := fun _ _ _ _ _ => le_eq (m104_2 (sj104_3 H0 hj104_l1) _ _ _ _ _) (e104_2 H0 _ _ _ _ _)
noncomputable def rj104_l1 (n : Nat) : A3 := @Nat.rec (fun _ => A3) (fun _ _ _ _ => none) (fun _ j104_l1 => b104_l1 (rj104_1) (rj104_2 j104_l1)) n
theorem sj104_l1 (H0 : Hp) (n : Nat) : L3 (rj104_l1 n) (j104_l1 H0) := by
  induction n with
  | zero => exact fun _ _ _ _ => le_none _
  | succ n hj104_l1 => exact fun _ _ _ _ => le_eq (m104_l1 (sj104_1 H0) (sj104_2 H0 hj104_l1) _ _ _ _) (e104_l1 H0 _ _ _ _)
noncomputable def bc104 (j104_l1 : A3) (p0 : AV) (H : Hp) : Res :=
  j104_l1 p0 (.int .i64 0) (.int .i64 0) H
theorem ec104 (p0 : AV) (H : Hp) : c104 p0 H = bc104 (j104_l1 H) p0 H := (callw_cxm (C := cfg) (fn := Tryz.f104) (c := bodyOf Tryz.f104) (n := 23) [4, 8, 9] Tryz.func104 (by kernel_rfl) (by kernel_rfl) [p0] (by kernel_rfl) H).trans (by kernel_rfl)
theorem mc104 {j104_l1 dj104_l1 : A3} (hj104_l1 : L3 j104_l1 dj104_l1) : L1 (bc104 j104_l1) (bc104 dj104_l1) := fun _ _ =>
  hj104_l1 _ _ _ _
noncomputable def rc104 : A1 := fun p0 H => bc104 (rj104_l1 100000) p0 H
theorem sc104 : L1 rc104 c104 := fun _ H => le_eq (mc104 (sj104_l1 H 100000) _ _) (ec104 _ _)

/-! decimal_value -/
noncomputable def c82 (p0 p1 : AV) (H : Hp) : Res := callw cfg 82 [p0, p1] H
noncomputable def j82_1 (H0 : Hp) (x1 x5 : AV) (H : Hp) : Res := CXf 82 29 (sub (bodyOf Tryz.f82) [1, 1, 1]) (retL cfg 29 82 Tryz.f82 H0) [(1, x1), (5, x5)] H
noncomputable def k82_1 (H0 : Hp) : KL := seqL (fun k al H => CXf 82 29 (sub (bodyOf Tryz.f82) [1, 1, 1]) k (trimL (cfg.keep 82) (sub (bodyOf Tryz.f82) [1, 1, 1]) al) H) (retL cfg 29 82 Tryz.f82 H0)
theorem k82_1_tame (H0 : Hp) : Tame 29 (k82_1 H0) := tame_seq (C := cfg) (kp := cfg.keep 82) (sub (bodyOf Tryz.f82) [1, 1, 1]) (tame_ret 82 Tryz.f82 H0)
noncomputable def j82_3 (H0 : Hp) (x0 x1 x5 x8 x9 : AV) (H : Hp) : Res := CXf 82 29 (sub (bodyOf Tryz.f82) [1, 1, 0, 1, 0, 0, 1, 1, 1]) (seqL (fun k al H => LPf 82 29 (sub (bodyOf Tryz.f82) [1, 1, 0, 1, 0, 0]) k (trimL (cfg.keep 82) (sub (bodyOf Tryz.f82) [1, 1, 0, 1, 0, 0]) al) H) (blockL 0 (k82_1 H0))) [(0, x0), (1, x1), (5, x5), (8, x8), (9, x9)] H
noncomputable def j82_2 (H0 : Hp) (x0 x1 x5 x8 x9 x10 : AV) (H : Hp) : Res := CXf 82 29 (sub (bodyOf Tryz.f82) [1, 1, 0, 1, 0, 0, 1, 1]) (seqL (fun k al H => LPf 82 29 (sub (bodyOf Tryz.f82) [1, 1, 0, 1, 0, 0]) k (trimL (cfg.keep 82) (sub (bodyOf Tryz.f82) [1, 1, 0, 1, 0, 0]) al) H) (blockL 0 (k82_1 H0))) [(0, x0), (1, x1), (5, x5), (8, x8), (9, x9), (10, x10)] H
noncomputable def j82_l1 (H0 : Hp) (x0 x1 x5 x8 x9 : AV) (H : Hp) : Res := LPf 82 29 (sub (bodyOf Tryz.f82) [1, 1, 0, 1, 0, 0]) (blockL 0 (k82_1 H0)) [(0, x0), (1, x1), (5, x5), (8, x8), (9, x9)] H
noncomputable def b82_1 (c104 : A1) (x1 x5 : AV) (H : Hp) : Res :=
  bnd (ibin .mul x5 (.int .i64 10000)) fun t24_1 =>
  bnd (c104 x1 H) fun r26_2 =>
  bnd (ibin .add t24_1 r26_2.1) fun t27_3 =>
  bnd (amin2 (.int .i64 10000000000001) t27_3) fun t28_4 =>
  some (t28_4, r26_2.2)
theorem e82_1 (H0 : Hp) (x1 x5 : AV) (H : Hp) : j82_1 H0 x1 x5 H = b82_1 c104 x1 x5 H := (CXM_eq [4, 8, 9] _ _ _ _).trans (by kernel_rfl)
theorem m82_1 {c104 dc104 : A1} (hc104 : L1 c104 dc104) : L2 (b82_1 c104) (b82_1 dc104) := fun _ _ _ =>
  bR fun _ => bC (hc104 _ _) fun _ => bR fun _ => bR fun _ => le_refl _
noncomputable def b82_3 (j82_l1 : A5) (x0 x1 x5 x8 x9 : AV) (H : Hp) : Res :=
  bnd (ibin .add x9 (.int .i64 1)) fun t22_7 =>
  j82_l1 x0 x1 x5 x8 t22_7 H
theorem e82_3 (H0 : Hp) (x0 x1 x5 x8 x9 : AV) (H : Hp) : j82_3 H0 x0 x1 x5 x8 x9 H = b82_3 (j82_l1 H0) x0 x1 x5 x8 x9 H := (CXM_eq [4, 8, 9] _ _ _ _).trans (by kernel_rfl)
theorem m82_3 {j82_l1 dj82_l1 : A5} (hj82_l1 : L5 j82_l1 dj82_l1) : L5 (b82_3 j82_l1) (b82_3 dj82_l1) := fun _ _ _ _ _ _ =>
  bR fun _ => hj82_l1 _ _ _ _ _ _
noncomputable def b82_2 (j82_3 : A5) (x0 x1 x5 x8 x9 x10 : AV) (H : Hp) : Res :=
  bnd (ibin .mul (.int .i64 10) x5) fun t13_8 =>
  bnd (aindexStr x0 x9) fun t16_9 =>
  bnd (ibin .sub t16_9 (.int .u8 48)) fun t17_10 =>
  bnd (cvInt .i64 t17_10) fun t18_11 =>
  bnd (ibin .add t13_8 t18_11) fun t19_12 =>
  bnd (ibin .gtr t19_12 (.int .i64 1000000000)) fun t21_13 =>
  cnd t21_13
    (some ((.int .i64 10000000000001), H))
    (j82_3 x0 x1 t19_12 x8 x9 H)
theorem e82_2 (H0 : Hp) (x0 x1 x5 x8 x9 x10 : AV) (H : Hp) : j82_2 H0 x0 x1 x5 x8 x9 x10 H = b82_2 (j82_3 H0) x0 x1 x5 x8 x9 x10 H := (CXM_eq [4, 8, 9] _ _ _ _).trans (by kernel_rfl)
theorem m82_2 {j82_3 dj82_3 : A5} (hj82_3 : L5 j82_3 dj82_3) : L6 (b82_2 j82_3) (b82_2 dj82_3) := fun _ _ _ _ _ _ _ =>
  bR fun _ => bR fun _ => bR fun _ => bR fun _ => bR fun _ => bR fun _ => bK (le_refl _) (hj82_3 _ _ _ _ _ _)
noncomputable def b82_l1 (j82_1 : A2) (j82_2 : A6) (x0 x1 x5 x8 x9 : AV) (H : Hp) : Res :=
  bnd (ibin .lss x9 x8) fun t10_6 =>
  cnd t10_6
    (j82_2 x0 x1 x5 x8 x9 t10_6 H)
    (j82_1 x1 x5 H)
theorem e82_l1 (H0 : Hp) (x0 x1 x5 x8 x9 : AV) (H : Hp) : j82_l1 H0 x0 x1 x5 x8 x9 H = b82_l1 (j82_1 H0) (j82_2 H0) x0 x1 x5 x8 x9 H := (LPL_eqm (C := cfg) [4, 8, 9] (tame_block 0 (k82_1_tame H0)) _ _).trans (by kernel_rfl)
theorem m82_l1 {j82_1 dj82_1 : A2} (hj82_1 : L2 j82_1 dj82_1) {j82_2 dj82_2 : A6} (hj82_2 : L6 j82_2 dj82_2) : L5 (b82_l1 j82_1 j82_2) (b82_l1 dj82_1 dj82_2) := fun _ _ _ _ _ _ =>
  bR fun _ => bK (hj82_2 _ _ _ _ _ _ _) (hj82_1 _ _ _)
noncomputable def rj82_1 : A2 := b82_1 rc104
theorem sj82_1 (H0 : Hp) : L2 (rj82_1) (j82_1 H0) := fun _ _ _ => le_eq (m82_1 sc104 _ _ _) (e82_1 H0 _ _ _)
noncomputable def rj82_3 (j82_l1 : A5) : A5 := b82_3 j82_l1
theorem sj82_3 (H0 : Hp) {yj82_l1 : A5} (hj82_l1 : L5 yj82_l1 (j82_l1 H0)) : L5 (rj82_3 yj82_l1) (j82_3 H0) := fun _ _ _ _ _ _ => le_eq (m82_3 hj82_l1 _ _ _ _ _ _) (e82_3 H0 _ _ _ _ _ _)
noncomputable def rj82_2 (j82_l1 : A5) : A6 := b82_2 (rj82_3 j82_l1)
theorem sj82_2 (H0 : Hp) {yj82_l1 : A5} (hj82_l1 : L5 yj82_l1 (j82_l1 H0)) : L6 (rj82_2 yj82_l1) (j82_2 H0) := fun _ _ _ _ _ _ _ => le_eq (m82_2 (sj82_3 H0 hj82_l1) _ _ _ _ _ _ _) (e82_2 H0 _ _ _ _ _ _ _)
noncomputable def rj82_l1 (n : Nat) : A5 := @Nat.rec (fun _ => A5) (fun _ _ _ _ _ _ => none) (fun _ j82_l1 => b82_l1 (rj82_1) (rj82_2 j82_l1)) n
theorem sj82_l1 (H0 : Hp) (n : Nat) : L5 (rj82_l1 n) (j82_l1 H0) := by
  induction n with
  | zero => exact fun _ _ _ _ _ _ => le_none _
  | succ n hj82_l1 => exact fun _ _ _ _ _ _ => le_eq (m82_l1 (sj82_1 H0) (sj82_2 H0 hj82_l1) _ _ _ _ _ _) (e82_l1 H0 _ _ _ _ _ _)
noncomputable def bc82 (j82_l1 : A5) (p0 p1 : AV) (H : Hp) : Res :=
  bnd (alenD .string p0) fun t8_5 =>
  j82_l1 p0 p1 (.int .i64 0) t8_5 (.int .i64 0) H
theorem ec82 (p0 p1 : AV) (H : Hp) : c82 p0 p1 H = bc82 (j82_l1 H) p0 p1 H := (callw_cxm (C := cfg) (fn := Tryz.f82) (c := bodyOf Tryz.f82) (n := 29) [4, 8, 9] Tryz.func82 (by kernel_rfl) (by kernel_rfl) [p0, p1] (by kernel_rfl) H).trans (by kernel_rfl)
theorem mc82 {j82_l1 dj82_l1 : A5} (hj82_l1 : L5 j82_l1 dj82_l1) : L2 (bc82 j82_l1) (bc82 dj82_l1) := fun _ _ _ =>
  bR fun _ => hj82_l1 _ _ _ _ _ _
noncomputable def rc82 : A2 := fun p0 p1 H => bc82 (rj82_l1 100000) p0 p1 H
theorem sc82 : L2 rc82 c82 := fun _ _ H => le_eq (mc82 (sj82_l1 H 100000) _ _ _) (ec82 _ _ _)

/-! decimal_Prefix -/
noncomputable def c55 (p0 : AV) (H : Hp) : Res := callw cfg 55 [p0] H
noncomputable def j55_5 (H0 : Hp) (x9 x11 : AV) (H : Hp) : Res := CXf 55 116 (sub (bodyOf Tryz.f55) [1, 1, 1, 1, 1, 1, 1, 1, 1, 1, 1]) (retL cfg 116 55 Tryz.f55 H0) [(9, x9), (11, x11)] H
noncomputable def j55_4 (H0 : Hp) (x5 x7 x8 x9 : AV) (H : Hp) : Res := CXf 55 116 (sub (bodyOf Tryz.f55) [1, 1, 1, 1, 1, 1, 1, 1, 1]) (retL cfg 116 55 Tryz.f55 H0) [(5, x5), (7, x7), (8, x8), (9, x9)] H
noncomputable def j55_3 (H0 : Hp) (x5 x6 x7 x8 x9 : AV) (H : Hp) : Res := CXf 55 116 (sub (bodyOf Tryz.f55) [1, 1, 1, 1, 1, 1, 1, 1]) (retL cfg 116 55 Tryz.f55 H0) [(5, x5), (6, x6), (7, x7), (8, x8), (9, x9)] H
noncomputable def j55_2 (H0 : Hp) (x0 x4 x5 : AV) (H : Hp) : Res := CXf 55 116 (sub (bodyOf Tryz.f55) [1, 1, 1, 1, 1]) (retL cfg 116 55 Tryz.f55 H0) [(0, x0), (4, x4), (5, x5)] H
noncomputable def j55_1 (H0 : Hp) (x0 x4 : AV) (H : Hp) : Res := CXf 55 116 (sub (bodyOf Tryz.f55) [1, 1, 1]) (retL cfg 116 55 Tryz.f55 H0) [(0, x0), (4, x4)] H
noncomputable def k55_1 (H0 : Hp) : KL := seqL (fun k al H => CXf 55 116 (sub (bodyOf Tryz.f55) [1, 1, 1]) k (trimL (cfg.keep 55) (sub (bodyOf Tryz.f55) [1, 1, 1]) al) H) (retL cfg 116 55 Tryz.f55 H0)
theorem k55_1_tame (H0 : Hp) : Tame 116 (k55_1 H0) := tame_seq (C := cfg) (kp := cfg.keep 55) (sub (bodyOf Tryz.f55) [1, 1, 1]) (tame_ret 55 Tryz.f55 H0)
noncomputable def j55_6 (H0 : Hp) (x0 x4 : AV) (H : Hp) : Res := CXf 55 116 (sub (bodyOf Tryz.f55) [1, 1, 0, 0, 0, 1]) (seqL (fun k al H => LPf 55 116 (sub (bodyOf Tryz.f55) [1, 1, 0, 0, 0]) k (trimL (cfg.keep 55) (sub (bodyOf Tryz.f55) [1, 1, 0, 0, 0]) al) H) (blockL 0 (k55_1 H0))) [(0, x0), (4, x4)] H
noncomputable def j55_l1 (H0 : Hp) (x0 x4 : AV) (H : Hp) : Res := LPf 55 116 (sub (bodyOf Tryz.f55) [1, 1, 0, 0, 0]) (blockL 0 (k55_1 H0)) [(0, x0), (4, x4)] H
noncomputable def b55_5 (x9 x11 : AV) (H : Hp) : Res :=
  some ((.tuple [x11, x9]), H)
theorem e55_5 (H0 : Hp) (x9 x11 : AV) (H : Hp) : j55_5 H0 x9 x11 H = b55_5 x9 x11 H := (CXM_eq [3, 4, 7, 14, 16, 19] _ _ _ _).trans (by kernel_rfl)
theorem m55_5 : L2 (b55_5) (b55_5) := fun _ _ _ =>
  le_refl _
noncomputable def b55_4 (c82 : A2) (j55_5 : A2) (x5 x7 x8 x9 : AV) (H : Hp) : Res :=
  bnd (c82 x7 x8 H) fun r109_13 =>
  bnd (amin2 (.int .i64 10000000000000) r109_13.1) fun t110_14 =>
  cnd x5
    (bnd (aun .neg t110_14) fun t113_15 =>
    j55_5 x9 t113_15 r109_13.2)
    (j55_5 x9 t110_14 r109_13.2)
theorem e55_4 (H0 : Hp) (x5 x7 x8 x9 : AV) (H : Hp) : j55_4 H0 x5 x7 x8 x9 H = b55_4 c82 (j55_5 H0) x5 x7 x8 x9 H := (CXM_eq [3, 4, 7, 14, 16, 19] _ _ _ _).trans (by kernel_rfl)
theorem m55_4 {c82 dc82 : A2} (hc82 : L2 c82 dc82) {j55_5 dj55_5 : A2} (hj55_5 : L2 j55_5 dj55_5) : L4 (b55_4 c82 j55_5) (b55_4 dc82 dj55_5) := fun _ _ _ _ _ =>
  bC (hc82 _ _ _) fun _ => bR fun _ => bK (bR fun _ => hj55_5 _ _ _) (hj55_5 _ _ _)
noncomputable def b55_3 (j55_4 : A4) (x5 x6 x7 x8 x9 : AV) (H : Hp) : Res :=
  bnd (ibin .eql x6 (.int .i64 0)) fun t102_16 =>
  bnd (gdv t102_16 true (.tuple []) (some x8)) fun t104_17 =>
  bnd (gdv t102_16 true (.tuple []) (sbin .eql t104_17 (.str []))) fun t105_18 =>
  bnd (apick t102_16 t105_18 (.bool false)) fun t106_19 =>
  cnd t106_19
    (some ((.tuple [(.int .i64 0), (.int .i64 0)]), H))
    (j55_4 x5 x7 x8 x9 H)
theorem e55_3 (H0 : Hp) (x5 x6 x7 x8 x9 : AV) (H : Hp) : j55_3 H0 x5 x6 x7 x8 x9 H = b55_3 (j55_4 H0) x5 x6 x7 x8 x9 H := (CXM_eq [3, 4, 7, 14, 16, 19] _ _ _ _).trans (by kernel_rfl)
theorem m55_3 {j55_4 dj55_4 : A4} (hj55_4 : L4 j55_4 dj55_4) : L5 (b55_3 j55_4) (b55_3 dj55_4) := fun _ _ _ _ _ _ =>
  bR fun _ => bR fun _ => bR fun _ => bR fun _ => bK (le_refl _) (hj55_4 _ _ _ _ _)
noncomputable def b55_2 (c81 : A1) (j55_3 : A5) (x0 x4 x5 : AV) (H : Hp) : Res :=
  bnd (asliceS x0 (some x4) none none) fun t57_8 =>
  bnd (c81 t57_8 H) fun r58_9 =>
  bnd (ibin .add x4 r58_9.1) fun t63_10 =>
  bnd (asliceS x0 (some x4) (some t63_10) none) fun t64_11 =>
  bnd (ibin .add x4 r58_9.1) fun t67_12 =>
  bnd (alenD .string x0) fun t70_20 =>
  bnd (ibin .lss t67_12 t70_20) fun t71_21 =>
  bnd (gdv t71_21 true (.tuple []) (some x0)) fun t73_22 =>
  bnd (gdv t71_21 true (.tuple []) (some t67_12)) fun t74_23 =>
  bnd (gdv t71_21 true (.tuple []) (aindexStr t73_22 t74_23)) fun t75_24 =>
  bnd (gdv t71_21 true (.tuple []) (ibin .eql t75_24 (.int .u8 46))) fun t76_25 =>
  bnd (apick t71_21 t76_25 (.bool false)) fun t77_26 =>
  cnd t77_26
    (bnd (ibin .add t67_12 (.int .i64 1)) fun t80_27 =>
    bnd (asliceS x0 (some t80_27) none none) fun t81_28 =>
    bnd (c81 t81_28 r58_9.2) fun r82_29 =>
    bnd (ibin .gtr r58_9.1 (.int .i64 0)) fun t84_30 =>
    bnd (gdv t84_30 false (.tuple []) (some r82_29.1)) fun t86_31 =>
    bnd (gdv t84_30 false (.tuple []) (ibin .gtr t86_31 (.int .i64 0))) fun t87_32 =>
    bnd (apick t84_30 (.bool true) t87_32) fun t88_33 =>
    cnd t88_33
      (bnd (ibin .add t67_12 (.int .i64 1)) fun t91_34 =>
      bnd (ibin .add t67_12 (.int .i64 1)) fun t93_35 =>
      bnd (ibin .add t93_35 r82_29.1) fun t95_36 =>
      bnd (asliceS x0 (some t91_34) (some t95_36) none) fun t96_37 =>
      bnd (ibin .add (.int .i64 1) r82_29.1) fun t99_38 =>
      bnd (ibin .add t67_12 t99_38) fun t100_39 =>
      j55_3 x5 r58_9.1 t64_11 t96_37 t100_39 r82_29.2)
      (j55_3 x5 r58_9.1 t64_11 (.str []) t67_12 r82_29.2))
    (j55_3 x5 r58_9.1 t64_11 (.str []) t67_12 r58_9.2)
theorem e55_2 (H0 : Hp) (x0 x4 x5 : AV) (H : Hp) : j55_2 H0 x0 x4 x5 H = b55_2 c81 (j55_3 H0) x0 x4 x5 H := (CXM_eq [3, 4, 7, 14, 16, 19] _ _ _ _).trans (by kernel_rfl)
theorem m55_2 {c81 dc81 : A1} (hc81 : L1 c81 dc81) {j55_3 dj55_3 : A5} (hj55_3 : L5 j55_3 dj55_3) : L3 (b55_2 c81 j55_3) (b55_2 dc81 dj55_3) := fun _ _ _ _ =>
  bR fun _ => bC (hc81 _ _) fun _ => bR fun _ => bR fun _ => bR fun _ => bR fun _ => bR fun _ => bR fun _ => bR fun _ => bR fun _ => bR fun _ => bR fun _ => bK (bR fun _ => bR fun _ => bC (hc81 _ _) fun _ => bR fun _ => bR fun _ => bR fun _ => bR fun _ => bK (bR fun _ => bR fun _ => bR fun _ => bR fun _ => bR fun _ => bR fun _ => hj55_3 _ _ _ _ _ _) (hj55_3 _ _ _ _ _ _)) (hj55_3 _ _ _ _ _ _)
noncomputable def b55_1 (j55_2 : A3) (x0 x4 : AV) (H : Hp) : Res :=
  bnd (alenD .string x0) fun t32_1 =>
  bnd (ibin .lss x4 t32_1) fun t33_2 =>
  bnd (gdv t33_2 true (.tuple []) (some x0)) fun t35_3 =>
  bnd (gdv t33_2 true (.tuple []) (some x4)) fun t36_4 =>
  bnd (gdv t33_2 true (.tuple []) (aindexStr t35_3 t36_4)) fun t37_5 =>
  bnd (gdv t33_2 true (.tuple []) (ibin .eql t37_5 (.int .u8 45))) fun t38_6 =>
  bnd (apick t33_2 t38_6 (.bool false)) fun t39_7 =>
  bnd (gdv t39_7 false (.tuple []) (some x4)) fun t42_40 =>
  bnd (gdv t39_7 false (.tuple []) (some x0)) fun t43_41 =>
  bnd (gdv t39_7 false (.tuple []) (alenD .string t43_41)) fun t44_42 =>
  bnd (gdv t39_7 false (.tuple []) (ibin .lss t42_40 t44_42)) fun t45_43 =>
  bnd (gdv t39_7 false (.tuple []) (some t45_43)) fun t46_44 =>
  bnd (gdv t46_44 true (.tuple []) (some x0)) fun t47_45 =>
  bnd (gdv t46_44 true (.tuple []) (some x4)) fun t48_46 =>
  bnd (gdv t46_44 true (.tuple []) (aindexStr t47_45 t48_46)) fun t49_47 =>
  bnd (gdv t46_44 true (.tuple []) (ibin .eql t49_47 (.int .u8 43))) fun t50_48 =>
  bnd (gdv t39_7 false (.tuple []) (apick t46_44 t50_48 (.bool false))) fun t51_49 =>
  bnd (apick t39_7 (.bool true) t51_49) fun t52_50 =>
  cnd t52_50
    (bnd (ibin .add x4 (.int .i64 1)) fun t54_51 =>
    j55_2 x0 t54_51 t39_7 H)
    (j55_2 x0 x4 t39_7 H)
theorem e55_1 (H0 : Hp) (x0 x4 : AV) (H : Hp) : j55_1 H0 x0 x4 H = b55_1 (j55_2 H0) x0 x4 H := (CXM_eq [3, 4, 7, 14, 16, 19] _ _ _ _).trans (by kernel_rfl)
theorem m55_1 {j55_2 dj55_2 : A3} (hj55_2 : L3 j55_2 dj55_2) : L2 (b55_1 j55_2) (b55_1 dj55_2) := fun _ _ _ =>
  bR fun _ => bR fun _ => bR fun _ => bR fun _ => bR fun _ => bR fun _ => bR fun _ => bR fun _ => bR fun _ => bR fun _ => bR fun _ => bR fun _ => bR fun _ => bR fun _ => bR fun _ => bR fun _ => bR fun _ => bR fun _ => bK (bR fun _ => hj55_2 _ _ _ _) (hj55_2 _ _ _ _)
noncomputable def b55_6 (j55_l1 : A2) (x0 x4 : AV) (H : Hp) : Res :=
  bnd (ibin .add x4 (.int .i64 1)) fun t29_52 =>
  j55_l1 x0 t29_52 H
theorem e55_6 (H0 : Hp) (x0 x4 : AV) (H : Hp) : j55_6 H0 x0 x4 H = b55_6 (j55_l1 H0) x0 x4 H := (CXM_eq [3, 4, 7, 14, 16, 19] _ _ _ _).trans (by kernel_rfl)
theorem m55_6 {j55_l1 dj55_l1 : A2} (hj55_l1 : L2 j55_l1 dj55_l1) : L2 (b55_6 j55_l1) (b55_6 dj55_l1) := fun _ _ _ =>
  bR fun _ => hj55_l1 _ _ _
noncomputable def b55_l1 (j55_1 : A2) (j55_6 : A2) (x0 x4 : AV) (H : Hp) : Res :=
  bnd (alenD .string x0) fun t14_53 =>
  bnd (ibin .lss x4 t14_53) fun t15_54 =>
  bnd (gdv t15_54 true (.tuple []) (some x0)) fun t17_55 =>
  bnd (gdv t15_54 true (.tuple []) (some x4)) fun t18_56 =>
  bnd (gdv t15_54 true (.tuple []) (aindexStr t17_55 t18_56)) fun t19_57 =>
  bnd (gdv t15_54 true (.tuple []) (ibin .eql t19_57 (.int .u8 32))) fun t20_58 =>
  bnd (gdv t15_54 true (.tuple []) (some t20_58)) fun t21_59 =>
  bnd (gdv t21_59 false (.tuple []) (some x0)) fun t22_60 =>
  bnd (gdv t21_59 false (.tuple []) (some x4)) fun t23_61 =>
  bnd (gdv t21_59 false (.tuple []) (aindexStr t22_60 t23_61)) fun t24_62 =>
  bnd (gdv t21_59 false (.tuple []) (ibin .eql t24_62 (.int .u8 9))) fun t25_63 =>
  bnd (gdv t15_54 true (.tuple []) (apick t21_59 (.bool true) t25_63)) fun t26_64 =>
  bnd (apick t15_54 t26_64 (.bool false)) fun t27_65 =>
  cnd t27_65
    (j55_6 x0 x4 H)
    (j55_1 x0 x4 H)
theorem e55_l1 (H0 : Hp) (x0 x4 : AV) (H : Hp) : j55_l1 H0 x0 x4 H = b55_l1 (j55_1 H0) (j55_6 H0) x0 x4 H := (LPL_eqm (C := cfg) [3, 4, 7, 14, 16, 19] (tame_block 0 (k55_1_tame H0)) _ _).trans (by kernel_rfl)
theorem m55_l1 {j55_1 dj55_1 : A2} (hj55_1 : L2 j55_1 dj55_1) {j55_6 dj55_6 : A2} (hj55_6 : L2 j55_6 dj55_6) : L2 (b55_l1 j55_1 j55_6) (b55_l1 dj55_1 dj55_6) := fun _ _ _ =>
  bR fun _ => bR fun _ => bR fun _ => bR fun _ => bR fun _ => bR fun _ => bR fun _ => bR fun _ => bR fun _ => bR fun _ => bR fun _ => bR fun _ => bR fun _ => bK (hj55_6 _ _ _) (hj55_1 _ _ _)
noncomputable def rj55_5 : A2 := b55_5
theorem sj55_5 (H0 : Hp) : L2 (rj55_5) (j55_5 H0) := fun _ _ _ => le_eq (m55_5 _ _ _) (e55_5 H0 _ _ _)
noncomputable def rj55_4 : A4 := b55_4 rc82 (rj55_5)
theorem sj55_4 (H0 : Hp) : L4 (rj55_4) (j55_4 H0) := fun _ _ _ _ _ => le_eq (m55_4 sc82 (sj55_5 H0) _ _ _ _ _) (e55_4 H0 _ _ _ _ _)
noncomputable def rj55_3 : A5 := b55_3 (rj55_4)
theorem sj55_3 (H0 : Hp) : L5 (rj55_3) (j55_3 H0) := fun _ _ _ _ _ _ => le_eq (m55_3 (sj55_4 H0) _ _ _ _ _ _) (e55_3 H0 _ _ _ _ _ _)
noncomputable def rj55_2 : A3 := b55_2 rc81 (rj55_3)
theorem sj55_2 (H0 : Hp) : L3 (rj55_2) (j55_2 H0) := fun _ _ _ _ => le_eq (m55_2 sc81 (sj55_3 H0) _ _ _ _) (e55_2 H0 _ _ _ _)
noncomputable def rj55_1 : A2 := b55_1 (rj55_2)
theorem sj55_1 (H0 : Hp) : L2 (rj55_1) (j55_1 H0) := fun _ _ _ => le_eq (m55_1 (sj55_2 H0) _ _ _) (e55_1 H0 _ _ _)
noncomputable def rj55_6 (j55_l1 : A2) : A2 := b55_6 j55_l1
theorem sj55_6 (H0 : Hp) {yj55_l1 : A2} (hj55_l1 : L2 yj55_l1 (j55_l1 H0)) : L2 (rj55_6 yj55_l1) (j55_6 H0) := fun _ _ _ => le_eq (m55_6 hj55_l1 _ _ _) (e55_6 H0 _ _ _)
noncomputable def rj55_l1 (n : Nat) : A2 := @Nat.rec (fun _ => A2) (fun _ _ _ => none) (fun _ j55_l1 => b55_l1 (rj55_1) (rj55_6 j55_l1)) n
theorem sj55_l1 (H0 : Hp) (n : Nat) : L2 (rj55_l1 n) (j55_l1 H0) := by
  induction n with
  | zero => exact fun _ _ _ => le_none _
  | succ n hj55_l1 => exact fun _ _ _ => le_eq (m55_l1 (sj55_1 H0) (sj55_6 H0 hj55_l1) _ _ _) (e55_l1 H0 _ _ _)
noncomputable def bc55 (j55_l1 : A2) (p0 : AV) (H : Hp) : Res :=
  j55_l1 p0 (.int .i64 0) H
theorem ec55 (p0 : AV) (H : Hp) : c55 p0 H = bc55 (j55_l1 H) p0 H := (callw_cxm (C := cfg) (fn := Tryz.f55) (c := bodyOf Tryz.f55) (n := 116) [3, 4, 7, 14, 16, 19] Tryz.func55 (by kernel_rfl) (by kernel_rfl) [p0] (by kernel_rfl) H).trans (by kernel_rfl)
theorem mc55 {j55_l1 dj55_l1 : A2} (hj55_l1 : L2 j55_l1 dj55_l1) : L1 (bc55 j55_l1) (bc55 dj55_l1) := fun _ _ =>
  hj55_l1 _ _ _
noncomputable def rc55 : A1 := fun p0 H => bc55 (rj55_l1 100000) p0 H
theorem sc55 : L1 rc55 c55 := fun _ H => le_eq (mc55 (sj55_l1 H 100000) _ _) (ec55 _ _)

/-! sortkey_sign -/
noncomputable def c56 (p0 p1 : AV) (H : Hp) : Res := callw cfg 56 [p0, p1] H
noncomputable def j56_1 (H0 : Hp) (H : Hp) : Res := CXf 56 13 (sub (bodyOf Tryz.f56) [1, 1]) (retL cfg 13 56 Tryz.f56 H0) [] H
noncomputable def b56_1 (H : Hp) : Res :=
  some ((.int .i64 0), H)
theorem e56_1 (H0 : Hp) (H : Hp) : j56_1 H0 H = b56_1 H := (CXM_eq [5] _ _ _ _).trans (by kernel_rfl)
theorem m56_1 : L0 (b56_1) (b56_1) := fun _ =>
  le_refl _
noncomputable def rj56_1 : A0 := b56_1
theorem sj56_1 (H0 : Hp) : L0 (rj56_1) (j56_1 H0) := fun _ => le_eq (m56_1 _) (e56_1 H0 _)
noncomputable def bc56 (j56_1 : A0) (p0 p1 : AV) (H : Hp) : Res :=
  bnd (ibin .lss p0 p1) fun t8_1 =>
  cnd t8_1
    (some ((.int .i64 (-1)), H))
    (bnd (ibin .gtr p0 p1) fun t12_2 =>
    cnd t12_2
      (some ((.int .i64 1), H))
      (j56_1 H))
theorem ec56 (p0 p1 : AV) (H : Hp) : c56 p0 p1 H = bc56 (j56_1 H) p0 p1 H := (callw_cxm (C := cfg) (fn := Tryz.f56) (c := bodyOf Tryz.f56) (n := 13) [5] Tryz.func56 (by kernel_rfl) (by kernel_rfl) [p0, p1] (by kernel_rfl) H).trans (by kernel_rfl)
theorem mc56 {j56_1 dj56_1 : A0} (hj56_1 : L0 j56_1 dj56_1) : L2 (bc56 j56_1) (bc56 dj56_1) := fun _ _ _ =>
  bR fun _ => bK (le_refl _) (bR fun _ => bK (le_refl _) (hj56_1 _))
noncomputable def rc56 : A2 := fun p0 p1 H => bc56 (rj56_1) p0 p1 H
theorem sc56 : L2 rc56 c56 := fun _ _ H => le_eq (mc56 (sj56_1 H) _ _ _) (ec56 _ _ _)

/-! sortkey_parts -/
noncomputable def c35 (p0 p1 p2 p3 : AV) (H : Hp) : Res := callw cfg 35 [p0, p1, p2, p3] H
noncomputable def j35_2 (H0 : Hp) (x4 x5 x6 x7 x9 : AV) (H : Hp) : Res := CXf 35 50 (sub (bodyOf Tryz.f35) [1, 1, 1, 1]) (retL cfg 50 35 Tryz.f35 H0) [(4, x4), (5, x5), (6, x6), (7, x7), (9, x9)] H
noncomputable def j35_1 (H0 : Hp) (x4 x5 x6 x7 x9 : AV) (H : Hp) : Res := CXf 35 50 (sub (bodyOf Tryz.f35) [1, 1, 1]) (retL cfg 50 35 Tryz.f35 H0) [(4, x4), (5, x5), (6, x6), (7, x7), (9, x9)] H
noncomputable def b35_2 (c38 : A3) (cV : AV → List AV → Hp → Res) (x4 x5 x6 x7 x9 : AV) (H : Hp) : Res :=
  bnd (some (.fn (.func 57) [] [x5, x6, x7])) fun t36_5 =>
  bnd (cV t36_5 [(.int .i64 8), (.fn (.func 58) [] [])] H) fun r38_6 =>
  bnd (cV t36_5 [(.int .i64 16), (.fn (.func 60) [] [])] r38_6.2) fun r40_7 =>
  bnd (some (.fn (.func 61) [] [x4])) fun t42_8 =>
  bnd (cV t36_5 [(.int .i64 4), t42_8] r40_7.2) fun r43_9 =>
  bnd (aload true 6 x4 r43_9.2) fun t45_10 =>
  bnd (aload false 1 x6 r43_9.2) fun t46_11 =>
  bnd (aload false 1 x7 r43_9.2) fun t47_12 =>
  bnd (c38 t45_10 t46_11 t47_12 r43_9.2) fun r48_13 =>
  bnd (ibin .mul x9 r48_13.1) fun t49_14 =>
  some (t49_14, r48_13.2)
theorem e35_2 (H0 : Hp) (x4 x5 x6 x7 x9 : AV) (H : Hp) : j35_2 H0 x4 x5 x6 x7 x9 H = b35_2 c38 (acall cfg (callw cfg)) x4 x5 x6 x7 x9 H := (CXM_eq [4, 8] _ _ _ _).trans (by kernel_rfl)
theorem m35_2 {c38 dc38 : A3} (hc38 : L3 c38 dc38) {cV dcV : AV → List AV → Hp → Res} (hcV : LV cV dcV) : L5 (b35_2 c38 cV) (b35_2 dc38 dcV) := fun _ _ _ _ _ _ =>
  bR fun _ => bC (hcV _ _ _) fun _ => bC (hcV _ _ _) fun _ => bR fun _ => bC (hcV _ _ _) fun _ => bR fun _ => bR fun _ => bR fun _ => bC (hc38 _ _ _ _) fun _ => bR fun _ => le_refl _
noncomputable def b35_1 (c55 : A1) (c56 : A2) (j35_2 : A5) (x4 x5 x6 x7 x9 : AV) (H : Hp) : Res :=
  bnd (aload false 1 x5 H) fun t18_15 =>
  bnd (ibin .and t18_15 (.int .i64 1)) fun t19_16 =>
  bnd (ibin .neq t19_16 (.int .i64 0)) fun t20_17 =>
  cnd t20_17
    (bnd (aload false 1 x6 H) fun t22_18 =>
    bnd (c55 t22_18 H) fun r23_19 =>
    bnd (aext r23_19.1 0) fun t24_20 =>
    bnd (aext r23_19.1 1) fun t25_21 =>
    bnd (aload false 1 x7 r23_19.2) fun t27_22 =>
    bnd (c55 t27_22 r23_19.2) fun r28_23 =>
    bnd (aext r28_23.1 0) fun t29_24 =>
    bnd (aext r28_23.1 1) fun t30_25 =>
    bnd (c56 t24_20 t29_24 r28_23.2) fun r34_26 =>
    bnd (ibin .mul x9 r34_26.1) fun t35_27 =>
    some (t35_27, r34_26.2))
    (j35_2 x4 x5 x6 x7 x9 H)
theorem e35_1 (H0 : Hp) (x4 x5 x6 x7 x9 : AV) (H : Hp) : j35_1 H0 x4 x5 x6 x7 x9 H = b35_1 c55 c56 (j35_2 H0) x4 x5 x6 x7 x9 H := (CXM_eq [4, 8] _ _ _ _).trans (by kernel_rfl)
theorem m35_1 {c55 dc55 : A1} (hc55 : L1 c55 dc55) {c56 dc56 : A2} (hc56 : L2 c56 dc56) {j35_2 dj35_2 : A5} (hj35_2 : L5 j35_2 dj35_2) : L5 (b35_1 c55 c56 j35_2) (b35_1 dc55 dc56 dj35_2) := fun _ _ _ _ _ _ =>
  bR fun _ => bR fun _ => bR fun _ => bK (bR fun _ => bC (hc55 _ _) fun _ => bR fun _ => bR fun _ => bR fun _ => bC (hc55 _ _) fun _ => bR fun _ => bR fun _ => bC (hc56 _ _ _) fun _ => bR fun _ => le_refl _) (hj35_2 _ _ _ _ _ _)
noncomputable def rj35_2 (gV : AV → List AV → Hp → Res) : A5 := b35_2 (rc38 gV) gV
theorem sj35_2 (H0 : Hp) {gV : AV → List AV → Hp → Res} (hV : LV gV (acall cfg (callw cfg))) : L5 (rj35_2 gV) (j35_2 H0) := fun _ _ _ _ _ _ => le_eq (m35_2 (sc38 hV) hV _ _ _ _ _ _) (e35_2 H0 _ _ _ _ _ _)
noncomputable def rj35_1 (gV : AV → List AV → Hp → Res) : A5 := b35_1 rc55 rc56 (rj35_2 gV)
theorem sj35_1 (H0 : Hp) {gV : AV → List AV → Hp → Res} (hV : LV gV (acall cfg (callw cfg))) : L5 (rj35_1 gV) (j35_1 H0) := fun _ _ _ _ _ _ => le_eq (m35_1 sc55 sc56 (sj35_2 H0 hV) _ _ _ _ _ _) (e35_1 H0 _ _ _ _ _ _)
noncomputable def bc35 (j35_1 : A5) (p0 p1 p2 p3 : AV) (H : Hp) : Res :=
  bnd (abox p0 H) fun r4_1 =>
  bnd (abox p1 r4_1.2) fun r5_2 =>
  bnd (abox p2 r5_2.2) fun r6_3 =>
  bnd (abox p3 r6_3.2) fun r7_4 =>
  bnd (aload false 1 r5_2.1 r7_4.2) fun t15_28 =>
  bnd (ibin .and t15_28 (.int .i64 2)) fun t16_29 =>
  bnd (ibin .neq t16_29 (.int .i64 0)) fun t17_30 =>
  cnd t17_30
    (j35_1 r4_1.1 r5_2.1 r6_3.1 r7_4.1 (.int .i64 (-1)) r7_4.2)
    (j35_1 r4_1.1 r5_2.1 r6_3.1 r7_4.1 (.int .i64 1) r7_4.2)
theorem ec35 (p0 p1 p2 p3 : AV) (H : Hp) : c35 p0 p1 p2 p3 H = bc35 (j35_1 H) p0 p1 p2 p3 H := (callw_cxm (C := cfg) (fn := Tryz.f35) (c := bodyOf Tryz.f35) (n := 50) [4, 8] Tryz.func35 (by kernel_rfl) (by kernel_rfl) [p0, p1, p2, p3] (by kernel_rfl) H).trans (by kernel_rfl)
theorem mc35 {j35_1 dj35_1 : A5} (hj35_1 : L5 j35_1 dj35_1) : L4 (bc35 j35_1) (bc35 dj35_1) := fun _ _ _ _ _ =>
  bR fun _ => bR fun _ => bR fun _ => bR fun _ => bR fun _ => bR fun _ => bR fun _ => bK (hj35_1 _ _ _ _ _ _) (hj35_1 _ _ _ _ _ _)
noncomputable def rc35 (gV : AV → List AV → Hp → Res) : A4 := fun p0 p1 p2 p3 H => bc35 (rj35_1 gV) p0 p1 p2 p3 H
theorem sc35 {gV : AV → List AV → Hp → Res} (hV : LV gV (acall cfg (callw cfg))) : L4 (rc35 gV) c35 := fun _ _ _ _ H => le_eq (mc35 (sj35_1 H hV) _ _ _ _ _) (ec35 _ _ _ _ _)

/-! sortkey_Compare -/
noncomputable def c18 (p0 p1 p2 p3 : AV) (H : Hp) : Res := callw cfg 18 [p0, p1, p2, p3] H
noncomputable def j18_2 (H0 : Hp) (H : Hp) : Res := CXf 18 55 (sub (bodyOf Tryz.f18) [1, 1, 1, 1]) (retL cfg 55 18 Tryz.f18 H0) [] H
noncomputable def k18_1 (H0 : Hp) : KL := seqL (fun k al H => CXf 18 55 (sub (bodyOf Tryz.f18) [1, 1, 1, 1]) k (trimL (cfg.keep 18) (sub (bodyOf Tryz.f18) [1, 1, 1, 1]) al) H) (retL cfg 55 18 Tryz.f18 H0)
theorem k18_1_tame (H0 : Hp) : Tame 55 (k18_1 H0) := tame_seq (C := cfg) (kp := cfg.keep 18) (sub (bodyOf Tryz.f18) [1, 1, 1, 1]) (tame_ret 18 Tryz.f18 H0)
noncomputable def j18_4 (H0 : Hp) (x2 x3 x4 x5 x26 x27 x28 : AV) (H : Hp) : Res := CXf 18 55 (sub (bodyOf Tryz.f18) [1, 1, 1, 0, 1, 0, 0, 1, 1, 1]) (seqL (fun k al H => LPf 18 55 (sub (bodyOf Tryz.f18) [1, 1, 1, 0, 1, 0, 0]) k (trimL (cfg.keep 18) (sub (bodyOf Tryz.f18) [1, 1, 1, 0, 1, 0, 0]) al) H) (blockL 0 (k18_1 H0))) [(2, x2), (3, x3), (4, x4), (5, x5), (26, x26), (27, x27), (28, x28)] H
noncomputable def k18_2 (H0 : Hp) : KL := seqL (fun k al H => CXf 18 55 (sub (bodyOf Tryz.f18) [1, 1, 1, 0, 1, 0, 0, 1, 1, 1]) k (trimL (cfg.keep 18) (sub (bodyOf Tryz.f18) [1, 1, 1, 0, 1, 0, 0, 1, 1, 1]) al) H) (seqL (fun k al H => LPf 18 55 (sub (bodyOf Tryz.f18) [1, 1, 1, 0, 1, 0, 0]) k (trimL (cfg.keep 18) (sub (bodyOf Tryz.f18) [1, 1, 1, 0, 1, 0, 0]) al) H) (blockL 0 (k18_1 H0)))
noncomputable def j18_5 (H0 : Hp) (x2 x3 x4 x5 x10 x11 x26 x27 x28 : AV) (H : Hp) : Res := CXf 18 55 (sub (bodyOf Tryz.f18) [1, 1, 1, 0, 1, 0, 0, 1, 1, 0, 0, 1, 1, 1]) (blockL 1 (k18_2 H0)) [(2, x2), (3, x3), (4, x4), (5, x5), (10, x10), (11, x11), (26, x26), (27, x27), (28, x28)] H
noncomputable def j18_3 (H0 : Hp) (x2 x3 x4 x5 x26 x27 x28 x29 : AV) (H : Hp) : Res := CXf 18 55 (sub (bodyOf Tryz.f18) [1, 1, 1, 0, 1, 0, 0, 1, 1]) (seqL (fun k al H => LPf 18 55 (sub (bodyOf Tryz.f18) [1, 1, 1, 0, 1, 0, 0]) k (trimL (cfg.keep 18) (sub (bodyOf Tryz.f18) [1, 1, 1, 0, 1, 0, 0]) al) H) (blockL 0 (k18_1 H0))) [(2, x2), (3, x3), (4, x4), (5, x5), (26, x26), (27, x27), (28, x28), (29, x29)] H
noncomputable def j18_l1 (H0 : Hp) (x2 x3 x4 x5 x26 x27 x28 : AV) (H : Hp) : Res := LPf 18 55 (sub (bodyOf Tryz.f18) [1, 1, 1, 0, 1, 0, 0]) (blockL 0 (k18_1 H0)) [(2, x2), (3, x3), (4, x4), (5, x5), (26, x26), (27, x27), (28, x28)] H
noncomputable def j18_1 (H0 : Hp) (x2 x3 x4 x5 : AV) (H : Hp) : Res := CXf 18 55 (sub (bodyOf Tryz.f18) [1, 1, 1]) (retL cfg 55 18 Tryz.f18 H0) [(2, x2), (3, x3), (4, x4), (5, x5)] H
noncomputable def b18_2 (H : Hp) : Res :=
  some ((.int .i64 0), H)
theorem e18_2 (H0 : Hp) (H : Hp) : j18_2 H0 H = b18_2 H := (CXM_eq [4, 6, 10, 13, 14] _ _ _ _).trans (by kernel_rfl)
theorem m18_2 : L0 (b18_2) (b18_2) := fun _ =>
  le_refl _
noncomputable def b18_4 (j18_l1 : A7) (x2 x3 x4 x5 x26 x27 x28 : AV) (H : Hp) : Res :=
  bnd (ibin .add x28 (.int .i64 1)) fun t54_10 =>
  j18_l1 x2 x3 x4 x5 x26 x27 t54_10 H
theorem e18_4 (H0 : Hp) (x2 x3 x4 x5 x26 x27 x28 : AV) (H : Hp) : j18_4 H0 x2 x3 x4 x5 x26 x27 x28 H = b18_4 (j18_l1 H0) x2 x3 x4 x5 x26 x27 x28 H := (CXM_eq [4, 6, 10, 13, 14] _ _ _ _).trans (by kernel_rfl)
theorem m18_4 {j18_l1 dj18_l1 : A7} (hj18_l1 : L7 j18_l1 dj18_l1) : L7 (b18_4 j18_l1) (b18_4 dj18_l1) := fun _ _ _ _ _ _ _ _ =>
  bR fun _ => hj18_l1 _ _ _ _ _ _ _ _
noncomputable def b18_5 (c16 : A3) (c35 : A4) (j18_4 : A7) (x2 x3 x4 x5 x10 x11 x26 x27 x28 : AV) (H : Hp) : Res :=
  frzK x4 H fun z4_17 z4_17H =>
  frzK x5 z4_17H fun z5_18 z5_18H =>
  frzK x10 z5_18H fun z10_19 z10_19H =>
  bnd (aloadv true 6 z4_17) fun t38_20 =>
  bnd (aload true 5 z10_19 z10_19H) fun t41_21 =>
  bnd (afield 1 z5_18) fun t42_22 =>
  bnd (aload false 1 t42_22 z10_19H) fun t43_23 =>
  bnd (c16 x2 t41_21 t43_23 z10_19H) fun r44_24 =>
  bnd (aloadv true 5 z10_19) fun t46_25 =>
  bnd (afield 1 z5_18) fun t47_26 =>
  bnd (aloadv false 1 t47_26) fun t48_27 =>
  bnd (c16 x3 t46_25 t48_27 r44_24.2) fun r49_28 =>
  bnd (c35 t38_20 x11 r44_24.1 r49_28.1 r49_28.2) fun r50_29 =>
  bnd (ibin .neq r50_29.1 (.int .i64 0)) fun t52_30 =>
  cnd t52_30
    (some (r50_29.1, r50_29.2))
    (j18_4 x2 x3 z4_17 z5_18 x26 x27 x28 r50_29.2)
theorem e18_5 (H0 : Hp) (x2 x3 x4 x5 x10 x11 x26 x27 x28 : AV) (H : Hp) : j18_5 H0 x2 x3 x4 x5 x10 x11 x26 x27 x28 H = b18_5 c16 c35 (j18_4 H0) x2 x3 x4 x5 x10 x11 x26 x27 x28 H := (CXM_eq [4, 6, 10, 13, 14] _ _ _ _).trans (by kernel_rfl)
theorem m18_5 {c16 dc16 : A3} (hc16 : L3 c16 dc16) {c35 dc35 : A4} (hc35 : L4 c35 dc35) {j18_4 dj18_4 : A7} (hj18_4 : L7 j18_4 dj18_4) : L9 (b18_5 c16 c35 j18_4) (b18_5 dc16 dc35 dj18_4) := fun _ _ _ _ _ _ _ _ _ _ =>
  bF fun _ _ => bF fun _ _ => bF fun _ _ => bR fun _ => bR fun _ => bR fun _ => bR fun _ => bC (hc16 _ _ _ _) fun _ => bR fun _ => bR fun _ => bR fun _ => bC (hc16 _ _ _ _) fun _ => bC (hc35 _ _ _ _ _) fun _ => bR fun _ => bK (le_refl _) (hj18_4 _ _ _ _ _ _ _ _)
noncomputable def b18_3 (j18_5 : A9) (x2 x3 x4 x5 x26 x27 x28 x29 : AV) (H : Hp) : Res :=
  bnd (aindexS 5 x26 x28) fun t30_11 =>
  bnd (aload true 5 t30_11 H) fun t31_12 =>
  bnd (some ((.ptr H.length 0), H ++ [.cells [(.int .i64 0), (.int .i64 0), (.int .i64 0), (.int .i64 0), (.int .i64 0)]])) fun r10_13 =>
  bnd (astoreU 5 r10_13.1 t31_12 r10_13.2) fun r_14 =>
  bnd (afield 4 r10_13.1) fun t32_15 =>
  bnd (aload false 1 t32_15 r_14.2) fun t33_16 =>
  bnd (ibin .eql t33_16 (.int .i64 0)) fun t35_31 =>
  cnd t35_31
    (bnd (afield 2 x5) fun t36_32 =>
    bnd (aload false 1 t36_32 r_14.2) fun t37_33 =>
    j18_5 x2 x3 x4 x5 r10_13.1 t37_33 x26 x27 x28 r_14.2)
    (j18_5 x2 x3 x4 x5 r10_13.1 t33_16 x26 x27 x28 r_14.2)
theorem e18_3 (H0 : Hp) (x2 x3 x4 x5 x26 x27 x28 x29 : AV) (H : Hp) : j18_3 H0 x2 x3 x4 x5 x26 x27 x28 x29 H = b18_3 (j18_5 H0) x2 x3 x4 x5 x26 x27 x28 x29 H := (CXM_eq [4, 6, 10, 13, 14] _ _ _ _).trans (by kernel_rfl)
theorem m18_3 {j18_5 dj18_5 : A9} (hj18_5 : L9 j18_5 dj18_5) : L8 (b18_3 j18_5) (b18_3 dj18_5) := fun _ _ _ _ _ _ _ _ _ =>
  bR fun _ => bR fun _ => bR fun _ => bR fun _ => bR fun _ => bR fun _ => bR fun _ => bK (bR fun _ => bR fun _ => hj18_5 _ _ _ _ _ _ _ _ _ _) (hj18_5 _ _ _ _ _ _ _ _ _ _)
noncomputable def b18_l1 (j18_2 : A0) (j18_3 : A8) (x2 x3 x4 x5 x26 x27 x28 : AV) (H : Hp) : Res :=
  bnd (ibin .lss x28 x27) fun t29_9 =>
  cnd t29_9
    (j18_3 x2 x3 x4 x5 x26 x27 x28 t29_9 H)
    (j18_2 H)
theorem e18_l1 (H0 : Hp) (x2 x3 x4 x5 x26 x27 x28 : AV) (H : Hp) : j18_l1 H0 x2 x3 x4 x5 x26 x27 x28 H = b18_l1 (j18_2 H0) (j18_3 H0) x2 x3 x4 x5 x26 x27 x28 H := (LPL_eqm (C := cfg) [4, 6, 10, 13, 14] (tame_block 0 (k18_1_tame H0)) _ _).trans (by kernel_rfl)
theorem m18_l1 {j18_2 dj18_2 : A0} (hj18_2 : L0 j18_2 dj18_2) {j18_3 dj18_3 : A8} (hj18_3 : L8 j18_3 dj18_3) : L7 (b18_l1 j18_2 j18_3) (b18_l1 dj18_2 dj18_3) := fun _ _ _ _ _ _ _ _ =>
  bR fun _ => bK (hj18_3 _ _ _ _ _ _ _ _ _) (hj18_2 _)
noncomputable def b18_1 (j18_l1 : A7) (x2 x3 x4 x5 : AV) (H : Hp) : Res :=
  bnd (afield 0 x5) fun t25_6 =>
  bnd (aload false 1 t25_6 H) fun t26_7 =>
  bnd (alenD (.slice 34) t26_7) fun t27_8 =>
  j18_l1 x2 x3 x4 x5 t26_7 t27_8 (.int .i64 0) H
theorem e18_1 (H0 : Hp) (x2 x3 x4 x5 : AV) (H : Hp) : j18_1 H0 x2 x3 x4 x5 H = b18_1 (j18_l1 H0) x2 x3 x4 x5 H := (CXM_eq [4, 6, 10, 13, 14] _ _ _ _).trans (by kernel_rfl)
theorem m18_1 {j18_l1 dj18_l1 : A7} (hj18_l1 : L7 j18_l1 dj18_l1) : L4 (b18_1 j18_l1) (b18_1 dj18_l1) := fun _ _ _ _ _ =>
  bR fun _ => bR fun _ => bR fun _ => hj18_l1 _ _ _ _ _ _ _ _
noncomputable def rj18_2 (gV : AV → List AV → Hp → Res) : A0 := b18_2
theorem sj18_2 (H0 : Hp) {gV : AV → List AV → Hp → Res} (hV : LV gV (acall cfg (callw cfg))) : L0 (rj18_2 gV) (j18_2 H0) := fun _ => le_eq (m18_2 _) (e18_2 H0 _)
noncomputable def rj18_4 (gV : AV → List AV → Hp → Res) (j18_l1 : A7) : A7 := b18_4 j18_l1
theorem sj18_4 (H0 : Hp) {gV : AV → List AV → Hp → Res} (hV : LV gV (acall cfg (callw cfg))) {yj18_l1 : A7} (hj18_l1 : L7 yj18_l1 (j18_l1 H0)) : L7 (rj18_4 gV yj18_l1) (j18_4 H0) := fun _ _ _ _ _ _ _ _ => le_eq (m18_4 hj18_l1 _ _ _ _ _ _ _ _) (e18_4 H0 _ _ _ _ _ _ _ _)
noncomputable def rj18_5 (gV : AV → List AV → Hp → Res) (j18_l1 : A7) : A9 := b18_5 rc16 (rc35 gV) (rj18_4 gV j18_l1)
theorem sj18_5 (H0 : Hp) {gV : AV → List AV → Hp → Res} (hV : LV gV (acall cfg (callw cfg))) {yj18_l1 : A7} (hj18_l1 : L7 yj18_l1 (j18_l1 H0)) : L9 (rj18_5 gV yj18_l1) (j18_5 H0) := fun _ _ _ _ _ _ _ _ _ _ => le_eq (m18_5 sc16 (sc35 hV) (sj18_4 H0 hV hj18_l1) _ _ _ _ _ _ _ _ _ _) (e18_5 H0 _ _ _ _ _ _ _ _ _ _)
noncomputable def rj18_3 (gV : AV → List AV → Hp → Res) (j18_l1 : A7) : A8 := b18_3 (rj18_5 gV j18_l1)
theorem sj18_3 (H0 : Hp) {gV : AV → List AV → Hp → Res} (hV : LV gV (acall cfg (callw cfg))) {yj18_l1 : A7} (hj18_l1 : L7 yj18_l1 (j18_l1 H0)) : L8 (rj18_3 gV yj18_l1) (j18_3 H0) := fun _ _ _ _ _ _ _ _ _ => le_eq (m18_3 (sj18_5 H0 hV hj18_l1) _ _ _ _ _ _ _ _ _) (e18_3 H0 _ _ _ _ _ _ _ _ _)
noncomputable def rj18_l1 (gV : AV → List AV → Hp → Res) (n : Nat) : A7 := @Nat.rec (fun _ => A7) (fun _ _ _ _ _ _ _ _ => none) (fun _ j18_l1 => b18_l1 (rj18_2 gV) (rj18_3 gV j18_l1)) n
theorem sj18_l1 (H0 : Hp) {gV : AV → List AV → Hp → Res} (hV : LV gV (acall cfg (callw cfg))) (n : Nat) : L7 (rj18_l1 gV n) (j18_l1 H0) := by
  induction n with
  | zero => exact fun _ _ _ _ _ _ _ _ => le_none _
  | succ n hj18_l1 => exact fun _ _ _ _ _ _ _ _ => le_eq (m18_l1 (sj18_2 H0 hV) (sj18_3 H0 hV hj18_l1) _ _ _ _ _ _ _ _) (e18_l1 H0 _ _ _ _ _ _ _ _)
noncomputable def rj18_1 (gV : AV → List AV → Hp → Res) : A4 := b18_1 (rj18_l1 gV 100000)
theorem sj18_1 (H0 : Hp) {gV : AV → List AV → Hp → Res} (hV : LV gV (acall cfg (callw cfg))) : L4 (rj18_1 gV) (j18_1 H0) := fun _ _ _ _ _ => le_eq (m18_1 (sj18_l1 H0 hV 100000) _ _ _ _ _) (e18_1 H0 _ _ _ _ _)
noncomputable def bc18 (c34 : A1) (c35 : A4) (j18_1 : A4) (p0 p1 p2 p3 : AV) (H : Hp) : Res :=
  bnd (abox p0 H) fun r4_1 =>
  bnd (abox p1 r4_1.2) fun r5_2 =>
  bnd (aload true 5 r5_2.1 r5_2.2) fun t13_3 =>
  bnd (c34 t13_3 r5_2.2) fun r14_4 =>
  bnd (astoreU 5 r5_2.1 r14_4.1 r14_4.2) fun r_5 =>
  bnd (afield 0 r5_2.1) fun t15_34 =>
  bnd (aload false 1 t15_34 r_5.2) fun t16_35 =>
  bnd (alenD (.slice 34) t16_35) fun t17_36 =>
  bnd (ibin .eql t17_36 (.int .i64 0)) fun t18_37 =>
  cnd t18_37
    (bnd (aload true 6 r4_1.1 r_5.2) fun t19_38 =>
    bnd (afield 2 r5_2.1) fun t20_39 =>
    bnd (aload false 1 t20_39 r_5.2) fun t21_40 =>
    bnd (c35 t19_38 t21_40 p2 p3 r_5.2) fun r24_41 =>
    some (r24_41.1, r24_41.2))
    (j18_1 p2 p3 r4_1.1 r5_2.1 r_5.2)
theorem ec18 (p0 p1 p2 p3 : AV) (H : Hp) : c18 p0 p1 p2 p3 H = bc18 c34 c35 (j18_1 H) p0 p1 p2 p3 H := (callw_cxm (C := cfg) (fn := Tryz.f18) (c := bodyOf Tryz.f18) (n := 55) [4, 6, 10, 13, 14] Tryz.func18 (by kernel_rfl) (by kernel_rfl) [p0, p1, p2, p3] (by kernel_rfl) H).trans (by kernel_rfl)
theorem mc18 {c34 dc34 : A1} (hc34 : L1 c34 dc34) {c35 dc35 : A4} (hc35 : L4 c35 dc35) {j18_1 dj18_1 : A4} (hj18_1 : L4 j18_1 dj18_1) : L4 (bc18 c34 c35 j18_1) (bc18 dc34 dc35 dj18_1) := fun _ _ _ _ _ =>
  bR fun _ => bR fun _ => bR fun _ => bC (hc34 _ _) fun _ => bR fun _ => bR fun _ => bR fun _ => bR fun _ => bR fun _ => bK (bR fun _ => bR fun _ => bR fun _ => bC (hc35 _ _ _ _ _) fun _ => le_refl _) (hj18_1 _ _ _ _ _)
noncomputable def rc18 (gV : AV → List AV → Hp → Res) : A4 := fun p0 p1 p2 p3 H => bc18 rc34 (rc35 gV) (rj18_1 gV) p0 p1 p2 p3 H
theorem sc18 {gV : AV → List AV → Hp → Res} (hV : LV gV (acall cfg (callw cfg))) : L4 (rc18 gV) c18 := fun _ _ _ _ H => le_eq (mc18 sc34 (sc35 hV) (sj18_1 H hV) _ _ _ _ _) (ec18 _ _ _ _ _)

/-! sortkey_Order -/
noncomputable def c20 (p0 p1 p2 p3 : AV) (H : Hp) : Res := callw cfg 20 [p0, p1, p2, p3] H
noncomputable def j20_2 (H0 : Hp) (x9 : AV) (H : Hp) : Res := CXf 20 39 (sub (bodyOf Tryz.f20) [1, 1, 1, 1, 1, 1]) (retL cfg 39 20 Tryz.f20 H0) [(9, x9)] H
noncomputable def j20_1 (H0 : Hp) (x2 x3 x4 x5 : AV) (H : Hp) : Res := CXf 20 39 (sub (bodyOf Tryz.f20) [1, 1, 1, 1]) (retL cfg 39 20 Tryz.f20 H0) [(2, x2), (3, x3), (4, x4), (5, x5)] H
noncomputable def b20_2 (x9 : AV) (H : Hp) : Res :=
  some (x9, H)
theorem e20_2 (H0 : Hp) (x9 : AV) (H : Hp) : j20_2 H0 x9 H = b20_2 x9 H := (CXM_eq [5, 8] _ _ _ _).trans (by kernel_rfl)
theorem m20_2 : L1 (b20_2) (b20_2) := fun _ _ =>
  le_refl _
noncomputable def b20_1 (c38 : A3) (j20_2 : A1) (x2 x3 x4 x5 : AV) (H : Hp) : Res :=
  bnd (aload true 6 x4 H) fun t28_9 =>
  bnd (c38 t28_9 x2 x3 H) fun r31_10 =>
  bnd (afield 2 x5) fun t32_11 =>
  bnd (aload false 1 t32_11 r31_10.2) fun t33_12 =>
  bnd (ibin .and t33_12 (.int .i64 2)) fun t34_13 =>
  bnd (ibin .neq t34_13 (.int .i64 0)) fun t35_14 =>
  cnd t35_14
    (bnd (aun .neg r31_10.1) fun t37_15 =>
    some (t37_15, r31_10.2))
    (j20_2 r31_10.1 r31_10.2)
theorem e20_1 (H0 : Hp) (x2 x3 x4 x5 : AV) (H : Hp) : j20_1 H0 x2 x3 x4 x5 H = b20_1 c38 (j20_2 H0) x2 x3 x4 x5 H := (CXM_eq [5, 8] _ _ _ _).trans (by kernel_rfl)
theorem m20_1 {c38 dc38 : A3} (hc38 : L3 c38 dc38) {j20_2 dj20_2 : A1} (hj20_2 : L1 j20_2 dj20_2) : L4 (b20_1 c38 j20_2) (b20_1 dc38 dj20_2) := fun _ _ _ _ _ =>
  bR fun _ => bC (hc38 _ _ _ _) fun _ => bR fun _ => bR fun _ => bR fun _ => bR fun _ => bK (bR fun _ => le_refl _) (hj20_2 _ _)
noncomputable def rj20_2 (gV : AV → List AV → Hp → Res) : A1 := b20_2
theorem sj20_2 (H0 : Hp) {gV : AV → List AV → Hp → Res} (hV : LV gV (acall cfg (callw cfg))) : L1 (rj20_2 gV) (j20_2 H0) := fun _ _ => le_eq (m20_2 _ _) (e20_2 H0 _ _)
noncomputable def rj20_1 (gV : AV → List AV → Hp → Res) : A4 := b20_1 (rc38 gV) (rj20_2 gV)
theorem sj20_1 (H0 : Hp) {gV : AV → List AV → Hp → Res} (hV : LV gV (acall cfg (callw cfg))) : L4 (rj20_1 gV) (j20_1 H0) := fun _ _ _ _ _ => le_eq (m20_1 (sc38 hV) (sj20_2 H0 hV) _ _ _ _ _) (e20_1 H0 _ _ _ _ _)
noncomputable def bc20 (c18 : A4) (c34 : A1) (j20_1 : A4) (p0 p1 p2 p3 : AV) (H : Hp) : Res :=
  bnd (abox p0 H) fun r4_1 =>
  bnd (abox p1 r4_1.2) fun r5_2 =>
  bnd (aload true 5 r5_2.1 r5_2.2) fun t10_3 =>
  bnd (c34 t10_3 r5_2.2) fun r11_4 =>
  bnd (astoreU 5 r5_2.1 r11_4.1 r11_4.2) fun r_5 =>
  bnd (aload true 6 r4_1.1 r_5.2) fun t12_6 =>
  bnd (aload true 5 r5_2.1 r_5.2) fun t13_7 =>
  bnd (c18 t12_6 t13_7 p2 p3 r_5.2) fun r16_8 =>
  bnd (ibin .neq r16_8.1 (.int .i64 0)) fun t18_16 =>
  bnd (gdv t18_16 false (.tuple []) (afield 4 r5_2.1)) fun t20_17 =>
  bnd (gdv t18_16 false (.tuple []) (aload false 1 t20_17 r16_8.2)) fun t21_18 =>
  bnd (apick t18_16 (.bool true) t21_18) fun t22_19 =>
  bnd (gdv t22_19 false (.tuple []) (afield 3 r5_2.1)) fun t24_20 =>
  bnd (gdv t22_19 false (.tuple []) (aload false 1 t24_20 r16_8.2)) fun t25_21 =>
  bnd (apick t22_19 (.bool true) t25_21) fun t26_22 =>
  cnd t26_22
    (some (r16_8.1, r16_8.2))
    (j20_1 p2 p3 r4_1.1 r5_2.1 r16_8.2)
theorem ec20 (p0 p1 p2 p3 : AV) (H : Hp) : c20 p0 p1 p2 p3 H = bc20 c18 c34 (j20_1 H) p0 p1 p2 p3 H := (callw_cxm (C := cfg) (fn := Tryz.f20) (c := bodyOf Tryz.f20) (n := 39) [5, 8] Tryz.func20 (by kernel_rfl) (by kernel_rfl) [p0, p1, p2, p3] (by kernel_rfl) H).trans (by kernel_rfl)
theorem mc20 {c18 dc18 : A4} (hc18 : L4 c18 dc18) {c34 dc34 : A1} (hc34 : L1 c34 dc34) {j20_1 dj20_1 : A4} (hj20_1 : L4 j20_1 dj20_1) : L4 (bc20 c18 c34 j20_1) (bc20 dc18 dc34 dj20_1) := fun _ _ _ _ _ =>
  bR fun _ => bR fun _ => bR fun _ => bC (hc34 _ _) fun _ => bR fun _ => bR fun _ => bR fun _ => bC (hc18 _ _ _ _ _) fun _ => bR fun _ => bR fun _ => bR fun _ => bR fun _ => bR fun _ => bR fun _ => bR fun _ => bK (le_refl _) (hj20_1 _ _ _ _ _)
noncomputable def rc20 (gV : AV → List AV → Hp → Res) : A4 := fun p0 p1 p2 p3 H => bc20 (rc18 gV) rc34 (rj20_1 gV) p0 p1 p2 p3 H
theorem sc20 {gV : AV → List AV → Hp → Res} (hV : LV gV (acall cfg (callw cfg))) : L4 (rc20 gV) c20 := fun _ _ _ _ H => le_eq (mc20 (sc18 hV) sc34 (sj20_1 H hV) _ _ _ _ _) (ec20 _ _ _ _ _)

/-! texttoolsref05_Default -/
noncomputable def c29 (H : Hp) : Res := callw cfg 29 [] H
noncomputable def j29_1 (H0 : Hp) (x0 x1 x2 x3 : AV) (H : Hp) : Res := CXf 29 55 (sub (bodyOf Tryz.f29) [1, 1, 1, 1]) (retL cfg 55 29 Tryz.f29 H0) [(0, x0), (1, x1), (2, x2), (3, x3)] H
noncomputable def k29_1 (H0 : Hp) : KL := seqL (fun k al H => CXf 29 55 (sub (bodyOf Tryz.f29) [1, 1, 1, 1]) k (trimL (cfg.keep 29) (sub (bodyOf Tryz.f29) [1, 1, 1, 1]) al) H) (retL cfg 55 29 Tryz.f29 H0)
theorem k29_1_tame (H0 : Hp) : Tame 55 (k29_1 H0) := tame_seq (C := cfg) (kp := cfg.keep 29) (sub (bodyOf Tryz.f29) [1, 1, 1, 1]) (tame_ret 29 Tryz.f29 H0)
noncomputable def j29_3 (H0 : Hp) (x0 x1 x2 x3 x4 : AV) (H : Hp) : Res := CXf 29 55 (sub (bodyOf Tryz.f29) [1, 1, 1, 0, 1, 0, 0, 1, 1]) (seqL (fun k al H => LPf 29 55 (sub (bodyOf Tryz.f29) [1, 1, 1, 0, 1, 0, 0]) k (trimL (cfg.keep 29) (sub (bodyOf Tryz.f29) [1, 1, 1, 0, 1, 0, 0]) al) H) (blockL 0 (k29_1 H0))) [(0, x0), (1, x1), (2, x2), (3, x3), (4, x4)] H
noncomputable def k29_2 (H0 : Hp) : KL := seqL (fun k al H => CXf 29 55 (sub (bodyOf Tryz.f29) [1, 1, 1, 0, 1, 0, 0, 1, 1]) k (trimL (cfg.keep 29) (sub (bodyOf Tryz.f29) [1, 1, 1, 0, 1, 0, 0, 1, 1]) al) H) (seqL (fun k al H => LPf 29 55 (sub (bodyOf Tryz.f29) [1, 1, 1, 0, 1, 0, 0]) k (trimL (cfg.keep 29) (sub (bodyOf Tryz.f29) [1, 1, 1, 0, 1, 0, 0]) al) H) (blockL 0 (k29_1 H0)))
noncomputable def j29_5 (H0 : Hp) (x0 x1 x2 x3 x4 x5 x6 : AV) (H : Hp) : Res := CXf 29 55 (sub (bodyOf Tryz.f29) [1, 1, 1, 0, 1, 0, 0, 1, 0, 0, 1, 1, 1]) (blockL 1 (k29_2 H0)) [(0, x0), (1, x1), (2, x2), (3, x3), (4, x4), (5, x5), (6, x6)] H
noncomputable def j29_4 (H0 : Hp) (x0 x1 x2 x3 x4 x5 x6 : AV) (H : Hp) : Res := CXf 29 55 (sub (bodyOf Tryz.f29) [1, 1, 1, 0, 1, 0, 0, 1, 0, 0, 1, 1]) (blockL 1 (k29_2 H0)) [(0, x0), (1, x1), (2, x2), (3, x3), (4, x4), (5, x5), (6, x6)] H
noncomputable def j29_2 (H0 : Hp) (x0 x1 x2 x3 x4 : AV) (H : Hp) : Res := CXf 29 55 (sub (bodyOf Tryz.f29) [1, 1, 1, 0, 1, 0, 0, 1]) (seqL (fun k al H => LPf 29 55 (sub (bodyOf Tryz.f29) [1, 1, 1, 0, 1, 0, 0]) k (trimL (cfg.keep 29) (sub (bodyOf Tryz.f29) [1, 1, 1, 0, 1, 0, 0]) al) H) (blockL 0 (k29_1 H0))) [(0, x0), (1, x1), (2, x2), (3, x3), (4, x4)] H
noncomputable def j29_l1 (H0 : Hp) (x0 x1 x2 x3 x4 : AV) (H : Hp) : Res := LPf 29 55 (sub (bodyOf Tryz.f29) [1, 1, 1, 0, 1, 0, 0]) (blockL 0 (k29_1 H0)) [(0, x0), (1, x1), (2, x2), (3, x3), (4, x4)] H
noncomputable def b29_1 (x0 x1 x2 x3 : AV) (H : Hp) : Res :=
  bnd (cvOfBytes x2) fun t49_5 =>
  bnd (afield 2 x1) fun t50_6 =>
  bnd (astoreU 1 t50_6 t49_5 H) fun r_7 =>
  bnd (cvOfBytes x3) fun t52_8 =>
  bnd (afield 3 x1) fun t53_9 =>
  bnd (astoreU 1 t53_9 t52_8 r_7.2) fun r_10 =>
  bnd (aload true 6 x1 r_10.2) fun t54_11 =>
  bnd (astoreU 6 x0 t54_11 r_10.2) fun r_12 =>
  bnd (aload true 6 x0 r_12.2) fun v0_13 =>
  some (v0_13, r_12.2)
theorem e29_1 (H0 : Hp) (x0 x1 x2 x3 : AV) (H : Hp) : j29_1 H0 x0 x1 x2 x3 H = b29_1 x0 x1 x2 x3 H := (CXM_eq [5, 6, 9, 11, 14] _ _ _ _).trans (by kernel_rfl)
theorem m29_1 : L4 (b29_1) (b29_1) := fun _ _ _ _ _ =>
  bR fun _ => bR fun _ => bR fun _ => bR fun _ => bR fun _ => bR fun _ => bR fun _ => bR fun _ => bR fun _ => le_refl _
noncomputable def b29_3 (j29_l1 : A5) (x0 x1 x2 x3 x4 : AV) (H : Hp) : Res :=
  bnd (ibin .add x4 (.int .i64 1)) fun t11_14 =>
  j29_l1 x0 x1 x2 x3 t11_14 H
theorem e29_3 (H0 : Hp) (x0 x1 x2 x3 x4 : AV) (H : Hp) : j29_3 H0 x0 x1 x2 x3 x4 H = b29_3 (j29_l1 H0) x0 x1 x2 x3 x4 H := (CXM_eq [5, 6, 9, 11, 14] _ _ _ _).trans (by kernel_rfl)
theorem m29_3 {j29_l1 dj29_l1 : A5} (hj29_l1 : L5 j29_l1 dj29_l1) : L5 (b29_3 j29_l1) (b29_3 dj29_l1) := fun _ _ _ _ _ _ =>
  bR fun _ => hj29_l1 _ _ _ _ _ _
noncomputable def b29_5 (j29_3 : A5) (x0 x1 x2 x3 x4 x5 x6 : AV) (H : Hp) : Res :=
  bnd (afield 1 x1) fun t34_17 =>
  bnd (aload false 1 t34_17 H) fun t35_18 =>
  bnd ((setElems 1 [(0, x4)] [(.int .i64 0)]).map (.vs 1 .clip)) fun t37_19 =>
  bnd (aappE 1 8 t35_18 t37_19 H) fun r38_20 =>
  bnd (afield 1 x1) fun t39_21 =>
  bnd (astoreU 1 t39_21 r38_20.1 r38_20.2) fun r_22 =>
  bnd ((setElems 1 [(0, x5)] [(.int .u8 0)]).map (.vs 1 .clip)) fun t42_23 =>
  bnd (aappE 1 1 x2 t42_23 r_22.2) fun r43_24 =>
  bnd ((setElems 1 [(0, x6)] [(.int .u8 0)]).map (.vs 1 .clip)) fun t46_25 =>
  bnd (aappE 1 1 x3 t46_25 r43_24.2) fun r47_26 =>
  j29_3 x0 x1 r43_24.1 r47_26.1 x4 r47_26.2
theorem e29_5 (H0 : Hp) (x0 x1 x2 x3 x4 x5 x6 : AV) (H : Hp) : j29_5 H0 x0 x1 x2 x3 x4 x5 x6 H = b29_5 (j29_3 H0) x0 x1 x2 x3 x4 x5 x6 H := (CXM_eq [5, 6, 9, 11, 14] _ _ _ _).trans (by kernel_rfl)
theorem m29_5 {j29_3 dj29_3 : A5} (hj29_3 : L5 j29_3 dj29_3) : L7 (b29_5 j29_3) (b29_5 dj29_3) := fun _ _ _ _ _ _ _ _ =>
  bR fun _ => bR fun _ => bR fun _ => bR fun _ => bR fun _ => bR fun _ => bR fun _ => bR fun _ => bR fun _ => bR fun _ => hj29_3 _ _ _ _ _ _
noncomputable def b29_4 (j29_5 : A7) (x0 x1 x2 x3 x4 x5 x6 : AV) (H : Hp) : Res :=
  bnd (ibin .geq x4 (.int .i64 97)) fun t26_27 =>
  bnd (gdv t26_27 true (.tuple []) (some x4)) fun t28_28 =>
  bnd (gdv t26_27 true (.tuple []) (ibin .leq t28_28 (.int .i64 122))) fun t29_29 =>
  bnd (apick t26_27 t29_29 (.bool false)) fun t30_30 =>
  cnd t30_30
    (bnd (ibin .sub x4 (.int .i64 32)) fun t32_31 =>
    bnd (cvInt .u8 t32_31) fun t33_32 =>
    j29_5 x0 x1 x2 x3 x4 x5 t33_32 H)
    (j29_5 x0 x1 x2 x3 x4 x5 x6 H)
theorem e29_4 (H0 : Hp) (x0 x1 x2 x3 x4 x5 x6 : AV) (H : Hp) : j29_4 H0 x0 x1 x2 x3 x4 x5 x6 H = b29_4 (j29_5 H0) x0 x1 x2 x3 x4 x5 x6 H := (CXM_eq [5, 6, 9, 11, 14] _ _ _ _).trans (by kernel_rfl)
theorem m29_4 {j29_5 dj29_5 : A7} (hj29_5 : L7 j29_5 dj29_5) : L7 (b29_4 j29_5) (b29_4 dj29_5) := fun _ _ _ _ _ _ _ _ =>
  bR fun _ => bR fun _ => bR fun _ => bR fun _ => bK (bR fun _ => bR fun _ => hj29_5 _ _ _ _ _ _ _ _) (hj29_5 _ _ _ _ _ _ _ _)
noncomputable def b29_2 (j29_4 : A7) (x0 x1 x2 x3 x4 : AV) (H : Hp) : Res :=
  bnd (cvInt .u8 x4) fun t13_15 =>
  bnd (cvInt .u8 x4) fun t15_16 =>
  bnd (ibin .geq x4 (.int .i64 65)) fun t17_33 =>
  bnd (gdv t17_33 true (.tuple []) (some x4)) fun t19_34 =>
  bnd (gdv t17_33 true (.tuple []) (ibin .leq t19_34 (.int .i64 90))) fun t20_35 =>
  bnd (apick t17_33 t20_35 (.bool false)) fun t21_36 =>
  cnd t21_36
    (bnd (ibin .add x4 (.int .i64 32)) fun t23_37 =>
    bnd (cvInt .u8 t23_37) fun t24_38 =>
    j29_4 x0 x1 x2 x3 x4 t24_38 t15_16 H)
    (j29_4 x0 x1 x2 x3 x4 t13_15 t15_16 H)
theorem e29_2 (H0 : Hp) (x0 x1 x2 x3 x4 : AV) (H : Hp) : j29_2 H0 x0 x1 x2 x3 x4 H = b29_2 (j29_4 H0) x0 x1 x2 x3 x4 H := (CXM_eq [5, 6, 9, 11, 14] _ _ _ _).trans (by kernel_rfl)
theorem m29_2 {j29_4 dj29_4 : A7} (hj29_4 : L7 j29_4 dj29_4) : L5 (b29_2 j29_4) (b29_2 dj29_4) := fun _ _ _ _ _ _ =>
  bR fun _ => bR fun _ => bR fun _ => bR fun _ => bR fun _ => bR fun _ => bK (bR fun _ => bR fun _ => hj29_4 _ _ _ _ _ _ _ _) (hj29_4 _ _ _ _ _ _ _ _)
noncomputable def b29_l1 (j29_1 : A4) (j29_2 : A5) (x0 x1 x2 x3 x4 : AV) (H : Hp) : Res :=
  bnd (ibin .lss x4 (.int .i64 256)) fun t9_39 =>
  cnd t9_39
    (j29_2 x0 x1 x2 x3 x4 H)
    (j29_1 x0 x1 x2 x3 H)
theorem e29_l1 (H0 : Hp) (x0 x1 x2 x3 x4 : AV) (H : Hp) : j29_l1 H0 x0 x1 x2 x3 x4 H = b29_l1 (j29_1 H0) (j29_2 H0) x0 x1 x2 x3 x4 H := (LPL_eqm (C := cfg) [5, 6, 9, 11, 14] (tame_block 0 (k29_1_tame H0)) _ _).trans (by kernel_rfl)
theorem m29_l1 {j29_1 dj29_1 : A4} (hj29_1 : L4 j29_1 dj29_1) {j29_2 dj29_2 : A5} (hj29_2 : L5 j29_2 dj29_2) : L5 (b29_l1 j29_1 j29_2) (b29_l1 dj29_1 dj29_2) := fun _ _ _ _ _ _ =>
  bR fun _ => bK (hj29_2 _ _ _ _ _ _) (hj29_1 _ _ _ _ _)
noncomputable def rj29_1 : A4 := b29_1
theorem sj29_1 (H0 : Hp) : L4 (rj29_1) (j29_1 H0) := fun _ _ _ _ _ => le_eq (m29_1 _ _ _ _ _) (e29_1 H0 _ _ _ _ _)
noncomputable def rj29_3 (j29_l1 : A5) : A5 := b29_3 j29_l1
theorem sj29_3 (H0 : Hp) {yj29_l1 : A5} (hj29_l1 : L5 yj29_l1 (j29_l1 H0)) : L5 (rj29_3 yj29_l1) (j29_3 H0) := fun _ _ _ _ _ _ => le_eq (m29_3 hj29_l1 _ _ _ _ _ _) (e29_3 H0 _ _ _ _ _ _)
noncomputable def rj29_5 (j29_l1 : A5) : A7 := b29_5 (rj29_3 j29_l1)
theorem sj29_5 (H0 : Hp) {yj29_l1 : A5} (hj29_l1 : L5 yj29_l1 (j29_l1 H0)) : L7 (rj29_5 yj29_l1) (j29_5 H0) := fun _ _ _ _ _ _ _ _ => le_eq (m29_5 (sj29_3 H0 hj29_l1) _ _ _ _ _ _ _ _) (e29_5 H0 _ _ _ _ _ _ _ _)
noncomputable def rj29_4 (j29_l1 : A5) : A7 := b29_4 (rj29_5 j29_l1)
theorem sj29_4 (H0 : Hp) {yj29_l1 : A5} (hj29_l1 : L5 yj29_l1 (j29_l1 H0)) : L7 (rj29_4 yj29_l1) (j29_4 H0) := fun _ _ _ _ _ _ _ _ => le_eq (m29_4 (sj29_5 H0 hj29_l1) _ _ _ _ _ _ _ _) (e29_4 H0 _ _ _ _ _ _ _ _)
noncomputable def rj29_2 (j29_l1 : A5) : A5 := b29_2 (rj29_4 j29_l1)
theorem sj29_2 (H0 : Hp) {yj29_l1 : A5} (hj29_l1 : L5 yj29_l1 (j29_l1 H0)) : L5 (rj29_2 yj29_l1) (j29_2 H0) := fun _ _ _ _ _ _ => le_eq (m29_2 (sj29_4 H0 hj29_l1) _ _ _ _ _ _) (e29_2 H0 _ _ _ _ _ _)
noncomputable def rj29_l1 (n : Nat) : A5 := @Nat.rec (fun _ => A5) (fun _ _ _ _ _ _ => none) (fun _ j29_l1 => b29_l1 (rj29_1) (rj29_2 j29_l1)) n
theorem sj29_l1 (H0 : Hp) (n : Nat) : L5 (rj29_l1 n) (j29_l1 H0) := by
  induction n with
  | zero => exact fun _ _ _ _ _ _ => le_none _
  | succ n hj29_l1 => exact fun _ _ _ _ _ _ => le_eq (m29_l1 (sj29_1 H0) (sj29_2 H0 hj29_l1) _ _ _ _ _ _) (e29_l1 H0 _ _ _ _ _ _)
noncomputable def bc29 (j29_l1 : A5) (H : Hp) : Res :=
  bnd (some ((.ptr H.length 0), H ++ [.cells [(.str []), .nils, (.str []), (.str []), .nils, .nils]])) fun r0_1 =>
  bnd ((afill [(0, 1, (.str [112, 111, 115, 105, 120]))] [(.str []), .nils, (.str []), (.str []), .nils, .nils]).map .agg) fun t7_2 =>
  bnd (some ((.ptr r0_1.2.length 0), r0_1.2 ++ [.cells [(.str []), .nils, (.str []), (.str []), .nils, .nils]])) fun r1_3 =>
  bnd (astoreU 6 r1_3.1 t7_2 r1_3.2) fun r_4 =>
  j29_l1 r0_1.1 r1_3.1 .nils .nils (.int .i64 0) r_4.2
theorem ec29 (H : Hp) : c29 H = bc29 (j29_l1 H) H := (callw_cxm (C := cfg) (fn := Tryz.f29) (c := bodyOf Tryz.f29) (n := 55) [5, 6, 9, 11, 14] Tryz.func29 (by kernel_rfl) (by kernel_rfl) [] (by kernel_rfl) H).trans (by kernel_rfl)
theorem mc29 {j29_l1 dj29_l1 : A5} (hj29_l1 : L5 j29_l1 dj29_l1) : L0 (bc29 j29_l1) (bc29 dj29_l1) := fun _ =>
  bR fun _ => bR fun _ => bR fun _ => bR fun _ => hj29_l1 _ _ _ _ _ _
noncomputable def rc29 : A0 := fun H => bc29 (rj29_l1 100000) H
theorem sc29 : L0 rc29 c29 := fun H => le_eq (mc29 (sj29_l1 H 100000) _) (ec29 _)

/-! texttoolslaw20_awake -/
noncomputable def c15 (H : Hp) : Res := callw cfg 15 [] H
noncomputable def j15_1 (H0 : Hp) (x1 x2 : AV) (H : Hp) : Res := CXf 15 57 (sub (bodyOf Tryz.f15) [1, 1, 1, 1]) (retL cfg 57 15 Tryz.f15 H0) [(1, x1), (2, x2)] H
noncomputable def b15_1 (c16 : A3) (c18 : A4) (c20 : A4) (x1 x2 : AV) (H : Hp) : Res :=
  bnd ((afill [(0, 1, (.int .i64 2)), (1, 1, (.int .i64 2)), (2, 1, (.int .i64 3)), (3, 1, (.int .i64 1))] [(.int .i64 0), (.int .i64 0), (.int .i64 0), (.int .i64 0), (.int .i64 0)]).map .agg) fun t33_12 =>
  bnd (some ((.ptr H.length 0), H ++ [.cells [(.int .i64 0), (.int .i64 0), (.int .i64 0), (.int .i64 0), (.int .i64 0)]])) fun r6_13 =>
  bnd (astoreU 5 r6_13.1 t33_12 r6_13.2) fun r_14 =>
  bnd (afield 0 x2) fun t34_15 =>
  bnd (aload false 1 t34_15 r_14.2) fun t35_16 =>
  bnd (aindexS 5 t35_16 (.int .i64 0)) fun t36_17 =>
  bnd (aload true 5 t36_17 r_14.2) fun t37_18 =>
  bnd ((afill [(0, 1, (.int .i64 2)), (1, 1, (.int .i64 1)), (2, 1, (.int .i64 2)), (4, 1, (.int .i64 2))] [(.int .i64 0), (.int .i64 0), (.int .i64 0), (.int .i64 0), (.int .i64 0)]).map .agg) fun t38_19 =>
  bnd (aeqBin Tryz.prog cfg.eqok .eql 34 t37_18 t38_19) fun t39_20 =>
  bnd (gdv t39_20 true (.tuple []) (aload true 5 r6_13.1 r_14.2)) fun t41_21 =>
  bnd (gdv t39_20 true ((.tuple []), r_14.2) (c16 (.str [97, 98, 58, 99, 100, 58, 101, 102]) t41_21 (.int .i64 58) r_14.2)) fun r42_22 =>
  bnd (gdv t39_20 true (.tuple []) (sbin .eql r42_22.1 (.str [100, 58, 101]))) fun t43_23 =>
  bnd (apick t39_20 t43_23 (.bool false)) fun t44_24 =>
  bnd (gdv t44_24 true (.tuple []) (aload true 6 x1 r42_22.2)) fun t46_25 =>
  bnd (gdv t44_24 true (.tuple []) ((afill [(1, 1, (.int .i64 (-1)))] [.nils, (.int .i64 0), (.int .i64 0), (.bool false), (.bool false)]).map .agg)) fun t47_26 =>
  bnd (gdv t44_24 true ((.tuple []), r42_22.2) (c20 t46_25 t47_26 (.str [49, 48]) (.str [57]) r42_22.2)) fun r48_27 =>
  bnd (gdv t44_24 true (.tuple []) (ibin .eql r48_27.1 (.int .i64 (-1)))) fun t49_28 =>
  bnd (apick t44_24 t49_28 (.bool false)) fun t50_29 =>
  bnd (gdv t50_29 true (.tuple []) (aload true 6 x1 r48_27.2)) fun t52_30 =>
  bnd (gdv t50_29 true (.tuple []) ((afill [(1, 1, (.int .i64 (-1))), (2, 1, (.int .i64 1))] [.nils, (.int .i64 0), (.int .i64 0), (.bool false), (.bool false)]).map .agg)) fun t53_31 =>
  bnd (gdv t50_29 true ((.tuple []), r48_27.2) (c18 t52_30 t53_31 (.str [49, 48]) (.str [57]) r48_27.2)) fun r54_32 =>
  bnd (gdv t50_29 true (.tuple []) (ibin .eql r54_32.1 (.int .i64 1))) fun t55_33 =>
  bnd (apick t50_29 t55_33 (.bool false)) fun t56_34 =>
  some (t56_34, r54_32.2)
theorem e15_1 (H0 : Hp) (x1 x2 : AV) (H : Hp) : j15_1 H0 x1 x2 H = b15_1 c16 c18 c20 x1 x2 H := (CXM_eq [5] _ _ _ _).trans (by kernel_rfl)
theorem m15_1 {c16 dc16 : A3} (hc16 : L3 c16 dc16) {c18 dc18 : A4} (hc18 : L4 c18 dc18) {c20 dc20 : A4} (hc20 : L4 c20 dc20) : L2 (b15_1 c16 c18 c20) (b15_1 dc16 dc18 dc20) := fun _ _ _ =>
  bR fun _ => bR fun _ => bR fun _ => bR fun _ => bR fun _ => bR fun _ => bR fun _ => bR fun _ => bR fun _ => bR fun _ => bG (hc16 _ _ _ _) fun _ => bR fun _ => bR fun _ => bR fun _ => bR fun _ => bG (hc20 _ _ _ _ _) fun _ => bR fun _ => bR fun _ => bR fun _ => bR fun _ => bG (hc18 _ _ _ _ _) fun _ => bR fun _ => bR fun _ => le_refl _
noncomputable def rj15_1 (gV : AV → List AV → Hp → Res) : A2 := b15_1 rc16 (rc18 gV) (rc20 gV)
theorem sj15_1 (H0 : Hp) {gV : AV → List AV → Hp → Res} (hV : LV gV (acall cfg (callw cfg))) : L2 (rj15_1 gV) (j15_1 H0) := fun _ _ _ => le_eq (m15_1 sc16 (sc18 hV) (sc20 hV) _ _ _) (e15_1 H0 _ _ _)
noncomputable def bc15 (c11 : A1) (c29 : A0) (j15_1 : A2) (H : Hp) : Res :=
  bnd (c29 H) fun r7_1 =>
  bnd (some ((.ptr r7_1.2.length 0), r7_1.2 ++ [.cells [(.str []), .nils, (.str []), (.str []), .nils, .nils]])) fun r1_2 =>
  bnd (astoreU 6 r1_2.1 r7_1.1 r1_2.2) fun r_3 =>
  bnd ((setElems 1 [(0, (.str [45, 110, 107])), (1, (.str [50, 46, 49, 114, 44, 50])), (2, (.str [120]))] [(.str []), (.str []), (.str [])]).map (.vs 1 .clip)) fun t9_4 =>
  bnd (c11 t9_4 r_3.2) fun r10_5 =>
  bnd (aext r10_5.1 0) fun t11_6 =>
  bnd (aext r10_5.1 1) fun t12_7 =>
  bnd (aext r10_5.1 2) fun t13_8 =>
  bnd (aext r10_5.1 3) fun t14_9 =>
  bnd (some ((.ptr r10_5.2.length 0), r10_5.2 ++ [.cells [.nils, (.int .i64 0), (.int .i64 0), (.bool false), (.bool false)]])) fun r2_10 =>
  bnd (astoreU 5 r2_10.1 t11_6 r2_10.2) fun r_11 =>
  bnd (ibin .neq t13_8 (.int .i64 0)) fun t16_35 =>
  bnd (gdv t16_35 false (.tuple []) (afield 0 r2_10.1)) fun t18_36 =>
  bnd (gdv t16_35 false (.tuple []) (aload false 1 t18_36 r_11.2)) fun t19_37 =>
  bnd (gdv t16_35 false (.tuple []) (alenD (.slice 34) t19_37)) fun t20_38 =>
  bnd (gdv t16_35 false (.tuple []) (ibin .neq t20_38 (.int .i64 1))) fun t21_39 =>
  bnd (apick t16_35 (.bool true) t21_39) fun t22_40 =>
  bnd (gdv t22_40 false (.tuple []) (some t12_7)) fun t24_41 =>
  bnd (gdv t22_40 false (.tuple []) (alenD (.slice 9) t24_41)) fun t25_42 =>
  bnd (gdv t22_40 false (.tuple []) (ibin .neq t25_42 (.int .i64 1))) fun t26_43 =>
  bnd (apick t22_40 (.bool true) t26_43) fun t27_44 =>
  bnd (gdv t27_44 false (.tuple []) (afield 2 r2_10.1)) fun t29_45 =>
  bnd (gdv t27_44 false (.tuple []) (aload false 1 t29_45 r_11.2)) fun t30_46 =>
  bnd (gdv t27_44 false (.tuple []) (ibin .neq t30_46 (.int .i64 1))) fun t31_47 =>
  bnd (apick t27_44 (.bool true) t31_47) fun t32_48 =>
  cnd t32_48
    (some ((.bool false), r_11.2))
    (j15_1 r1_2.1 r2_10.1 r_11.2)
theorem ec15 (H : Hp) : c15 H = bc15 c11 c29 (j15_1 H) H := (callw_cxm (C := cfg) (fn := Tryz.f15) (c := bodyOf Tryz.f15) (n := 57) [5] Tryz.func15 (by kernel_rfl) (by kernel_rfl) [] (by kernel_rfl) H).trans (by kernel_rfl)
theorem mc15 {c11 dc11 : A1} (hc11 : L1 c11 dc11) {c29 dc29 : A0} (hc29 : L0 c29 dc29) {j15_1 dj15_1 : A2} (hj15_1 : L2 j15_1 dj15_1) : L0 (bc15 c11 c29 j15_1) (bc15 dc11 dc29 dj15_1) := fun _ =>
  bC (hc29 _) fun _ => bR fun _ => bR fun _ => bR fun _ => bC (hc11 _ _) fun _ => bR fun _ => bR fun _ => bR fun _ => bR fun _ => bR fun _ => bR fun _ => bR fun _ => bR fun _ => bR fun _ => bR fun _ => bR fun _ => bR fun _ => bR fun _ => bR fun _ => bR fun _ => bR fun _ => bR fun _ => bR fun _ => bR fun _ => bR fun _ => bK (le_refl _) (hj15_1 _ _ _)
noncomputable def rc15 (gV : AV → List AV → Hp → Res) : A0 := fun H => bc15 (rc11 gV) rc29 (rj15_1 gV) H
theorem sc15 {gV : AV → List AV → Hp → Res} (hV : LV gV (acall cfg (callw cfg))) : L0 (rc15 gV) c15 := fun H => le_eq (mc15 (sc11 hV) sc29 (sj15_1 H hV) _) (ec15 _)
/-! internal_stringslite_HasPrefix -/
noncomputable def c123 (p0 p1 : AV) (H : Hp) : Res := callw cfg 123 [p0, p1] H
noncomputable def bc123 (p0 p1 : AV) (H : Hp) : Res :=
  bnd (alenD .string p0) fun t6_1 =>
  bnd (alenD .string p1) fun t8_2 =>
  bnd (ibin .geq t6_1 t8_2) fun t9_3 =>
  bnd (gdv t9_3 true (.tuple []) (some p0)) fun t11_4 =>
  bnd (gdv t9_3 true (.tuple []) (some p1)) fun t12_5 =>
  bnd (gdv t9_3 true (.tuple []) (alenD .string t12_5)) fun t13_6 =>
  bnd (gdv t9_3 true (.tuple []) (asliceS t11_4 none (some t13_6) none)) fun t14_7 =>
  bnd (gdv t9_3 true (.tuple []) (some p1)) fun t15_8 =>
  bnd (gdv t9_3 true (.tuple []) (sbin .eql t14_7 t15_8)) fun t16_9 =>
  bnd (apick t9_3 t16_9 (.bool false)) fun t17_10 =>
  some (t17_10, H)
theorem ec123 (p0 p1 : AV) (H : Hp) : c123 p0 p1 H = bc123 p0 p1 H := (callw_cxm (C := cfg) (fn := Tryz.f123) (c := bodyOf Tryz.f123) (n := 18) [] Tryz.func123 (by kernel_rfl) (by kernel_rfl) [p0, p1] (by kernel_rfl) H).trans (by kernel_rfl)
theorem mc123 : L2 (bc123) (bc123) := fun _ _ _ =>
  bR fun _ => bR fun _ => bR fun _ => bR fun _ => bR fun _ => bR fun _ => bR fun _ => bR fun _ => bR fun _ => bR fun _ => le_refl _
noncomputable def rc123 : A2 := fun p0 p1 H => bc123 p0 p1 H
theorem sc123 : L2 rc123 c123 := fun _ _ H => le_eq (mc123 _ _ _) (ec123 _ _ _)

/-! strings_HasPrefix -/
noncomputable def c100 (p0 p1 : AV) (H : Hp) : Res := callw cfg 100 [p0, p1] H
noncomputable def bc100 (c123 : A2) (p0 p1 : AV) (H : Hp) : Res :=
  bnd (c123 p0 p1 H) fun r7_1 =>
  some (r7_1.1, r7_1.2)
theorem ec100 (p0 p1 : AV) (H : Hp) : c100 p0 p1 H = bc100 c123 p0 p1 H := (callw_cxm (C := cfg) (fn := Tryz.f100) (c := bodyOf Tryz.f100) (n := 8) [] Tryz.func100 (by kernel_rfl) (by kernel_rfl) [p0, p1] (by kernel_rfl) H).trans (by kernel_rfl)
theorem mc100 {c123 dc123 : A2} (hc123 : L2 c123 dc123) : L2 (bc100 c123) (bc100 dc123) := fun _ _ _ =>
  bC (hc123 _ _ _) fun _ => le_refl _
noncomputable def rc100 : A2 := fun p0 p1 H => bc100 rc123 p0 p1 H
theorem sc100 : L2 rc100 c100 := fun _ _ H => le_eq (mc100 sc123 _ _ _) (ec100 _ _ _)

/-! sortkey_digits -/
noncomputable def c129 (p0 : AV) (H : Hp) : Res := callw cfg 129 [p0] H
noncomputable def j129_1 (H0 : Hp) (x3 : AV) (H : Hp) : Res := CXf 129 23 (sub (bodyOf Tryz.f129) [1, 1, 1]) (retL cfg 23 129 Tryz.f129 H0) [(3, x3)] H
noncomputable def k129_1 (H0 : Hp) : KL := seqL (fun k al H => CXf 129 23 (sub (bodyOf Tryz.f129) [1, 1, 1]) k (trimL (cfg.keep 129) (sub (bodyOf Tryz.f129) [1, 1, 1]) al) H) (retL cfg 23 129 Tryz.f129 H0)
theorem k129_1_tame (H0 : Hp) : Tame 23 (k129_1 H0) := tame_seq (C := cfg) (kp := cfg.keep 129) (sub (bodyOf Tryz.f129) [1, 1, 1]) (tame_ret 129 Tryz.f129 H0)
noncomputable def j129_2 (H0 : Hp) (x0 x3 : AV) (H : Hp) : Res := CXf 129 23 (sub (bodyOf Tryz.f129) [1, 1, 0, 0, 0, 1]) (seqL (fun k al H => LPf 129 23 (sub (bodyOf Tryz.f129) [1, 1, 0, 0, 0]) k (trimL (cfg.keep 129) (sub (bodyOf Tryz.f129) [1, 1, 0, 0, 0]) al) H) (blockL 0 (k129_1 H0))) [(0, x0), (3, x3)] H
noncomputable def j129_l1 (H0 : Hp) (x0 x3 : AV) (H : Hp) : Res := LPf 129 23 (sub (bodyOf Tryz.f129) [1, 1, 0, 0, 0]) (blockL 0 (k129_1 H0)) [(0, x0), (3, x3)] H
noncomputable def b129_1 (x3 : AV) (H : Hp) : Res :=
  some (x3, H)
theorem e129_1 (H0 : Hp) (x3 : AV) (H : Hp) : j129_1 H0 x3 H = b129_1 x3 H := (CXM_eq [3, 4] _ _ _ _).trans (by kernel_rfl)
theorem m129_1 : L1 (b129_1) (b129_1) := fun _ _ =>
  le_refl _
noncomputable def b129_2 (j129_l1 : A2) (x0 x3 : AV) (H : Hp) : Res :=
  bnd (ibin .add x3 (.int .i64 1)) fun t21_1 =>
  j129_l1 x0 t21_1 H
theorem e129_2 (H0 : Hp) (x0 x3 : AV) (H : Hp) : j129_2 H0 x0 x3 H = b129_2 (j129_l1 H0) x0 x3 H := (CXM_eq [3, 4] _ _ _ _).trans (by kernel_rfl)
theorem m129_2 {j129_l1 dj129_l1 : A2} (hj129_l1 : L2 j129_l1 dj129_l1) : L2 (b129_2 j129_l1) (b129_2 dj129_l1) := fun _ _ _ =>
  bR fun _ => hj129_l1 _ _ _
noncomputable def b129_l1 (j129_1 : A1) (j129_2 : A2) (x0 x3 : AV) (H : Hp) : Res :=
  bnd (alenD .string x0) fun t6_2 =>
  bnd (ibin .lss x3 t6_2) fun t7_3 =>
  bnd (gdv t7_3 true (.tuple []) (some x0)) fun t9_4 =>
  bnd (gdv t7_3 true (.tuple []) (some x3)) fun t10_5 =>
  bnd (gdv t7_3 true (.tuple []) (aindexStr t9_4 t10_5)) fun t11_6 =>
  bnd (gdv t7_3 true (.tuple []) (ibin .geq t11_6 (.int .u8 48))) fun t12_7 =>
  bnd (apick t7_3 t12_7 (.bool false)) fun t13_8 =>
  bnd (gdv t13_8 true (.tuple []) (some x0)) fun t15_9 =>
  bnd (gdv t13_8 true (.tuple []) (some x3)) fun t16_10 =>
  bnd (gdv t13_8 true (.tuple []) (aindexStr t15_9 t16_10)) fun t17_11 =>
  bnd (gdv t13_8 true (.tuple []) (ibin .leq t17_11 (.int .u8 57))) fun t18_12 =>
  bnd (apick t13_8 t18_12 (.bool false)) fun t19_13 =>
  cnd t19_13
    (j129_2 x0 x3 H)
    (j129_1 x3 H)
theorem e129_l1 (H0 : Hp) (x0 x3 : AV) (H : Hp) : j129_l1 H0 x0 x3 H = b129_l1 (j129_1 H0) (j129_2 H0) x0 x3 H := (LPL_eqm (C := cfg) [3, 4] (tame_block 0 (k129_1_tame H0)) _ _).trans (by kernel_rfl)
theorem m129_l1 {j129_1 dj129_1 : A1} (hj129_1 : L1 j129_1 dj129_1) {j129_2 dj129_2 : A2} (hj129_2 : L2 j129_2 dj129_2) : L2 (b129_l1 j129_1 j129_2) (b129_l1 dj129_1 dj129_2) := fun _ _ _ =>
  bR fun _ => bR fun _ => bR fun _ => bR fun _ => bR fun _ => bR fun _ => bR fun _ => bR fun _ => bR fun _ => bR fun _ => bR fun _ => bR fun _ => bK (hj129_2 _ _ _) (hj129_1 _ _)
noncomputable def rj129_1 : A1 := b129_1
theorem sj129_1 (H0 : Hp) : L1 (rj129_1) (j129_1 H0) := fun _ _ => le_eq (m129_1 _ _) (e129_1 H0 _ _)
noncomputable def rj129_2 (j129_l1 : A2) : A2 := b129_2 j129_l1
theorem sj129_2 (H0 : Hp) {yj129_l1 : A2} (hj129_l1 : L2 yj129_l1 (j129_l1 H0)) : L2 (rj129_2 yj129_l1) (j129_2 H0) := fun _ _ _ => le_eq (m129_2 hj129_l1 _ _ _) (e129_2 H0 _ _ _)
noncomputable def rj129_l1 (n : Nat) : A2 := @Nat.rec (fun _ => A2) (fun _ _ _ => none) (fun _ j129_l1 => b129_l1 (rj129_1) (rj129_2 j129_l1)) n
theorem sj129_l1 (H0 : Hp) (n : Nat) : L2 (rj129_l1 n) (j129_l1 H0) := by
  induction n with
  | zero => exact fun _ _ _ => le_none _
  | succ n hj129_l1 => exact fun _ _ _ => le_eq (m129_l1 (sj129_1 H0) (sj129_2 H0 hj129_l1) _ _ _) (e129_l1 H0 _ _ _)
noncomputable def bc129 (j129_l1 : A2) (p0 : AV) (H : Hp) : Res :=
  j129_l1 p0 (.int .i64 0) H
theorem ec129 (p0 : AV) (H : Hp) : c129 p0 H = bc129 (j129_l1 H) p0 H := (callw_cxm (C := cfg) (fn := Tryz.f129) (c := bodyOf Tryz.f129) (n := 23) [3, 4] Tryz.func129 (by kernel_rfl) (by kernel_rfl) [p0] (by kernel_rfl) H).trans (by kernel_rfl)
theorem mc129 {j129_l1 dj129_l1 : A2} (hj129_l1 : L2 j129_l1 dj129_l1) : L1 (bc129 j129_l1) (bc129 dj129_l1) := fun _ _ =>
  hj129_l1 _ _ _
noncomputable def rc129 : A1 := fun p0 H => bc129 (rj129_l1 100000) p0 H
theorem sc129 : L1 rc129 c129 := fun _ H => le_eq (mc129 (sj129_l1 H 100000) _ _) (ec129 _ _)
noncomputable def q129 : A1 := fun p0 H => flatC (callw cfg 129) [p0] H
noncomputable def rq129 : A1 := fun p0 H => flatC (ofL1 (rc129)) [p0] H
theorem sq129 : L1 rq129 q129 := fun _ _ => flat_le (ofL1_le (sc129)) _ _

/-! num_decimal -/
noncomputable def c140 (p0 : AV) (H : Hp) : Res := callw cfg 140 [p0] H
noncomputable def j140_3 (H0 : Hp) (H : Hp) : Res := CXf 140 42 (sub (bodyOf Tryz.f140) [1, 1, 1, 1, 1]) (retL cfg 42 140 Tryz.f140 H0) [] H
noncomputable def k140_1 (H0 : Hp) : KL := seqL (fun k al H => CXf 140 42 (sub (bodyOf Tryz.f140) [1, 1, 1, 1, 1]) k (trimL (cfg.keep 140) (sub (bodyOf Tryz.f140) [1, 1, 1, 1, 1]) al) H) (retL cfg 42 140 Tryz.f140 H0)
theorem k140_1_tame (H0 : Hp) : Tame 42 (k140_1 H0) := tame_seq (C := cfg) (kp := cfg.keep 140) (sub (bodyOf Tryz.f140) [1, 1, 1, 1, 1]) (tame_ret 140 Tryz.f140 H0)
noncomputable def j140_5 (H0 : Hp) (x3 x27 x28 : AV) (H : Hp) : Res := CXf 140 42 (sub (bodyOf Tryz.f140) [1, 1, 1, 1, 0, 1, 0, 0, 1, 1, 1]) (seqL (fun k al H => LPf 140 42 (sub (bodyOf Tryz.f140) [1, 1, 1, 1, 0, 1, 0, 0]) k (trimL (cfg.keep 140) (sub (bodyOf Tryz.f140) [1, 1, 1, 1, 0, 1, 0, 0]) al) H) (blockL 0 (k140_1 H0))) [(3, x3), (27, x27), (28, x28)] H
noncomputable def j140_4 (H0 : Hp) (x3 x27 x28 x29 : AV) (H : Hp) : Res := CXf 140 42 (sub (bodyOf Tryz.f140) [1, 1, 1, 1, 0, 1, 0, 0, 1, 1]) (seqL (fun k al H => LPf 140 42 (sub (bodyOf Tryz.f140) [1, 1, 1, 1, 0, 1, 0, 0]) k (trimL (cfg.keep 140) (sub (bodyOf Tryz.f140) [1, 1, 1, 1, 0, 1, 0, 0]) al) H) (blockL 0 (k140_1 H0))) [(3, x3), (27, x27), (28, x28), (29, x29)] H
noncomputable def j140_l1 (H0 : Hp) (x3 x27 x28 : AV) (H : Hp) : Res := LPf 140 42 (sub (bodyOf Tryz.f140) [1, 1, 1, 1, 0, 1, 0, 0]) (blockL 0 (k140_1 H0)) [(3, x3), (27, x27), (28, x28)] H
noncomputable def j140_2 (H0 : Hp) (x3 : AV) (H : Hp) : Res := CXf 140 42 (sub (bodyOf Tryz.f140) [1, 1, 1, 1]) (retL cfg 42 140 Tryz.f140 H0) [(3, x3)] H
noncomputable def j140_1 (H0 : Hp) (x0 x3 : AV) (H : Hp) : Res := CXf 140 42 (sub (bodyOf Tryz.f140) [1, 1, 1]) (retL cfg 42 140 Tryz.f140 H0) [(0, x0), (3, x3)] H
noncomputable def b140_3 (H : Hp) : Res :=
  some ((.bool true), H)
theorem e140_3 (H0 : Hp) (H : Hp) : j140_3 H0 H = b140_3 H := (CXM_eq [4, 6, 8, 11, 12] _ _ _ _).trans (by kernel_rfl)
theorem m140_3 : L0 (b140_3) (b140_3) := fun _ =>
  le_refl _
noncomputable def b140_5 (j140_l1 : A3) (x3 x27 x28 : AV) (H : Hp) : Res :=
  bnd (ibin .add x28 (.int .i64 1)) fun t41_3 =>
  j140_l1 x3 x27 t41_3 H
theorem e140_5 (H0 : Hp) (x3 x27 x28 : AV) (H : Hp) : j140_5 H0 x3 x27 x28 H = b140_5 (j140_l1 H0) x3 x27 x28 H := (CXM_eq [4, 6, 8, 11, 12] _ _ _ _).trans (by kernel_rfl)
theorem m140_5 {j140_l1 dj140_l1 : A3} (hj140_l1 : L3 j140_l1 dj140_l1) : L3 (b140_5 j140_l1) (b140_5 dj140_l1) := fun _ _ _ _ =>
  bR fun _ => hj140_l1 _ _ _ _
noncomputable def b140_4 (j140_5 : A3) (x3 x27 x28 x29 : AV) (H : Hp) : Res :=
  bnd (aindexStr x3 x28) fun t33_4 =>
  bnd (ibin .lss t33_4 (.int .u8 48)) fun t34_5 =>
  bnd (gdv t34_5 false (.tuple []) (some x3)) fun t36_6 =>
  bnd (gdv t34_5 false (.tuple []) (some x28)) fun t37_7 =>
  bnd (gdv t34_5 false (.tuple []) (aindexStr t36_6 t37_7)) fun t38_8 =>
  bnd (gdv t34_5 false (.tuple []) (ibin .gtr t38_8 (.int .u8 57))) fun t39_9 =>
  bnd (apick t34_5 (.bool true) t39_9) fun t40_10 =>
  cnd t40_10
    (some ((.bool false), H))
    (j140_5 x3 x27 x28 H)
theorem e140_4 (H0 : Hp) (x3 x27 x28 x29 : AV) (H : Hp) : j140_4 H0 x3 x27 x28 x29 H = b140_4 (j140_5 H0) x3 x27 x28 x29 H := (CXM_eq [4, 6, 8, 11, 12] _ _ _ _).trans (by kernel_rfl)
theorem m140_4 {j140_5 dj140_5 : A3} (hj140_5 : L3 j140_5 dj140_5) : L4 (b140_4 j140_5) (b140_4 dj140_5) := fun _ _ _ _ _ =>
  bR fun _ => bR fun _ => bR fun _ => bR fun _ => bR fun _ => bR fun _ => bR fun _ => bK (le_refl _) (hj140_5 _ _ _ _)
noncomputable def b140_l1 (j140_3 : A0) (j140_4 : A4) (x3 x27 x28 : AV) (H : Hp) : Res :=
  bnd (ibin .lss x28 x27) fun t29_2 =>
  cnd t29_2
    (j140_4 x3 x27 x28 t29_2 H)
    (j140_3 H)
theorem e140_l1 (H0 : Hp) (x3 x27 x28 : AV) (H : Hp) : j140_l1 H0 x3 x27 x28 H = b140_l1 (j140_3 H0) (j140_4 H0) x3 x27 x28 H := (LPL_eqm (C := cfg) [4, 6, 8, 11, 12] (tame_block 0 (k140_1_tame H0)) _ _).trans (by kernel_rfl)
theorem m140_l1 {j140_3 dj140_3 : A0} (hj140_3 : L0 j140_3 dj140_3) {j140_4 dj140_4 : A4} (hj140_4 : L4 j140_4 dj140_4) : L3 (b140_l1 j140_3 j140_4) (b140_l1 dj140_3 dj140_4) := fun _ _ _ _ =>
  bR fun _ => bK (hj140_4 _ _ _ _ _) (hj140_3 _)
noncomputable def b140_2 (j140_l1 : A3) (x3 : AV) (H : Hp) : Res :=
  bnd (alenD .string x3) fun t27_1 =>
  j140_l1 x3 t27_1 (.int .i64 0) H
theorem e140_2 (H0 : Hp) (x3 : AV) (H : Hp) : j140_2 H0 x3 H = b140_2 (j140_l1 H0) x3 H := (CXM_eq [4, 6, 8, 11, 12] _ _ _ _).trans (by kernel_rfl)
theorem m140_2 {j140_l1 dj140_l1 : A3} (hj140_l1 : L3 j140_l1 dj140_l1) : L1 (b140_2 j140_l1) (b140_2 dj140_l1) := fun _ _ =>
  bR fun _ => hj140_l1 _ _ _ _
noncomputable def b140_1 (j140_2 : A1) (x0 x3 : AV) (H : Hp) : Res :=
  bnd (sbin .eql x3 (.str [])) fun t16_11 =>
  bnd (gdv t16_11 false (.tuple []) (some x3)) fun t18_12 =>
  bnd (gdv t16_11 false (.tuple []) (aindexStr t18_12 (.int .i64 0))) fun t19_13 =>
  bnd (gdv t16_11 false (.tuple []) (ibin .eql t19_13 (.int .u8 48))) fun t20_14 =>
  bnd (gdv t16_11 false (.tuple []) (some t20_14)) fun t21_15 =>
  bnd (gdv t21_15 true (.tuple []) (some x0)) fun t22_16 =>
  bnd (gdv t21_15 true (.tuple []) (sbin .neq t22_16 (.str [48]))) fun t23_17 =>
  bnd (gdv t16_11 false (.tuple []) (apick t21_15 t23_17 (.bool false))) fun t24_18 =>
  bnd (apick t16_11 (.bool true) t24_18) fun t25_19 =>
  cnd t25_19
    (some ((.bool false), H))
    (j140_2 x3 H)
theorem e140_1 (H0 : Hp) (x0 x3 : AV) (H : Hp) : j140_1 H0 x0 x3 H = b140_1 (j140_2 H0) x0 x3 H := (CXM_eq [4, 6, 8, 11, 12] _ _ _ _).trans (by kernel_rfl)
theorem m140_1 {j140_2 dj140_2 : A1} (hj140_2 : L1 j140_2 dj140_2) : L2 (b140_1 j140_2) (b140_1 dj140_2) := fun _ _ _ =>
  bR fun _ => bR fun _ => bR fun _ => bR fun _ => bR fun _ => bR fun _ => bR fun _ => bR fun _ => bR fun _ => bK (le_refl _) (hj140_2 _ _)
noncomputable def rj140_3 : A0 := b140_3
theorem sj140_3 (H0 : Hp) : L0 (rj140_3) (j140_3 H0) := fun _ => le_eq (m140_3 _) (e140_3 H0 _)
noncomputable def rj140_5 (j140_l1 : A3) : A3 := b140_5 j140_l1
theorem sj140_5 (H0 : Hp) {yj140_l1 : A3} (hj140_l1 : L3 yj140_l1 (j140_l1 H0)) : L3 (rj140_5 yj140_l1) (j140_5 H0) := fun _ _ _ _ => le_eq (m140_5 hj140_l1 _ _ _ _) (e140_5 H0 _ _ _ _)
noncomputable def rj140_4 (j140_l1 : A3) : A4 := b140_4 (rj140_5 j140_l1)
theorem sj140_4 (H0 : Hp) {yj140_l1 : A3} (hj140_l1 : L3 yj140_l1 (j140_l1 H0)) : L4 (rj140_4 yj140_l1) (j140_4 H0) := fun _ _ _ _ _ => le_eq (m140_4 (sj140_5 H0 hj140_l1) _ _ _ _ _) (e140_4 H0 _ _ _ _ _)
noncomputable def rj140_l1 (n : Nat) : A3 := @Nat.rec (fun _ => A3) (fun _ _ _ _ => none) (fun _ j140_l1 => b140_l1 (rj140_3) (rj140_4 j140_l1)) n
theorem sj140_l1 (H0 : Hp) (n : Nat) : L3 (rj140_l1 n) (j140_l1 H0) := by
  induction n with
  | zero => exact fun _ _ _ _ => le_none _
  | succ n hj140_l1 => exact fun _ _ _ _ => le_eq (m140_l1 (sj140_3 H0) (sj140_4 H0 hj140_l1) _ _ _ _) (e140_l1 H0 _ _ _ _)
noncomputable def rj140_2 : A1 := b140_2 (rj140_l1 100000)
theorem sj140_2 (H0 : Hp) : L1 (rj140_2) (j140_2 H0) := fun _ _ => le_eq (m140_2 (sj140_l1 H0 100000) _ _) (e140_2 H0 _ _)
noncomputable def rj140_1 : A2 := b140_1 (rj140_2)
theorem sj140_1 (H0 : Hp) : L2 (rj140_1) (j140_1 H0) := fun _ _ _ => le_eq (m140_1 (sj140_2 H0) _ _ _) (e140_1 H0 _ _ _)
noncomputable def bc140 (j140_1 : A2) (p0 : AV) (H : Hp) : Res :=
  bnd (sbin .neq p0 (.str [])) fun t7_20 =>
  bnd (gdv t7_20 true (.tuple []) (some p0)) fun t9_21 =>
  bnd (gdv t7_20 true (.tuple []) (aindexStr t9_21 (.int .i64 0))) fun t10_22 =>
  bnd (gdv t7_20 true (.tuple []) (ibin .eql t10_22 (.int .u8 45))) fun t11_23 =>
  bnd (apick t7_20 t11_23 (.bool false)) fun t12_24 =>
  cnd t12_24
    (bnd (asliceS p0 (some (.int .i64 1)) none none) fun t14_25 =>
    j140_1 p0 t14_25 H)
    (j140_1 p0 p0 H)
theorem ec140 (p0 : AV) (H : Hp) : c140 p0 H = bc140 (j140_1 H) p0 H := (callw_cxm (C := cfg) (fn := Tryz.f140) (c := bodyOf Tryz.f140) (n := 42) [4, 6, 8, 11, 12] Tryz.func140 (by kernel_rfl) (by kernel_rfl) [p0] (by kernel_rfl) H).trans (by kernel_rfl)
theorem mc140 {j140_1 dj140_1 : A2} (hj140_1 : L2 j140_1 dj140_1) : L1 (bc140 j140_1) (bc140 dj140_1) := fun _ _ =>
  bR fun _ => bR fun _ => bR fun _ => bR fun _ => bR fun _ => bK (bR fun _ => hj140_1 _ _ _) (hj140_1 _ _ _)
noncomputable def rc140 : A1 := fun p0 H => bc140 (rj140_1) p0 H
theorem sc140 : L1 rc140 c140 := fun _ H => le_eq (mc140 (sj140_1 H) _ _) (ec140 _ _)
noncomputable def q140 : A1 := fun p0 H => flatC (callw cfg 140) [p0] H
noncomputable def rq140 : A1 := fun p0 H => flatC (ofL1 (rc140)) [p0] H
theorem sq140 : L1 rq140 q140 := fun _ _ => flat_le (ofL1_le (sc140)) _ _

/-! num_Parse -/
noncomputable def c130 (p0 : AV) (H : Hp) : Res := callw cfg 130 [p0] H
noncomputable def j130_2 (H0 : Hp) (x4 : AV) (H : Hp) : Res := CXf 130 17 (sub (bodyOf Tryz.f130) [1, 1, 1, 1]) (retL cfg 17 130 Tryz.f130 H0) [(4, x4)] H
noncomputable def j130_1 (H0 : Hp) (x0 : AV) (H : Hp) : Res := CXf 130 17 (sub (bodyOf Tryz.f130) [1, 1]) (retL cfg 17 130 Tryz.f130 H0) [(0, x0)] H
noncomputable def b130_2 (x4 : AV) (H : Hp) : Res :=
  some ((.tuple [x4, (.int .i64 0)]), H)
theorem e130_2 (H0 : Hp) (x4 : AV) (H : Hp) : j130_2 H0 x4 H = b130_2 x4 H := (CXM_eq [3, 6] _ _ _ _).trans (by kernel_rfl)
theorem m130_2 : L1 (b130_2) (b130_2) := fun _ _ =>
  le_refl _
noncomputable def b130_1 (j130_2 : A1) (x0 : AV) (H : Hp) : Res :=
  bnd (sumC atoiA [x0] H) fun r11_1 =>
  bnd (aext r11_1.1 0) fun t12_2 =>
  bnd (aext r11_1.1 1) fun t13_3 =>
  bnd (ebinI .neq t13_3 .nili) fun t15_4 =>
  cnd t15_4
    (some ((.tuple [(.int .i64 0), (.int .i64 9)]), r11_1.2))
    (j130_2 t12_2 r11_1.2)
theorem e130_1 (H0 : Hp) (x0 : AV) (H : Hp) : j130_1 H0 x0 H = b130_1 (j130_2 H0) x0 H := (CXM_eq [3, 6] _ _ _ _).trans (by kernel_rfl)
theorem m130_1 {j130_2 dj130_2 : A1} (hj130_2 : L1 j130_2 dj130_2) : L1 (b130_1 j130_2) (b130_1 dj130_2) := fun _ _ =>
  bR fun _ => bR fun _ => bR fun _ => bR fun _ => bK (le_refl _) (hj130_2 _ _)
noncomputable def rj130_2 : A1 := b130_2
theorem sj130_2 (H0 : Hp) : L1 (rj130_2) (j130_2 H0) := fun _ _ => le_eq (m130_2 _ _) (e130_2 H0 _ _)
noncomputable def rj130_1 : A1 := b130_1 (rj130_2)
theorem sj130_1 (H0 : Hp) : L1 (rj130_1) (j130_1 H0) := fun _ _ => le_eq (m130_1 (sj130_2 H0) _ _) (e130_1 H0 _ _)
noncomputable def bc130 (q140 : A1) (j130_1 : A1) (p0 : AV) (H : Hp) : Res :=
  bnd (q140 p0 H) fun r7_5 =>
  bnd (aun .not r7_5.1) fun t8_6 =>
  cnd t8_6
    (some ((.tuple [(.int .i64 0), (.int .i64 1)]), r7_5.2))
    (j130_1 p0 r7_5.2)
theorem ec130 (p0 : AV) (H : Hp) : c130 p0 H = bc130 q140 (j130_1 H) p0 H := (callw_cxm (C := cfg) (fn := Tryz.f130) (c := bodyOf Tryz.f130) (n := 17) [3, 6] Tryz.func130 (by kernel_rfl) (by kernel_rfl) [p0] (by kernel_rfl) H).trans (by kernel_rfl)
theorem mc130 {q140 dq140 : A1} (hq140 : L1 q140 dq140) {j130_1 dj130_1 : A1} (hj130_1 : L1 j130_1 dj130_1) : L1 (bc130 q140 j130_1) (bc130 dq140 dj130_1) := fun _ _ =>
  bC (hq140 _ _) fun _ => bR fun _ => bK (le_refl _) (hj130_1 _ _)
noncomputable def rc130 : A1 := fun p0 H => bc130 rq140 (rj130_1) p0 H
theorem sc130 : L1 rc130 c130 := fun _ H => le_eq (mc130 sq140 (sj130_1 H) _ _) (ec130 _ _)
noncomputable def q130 : A1 := fun p0 H => flatC (callw cfg 130) [p0] H
noncomputable def rq130 : A1 := fun p0 H => flatC (ofL1 (rc130)) [p0] H
theorem sq130 : L1 rq130 q130 := fun _ _ => flat_le (ofL1_le (sc130)) _ _

/-! sortkey_place_number -/
noncomputable def c122 (p0 p1 : AV) (H : Hp) : Res := callw cfg 122 [p0, p1] H
noncomputable def j122_1 (H0 : Hp) (x1 x7 x8 x9 : AV) (H : Hp) : Res := CXf 122 33 (sub (bodyOf Tryz.f122) [1, 1, 1, 1]) (retL cfg 33 122 Tryz.f122 H0) [(1, x1), (7, x7), (8, x8), (9, x9)] H
noncomputable def b122_1 (x1 x7 x8 x9 : AV) (H : Hp) : Res :=
  bnd (asliceS x1 (some x7) none none) fun t30_6 =>
  bnd (ibin .eql x9 (.int .i64 0)) fun t32_7 =>
  some ((.tuple [x8, t30_6, t32_7]), H)
theorem e122_1 (H0 : Hp) (x1 x7 x8 x9 : AV) (H : Hp) : j122_1 H0 x1 x7 x8 x9 H = b122_1 x1 x7 x8 x9 H := (CXM_eq [6] _ _ _ _).trans (by kernel_rfl)
theorem m122_1 : L4 (b122_1) (b122_1) := fun _ _ _ _ _ =>
  bR fun _ => bR fun _ => le_refl _
noncomputable def rj122_1 : A4 := b122_1
theorem sj122_1 (H0 : Hp) : L4 (rj122_1) (j122_1 H0) := fun _ _ _ _ _ => le_eq (m122_1 _ _ _ _ _) (e122_1 H0 _ _ _ _ _)
noncomputable def bc122 (q129 : A1) (q130 : A1) (j122_1 : A4) (p0 p1 : AV) (H : Hp) : Res :=
  bnd (q129 p1 H) fun r11_1 =>
  bnd (asliceS p1 none (some r11_1.1) none) fun t15_2 =>
  bnd (q130 t15_2 r11_1.2) fun r16_3 =>
  bnd (aext r16_3.1 0) fun t17_4 =>
  bnd (aext r16_3.1 1) fun t18_5 =>
  bnd (ibin .eql t18_5 (.int .i64 9)) fun t20_8 =>
  cnd t20_8
    (bnd (anil p0) fun t22_9 =>
    bnd (afield 4 t22_9) fun t23_10 =>
    bnd (astoreU 1 t23_10 (.bool true) r16_3.2) fun r_11 =>
    bnd (asliceS p1 (some r11_1.1) none none) fun t26_12 =>
    some ((.tuple [(.int .i64 1), t26_12, (.bool true)]), r_11.2))
    (j122_1 p1 r11_1.1 t17_4 t18_5 r16_3.2)
theorem ec122 (p0 p1 : AV) (H : Hp) : c122 p0 p1 H = bc122 q129 q130 (j122_1 H) p0 p1 H := (callw_cxm (C := cfg) (fn := Tryz.f122) (c := bodyOf Tryz.f122) (n := 33) [6] Tryz.func122 (by kernel_rfl) (by kernel_rfl) [p0, p1] (by kernel_rfl) H).trans (by kernel_rfl)
theorem mc122 {q129 dq129 : A1} (hq129 : L1 q129 dq129) {q130 dq130 : A1} (hq130 : L1 q130 dq130) {j122_1 dj122_1 : A4} (hj122_1 : L4 j122_1 dj122_1) : L2 (bc122 q129 q130 j122_1) (bc122 dq129 dq130 dj122_1) := fun _ _ _ =>
  bC (hq129 _ _) fun _ => bR fun _ => bC (hq130 _ _) fun _ => bR fun _ => bR fun _ => bR fun _ => bK (bR fun _ => bR fun _ => bR fun _ => bR fun _ => le_refl _) (hj122_1 _ _ _ _ _)
noncomputable def rc122 : A2 := fun p0 p1 H => bc122 rq129 rq130 (rj122_1) p0 p1 H
theorem sc122 : L2 rc122 c122 := fun _ _ H => le_eq (mc122 sq129 sq130 (sj122_1 H) _ _ _) (ec122 _ _ _)

/-! sortkey_place_read -/
noncomputable def c99 (p0 p1 : AV) (H : Hp) : Res := callw cfg 99 [p0, p1] H
noncomputable def j99_2 (H0 : Hp) (x1 x7 : AV) (H : Hp) : Res := CXf 99 63 (sub (bodyOf Tryz.f99) [1, 1, 1, 1, 1]) (retL cfg 63 99 Tryz.f99 H0) [(1, x1), (7, x7)] H
noncomputable def k99_1 (H0 : Hp) : KL := seqL (fun k al H => CXf 99 63 (sub (bodyOf Tryz.f99) [1, 1, 1, 1, 1]) k (trimL (cfg.keep 99) (sub (bodyOf Tryz.f99) [1, 1, 1, 1, 1]) al) H) (retL cfg 63 99 Tryz.f99 H0)
theorem k99_1_tame (H0 : Hp) : Tame 63 (k99_1 H0) := tame_seq (C := cfg) (kp := cfg.keep 99) (sub (bodyOf Tryz.f99) [1, 1, 1, 1, 1]) (tame_ret 99 Tryz.f99 H0)
noncomputable def j99_3 (H0 : Hp) (x0 x1 x7 : AV) (H : Hp) : Res := CXf 99 63 (sub (bodyOf Tryz.f99) [1, 1, 1, 1, 0, 0, 0, 1]) (seqL (fun k al H => LPf 99 63 (sub (bodyOf Tryz.f99) [1, 1, 1, 1, 0, 0, 0]) k (trimL (cfg.keep 99) (sub (bodyOf Tryz.f99) [1, 1, 1, 1, 0, 0, 0]) al) H) (blockL 0 (k99_1 H0))) [(0, x0), (1, x1), (7, x7)] H
noncomputable def j99_l1 (H0 : Hp) (x0 x1 x7 : AV) (H : Hp) : Res := LPf 99 63 (sub (bodyOf Tryz.f99) [1, 1, 1, 1, 0, 0, 0]) (blockL 0 (k99_1 H0)) [(0, x0), (1, x1), (7, x7)] H
noncomputable def j99_1 (H0 : Hp) (x0 x1 x7 : AV) (H : Hp) : Res := CXf 99 63 (sub (bodyOf Tryz.f99) [1, 1, 1, 1]) (retL cfg 63 99 Tryz.f99 H0) [(0, x0), (1, x1), (7, x7)] H
noncomputable def b99_2 (x1 x7 : AV) (H : Hp) : Res :=
  some ((.tuple [x1, x7]), H)
theorem e99_2 (H0 : Hp) (x1 x7 : AV) (H : Hp) : j99_2 H0 x1 x7 H = b99_2 x1 x7 H := (CXM_eq [6, 7, 9] _ _ _ _).trans (by kernel_rfl)
theorem m99_2 : L2 (b99_2) (b99_2) := fun _ _ _ =>
  le_refl _
noncomputable def b99_3 (j99_l1 : A3) (q46 : A1) (x0 x1 x7 : AV) (H : Hp) : Res :=
  bnd (anil x0) fun t50_8 =>
  bnd (afield 2 t50_8) fun t51_9 =>
  bnd (aload false 1 t51_9 H) fun t52_10 =>
  bnd (aindexStr x1 (.int .i64 0)) fun t54_11 =>
  bnd (q46 t54_11 H) fun r55_12 =>
  bnd (ibin .or t52_10 r55_12.1) fun t56_13 =>
  bnd (anil x0) fun t57_14 =>
  bnd (afield 2 t57_14) fun t58_15 =>
  bnd (astoreU 1 t58_15 t56_13 r55_12.2) fun r_16 =>
  bnd (asliceS x1 (some (.int .i64 1)) none none) fun t60_17 =>
  j99_l1 x0 t60_17 x7 r_16.2
theorem e99_3 (H0 : Hp) (x0 x1 x7 : AV) (H : Hp) : j99_3 H0 x0 x1 x7 H = b99_3 (j99_l1 H0) q46 x0 x1 x7 H := (CXM_eq [6, 7, 9] _ _ _ _).trans (by kernel_rfl)
theorem m99_3 {j99_l1 dj99_l1 : A3} (hj99_l1 : L3 j99_l1 dj99_l1) {q46 dq46 : A1} (hq46 : L1 q46 dq46) : L3 (b99_3 j99_l1 q46) (b99_3 dj99_l1 dq46) := fun _ _ _ _ =>
  bR fun _ => bR fun _ => bR fun _ => bR fun _ => bC (hq46 _ _) fun _ => bR fun _ => bR fun _ => bR fun _ => bR fun _ => bR fun _ => hj99_l1 _ _ _ _
noncomputable def b99_l1 (q46 : A1) (j99_2 : A2) (j99_3 : A3) (x0 x1 x7 : AV) (H : Hp) : Res :=
  bnd (gdv x7 true (.tuple []) (some x1)) fun t40_18 =>
  bnd (gdv x7 true (.tuple []) (sbin .neq t40_18 (.str []))) fun t41_19 =>
  bnd (apick x7 t41_19 (.bool false)) fun t42_20 =>
  bnd (gdv t42_20 true (.tuple []) (some x1)) fun t44_21 =>
  bnd (gdv t42_20 true (.tuple []) (aindexStr t44_21 (.int .i64 0))) fun t45_22 =>
  bnd (gdv t42_20 true ((.tuple []), H) (q46 t45_22 H)) fun r46_23 =>
  bnd (gdv t42_20 true (.tuple []) (ibin .neq r46_23.1 (.int .i64 0))) fun t47_24 =>
  bnd (apick t42_20 t47_24 (.bool false)) fun t48_25 =>
  cnd t48_25
    (j99_3 x0 x1 x7 r46_23.2)
    (j99_2 x1 x7 r46_23.2)
theorem e99_l1 (H0 : Hp) (x0 x1 x7 : AV) (H : Hp) : j99_l1 H0 x0 x1 x7 H = b99_l1 q46 (j99_2 H0) (j99_3 H0) x0 x1 x7 H := (LPL_eqm (C := cfg) [6, 7, 9] (tame_block 0 (k99_1_tame H0)) _ _).trans (by kernel_rfl)
theorem m99_l1 {q46 dq46 : A1} (hq46 : L1 q46 dq46) {j99_2 dj99_2 : A2} (hj99_2 : L2 j99_2 dj99_2) {j99_3 dj99_3 : A3} (hj99_3 : L3 j99_3 dj99_3) : L3 (b99_l1 q46 j99_2 j99_3) (b99_l1 dq46 dj99_2 dj99_3) := fun _ _ _ _ =>
  bR fun _ => bR fun _ => bR fun _ => bR fun _ => bR fun _ => bG (hq46 _ _) fun _ => bR fun _ => bR fun _ => bK (hj99_3 _ _ _ _) (hj99_2 _ _ _)
noncomputable def b99_1 (j99_l1 : A3) (x0 x1 x7 : AV) (H : Hp) : Res :=
  j99_l1 x0 x1 x7 H
theorem e99_1 (H0 : Hp) (x0 x1 x7 : AV) (H : Hp) : j99_1 H0 x0 x1 x7 H = b99_1 (j99_l1 H0) x0 x1 x7 H := (CXM_eq [6, 7, 9] _ _ _ _).trans (by kernel_rfl)
theorem m99_1 {j99_l1 dj99_l1 : A3} (hj99_l1 : L3 j99_l1 dj99_l1) : L3 (b99_1 j99_l1) (b99_1 dj99_l1) := fun _ _ _ _ =>
  hj99_l1 _ _ _ _
noncomputable def rj99_2 : A2 := b99_2
theorem sj99_2 (H0 : Hp) : L2 (rj99_2) (j99_2 H0) := fun _ _ _ => le_eq (m99_2 _ _ _) (e99_2 H0 _ _ _)
noncomputable def rj99_3 (j99_l1 : A3) : A3 := b99_3 j99_l1 rq46
theorem sj99_3 (H0 : Hp) {yj99_l1 : A3} (hj99_l1 : L3 yj99_l1 (j99_l1 H0)) : L3 (rj99_3 yj99_l1) (j99_3 H0) := fun _ _ _ _ => le_eq (m99_3 hj99_l1 sq46 _ _ _ _) (e99_3 H0 _ _ _ _)
noncomputable def rj99_l1 (n : Nat) : A3 := @Nat.rec (fun _ => A3) (fun _ _ _ _ => none) (fun _ j99_l1 => b99_l1 rq46 (rj99_2) (rj99_3 j99_l1)) n
theorem sj99_l1 (H0 : Hp) (n : Nat) : L3 (rj99_l1 n) (j99_l1 H0) := by
  induction n with
  | zero => exact fun _ _ _ _ => le_none _
  | succ n hj99_l1 => exact fun _ _ _ _ => le_eq (m99_l1 sq46 (sj99_2 H0) (sj99_3 H0 hj99_l1) _ _ _ _) (e99_l1 H0 _ _ _ _)
noncomputable def rj99_1 : A3 := b99_1 (rj99_l1 100000)
theorem sj99_1 (H0 : Hp) : L3 (rj99_1) (j99_1 H0) := fun _ _ _ _ => le_eq (m99_1 (sj99_l1 H0 100000) _ _ _ _) (e99_1 H0 _ _ _ _)
noncomputable def bc99 (c100 : A2) (c122 : A2) (j99_1 : A3) (p0 p1 : AV) (H : Hp) : Res :=
  bnd (c122 p0 p1 H) fun r11_1 =>
  bnd (aext r11_1.1 0) fun t12_2 =>
  bnd (aext r11_1.1 1) fun t13_3 =>
  bnd (aext r11_1.1 2) fun t14_4 =>
  bnd (anil p0) fun t17_5 =>
  bnd (afield 0 t17_5) fun t18_6 =>
  bnd (astoreU 1 t18_6 t12_2 r11_1.2) fun r_7 =>
  bnd (gdv t14_4 true (.tuple []) (some t13_3)) fun t21_26 =>
  bnd (gdv t14_4 true ((.tuple []), r_7.2) (c100 t21_26 (.str [46]) r_7.2)) fun r22_27 =>
  bnd (apick t14_4 r22_27.1 (.bool false)) fun t23_28 =>
  cnd t23_28
    (bnd (anil p0) fun t25_29 =>
    bnd (afield 3 t25_29) fun t26_30 =>
    bnd (astoreU 1 t26_30 (.bool true) r22_27.2) fun r_31 =>
    bnd (asliceS t13_3 (some (.int .i64 1)) none none) fun t31_32 =>
    bnd (c122 p0 t31_32 r_31.2) fun r32_33 =>
    bnd (aext r32_33.1 0) fun t33_34 =>
    bnd (aext r32_33.1 1) fun t34_35 =>
    bnd (aext r32_33.1 2) fun t35_36 =>
    bnd (anil p0) fun t36_37 =>
    bnd (afield 1 t36_37) fun t37_38 =>
    bnd (astoreU 1 t37_38 t33_34 r32_33.2) fun r_39 =>
    j99_1 p0 t34_35 t35_36 r_39.2)
    (j99_1 p0 t13_3 t14_4 r22_27.2)
theorem ec99 (p0 p1 : AV) (H : Hp) : c99 p0 p1 H = bc99 c100 c122 (j99_1 H) p0 p1 H := (callw_cxm (C := cfg) (fn := Tryz.f99) (c := bodyOf Tryz.f99) (n := 63) [6, 7, 9] Tryz.func99 (by kernel_rfl) (by kernel_rfl) [p0, p1] (by kernel_rfl) H).trans (by kernel_rfl)
theorem mc99 {c100 dc100 : A2} (hc100 : L2 c100 dc100) {c122 dc122 : A2} (hc122 : L2 c122 dc122) {j99_1 dj99_1 : A3} (hj99_1 : L3 j99_1 dj99_1) : L2 (bc99 c100 c122 j99_1) (bc99 dc100 dc122 dj99_1) := fun _ _ _ =>
  bC (hc122 _ _ _) fun _ => bR fun _ => bR fun _ => bR fun _ => bR fun _ => bR fun _ => bR fun _ => bR fun _ => bG (hc100 _ _ _) fun _ => bR fun _ => bK (bR fun _ => bR fun _ => bR fun _ => bR fun _ => bC (hc122 _ _ _) fun _ => bR fun _ => bR fun _ => bR fun _ => bR fun _ => bR fun _ => bR fun _ => hj99_1 _ _ _ _) (hj99_1 _ _ _ _)
noncomputable def rc99 : A2 := fun p0 p1 H => bc99 rc100 rc122 (rj99_1) p0 p1 H
theorem sc99 : L2 rc99 c99 := fun _ _ H => le_eq (mc99 sc100 sc122 (sj99_1 H) _ _ _) (ec99 _ _ _)

end Go.Am
