/-
  Functions of the translation that are worked out at given arguments: written by program (wip/gen.py).
-/
import Derived.Test.YtijddagljnlfmaaGreatDoorSkGF2
import Derived.Test.YtijddagljnlfmaaGreatDoorAmW
namespace Go.Am
open Go.Proofs
set_option maxRecDepth 100000
set_option linter.unusedVariables false

/-! locale_each -/
noncomputable def c67 (p0 p1 p2 : AV) (H : Hp) : Res := callw cfg 67 [p0, p1, p2] H
noncomputable def j67_4 (H0 : Hp) (x1 x2 x3 x6 x9 x10 : AV) (H : Hp) : Res := CXf 67 75 (sub (bodyOf Tryz.f67) [1, 1, 1, 1, 0, 0, 1, 0, 1, 1, 1]) (blockL 3 (seqL (fun k al H => LPf 67 75 (sub (bodyOf Tryz.f67) [1, 1, 1, 1, 0, 0]) k (trimL (cfg.keep 67) (sub (bodyOf Tryz.f67) [1, 1, 1, 1, 0, 0]) al) H) (blockL 2 (retL cfg 75 67 Tryz.f67 H0)))) [(1, x1), (2, x2), (3, x3), (6, x6), (9, x9), (10, x10)] H
noncomputable def j67_3 (H0 : Hp) (x1 x2 x3 x6 x9 x10 x11 : AV) (H : Hp) : Res := CXf 67 75 (sub (bodyOf Tryz.f67) [1, 1, 1, 1, 0, 0, 1, 0, 1, 1]) (blockL 3 (seqL (fun k al H => LPf 67 75 (sub (bodyOf Tryz.f67) [1, 1, 1, 1, 0, 0]) k (trimL (cfg.keep 67) (sub (bodyOf Tryz.f67) [1, 1, 1, 1, 0, 0]) al) H) (blockL 2 (retL cfg 75 67 Tryz.f67 H0)))) [(1, x1), (2, x2), (3, x3), (6, x6), (9, x9), (10, x10), (11, x11)] H
noncomputable def j67_2 (H0 : Hp) (x1 x2 x3 x6 x9 : AV) (H : Hp) : Res := CXf 67 75 (sub (bodyOf Tryz.f67) [1, 1, 1, 1, 0, 0, 1]) (seqL (fun k al H => LPf 67 75 (sub (bodyOf Tryz.f67) [1, 1, 1, 1, 0, 0]) k (trimL (cfg.keep 67) (sub (bodyOf Tryz.f67) [1, 1, 1, 1, 0, 0]) al) H) (blockL 2 (retL cfg 75 67 Tryz.f67 H0))) [(1, x1), (2, x2), (3, x3), (6, x6), (9, x9)] H
noncomputable def j67_l1 (H0 : Hp) (x1 x2 x3 x6 x9 : AV) (H : Hp) : Res := LPf 67 75 (sub (bodyOf Tryz.f67) [1, 1, 1, 1, 0, 0]) (blockL 2 (retL cfg 75 67 Tryz.f67 H0)) [(1, x1), (2, x2), (3, x3), (6, x6), (9, x9)] H
noncomputable def j67_1 (H0 : Hp) (x1 x2 x3 x6 : AV) (H : Hp) : Res := CXf 67 75 (sub (bodyOf Tryz.f67) [1, 1, 1]) (retL cfg 75 67 Tryz.f67 H0) [(1, x1), (2, x2), (3, x3), (6, x6)] H
noncomputable def k67_1 (H0 : Hp) : KL := seqL (fun k al H => CXf 67 75 (sub (bodyOf Tryz.f67) [1, 1, 1]) k (trimL (cfg.keep 67) (sub (bodyOf Tryz.f67) [1, 1, 1]) al) H) (retL cfg 75 67 Tryz.f67 H0)
theorem k67_1_tame (H0 : Hp) : Tame 75 (k67_1 H0) := tame_seq (C := cfg) (kp := cfg.keep 67) (sub (bodyOf Tryz.f67) [1, 1, 1]) (tame_ret 67 Tryz.f67 H0)
noncomputable def j67_6 (H0 : Hp) (x1 x2 x3 x6 x16 x17 x18 : AV) (H : Hp) : Res := CXf 67 75 (sub (bodyOf Tryz.f67) [1, 1, 0, 1, 0, 0, 1, 1, 1]) (seqL (fun k al H => LPf 67 75 (sub (bodyOf Tryz.f67) [1, 1, 0, 1, 0, 0]) k (trimL (cfg.keep 67) (sub (bodyOf Tryz.f67) [1, 1, 0, 1, 0, 0]) al) H) (blockL 0 (k67_1 H0))) [(1, x1), (2, x2), (3, x3), (6, x6), (16, x16), (17, x17), (18, x18)] H
noncomputable def j67_5 (H0 : Hp) (x1 x2 x3 x6 x16 x17 x18 x19 : AV) (H : Hp) : Res := CXf 67 75 (sub (bodyOf Tryz.f67) [1, 1, 0, 1, 0, 0, 1, 1]) (seqL (fun k al H => LPf 67 75 (sub (bodyOf Tryz.f67) [1, 1, 0, 1, 0, 0]) k (trimL (cfg.keep 67) (sub (bodyOf Tryz.f67) [1, 1, 0, 1, 0, 0]) al) H) (blockL 0 (k67_1 H0))) [(1, x1), (2, x2), (3, x3), (6, x6), (16, x16), (17, x17), (18, x18), (19, x19)] H
noncomputable def j67_l2 (H0 : Hp) (x1 x2 x3 x6 x16 x17 x18 : AV) (H : Hp) : Res := LPf 67 75 (sub (bodyOf Tryz.f67) [1, 1, 0, 1, 0, 0]) (blockL 0 (k67_1 H0)) [(1, x1), (2, x2), (3, x3), (6, x6), (16, x16), (17, x17), (18, x18)] H
noncomputable def b67_4 (j67_l1 : A5) (x1 x2 x3 x6 x9 x10 : AV) (H : Hp) : Res :=
  bnd (alenD .string x10) fun t73_10 =>
  bnd (ibin .add x9 t73_10) fun t74_11 =>
  j67_l1 x1 x2 x3 x6 t74_11 H
theorem e67_4 (H0 : Hp) (x1 x2 x3 x6 x9 x10 : AV) (H : Hp) : j67_4 H0 x1 x2 x3 x6 x9 x10 H = b67_4 (j67_l1 H0) x1 x2 x3 x6 x9 x10 H := (CXM_eq [4, 6, 7, 9, 14, 15] _ _ _ _).trans (by kernel_rfl)
theorem m67_4 {j67_l1 dj67_l1 : A5} (hj67_l1 : L5 j67_l1 dj67_l1) : L6 (b67_4 j67_l1) (b67_4 dj67_l1) := fun _ _ _ _ _ _ _ =>
  bR fun _ => bR fun _ => hj67_l1 _ _ _ _ _ _
noncomputable def b67_3 (j67_4 : A6) (cV : AV → List AV → Hp → Res) (x1 x2 x3 x6 x9 x10 x11 : AV) (H : Hp) : Res :=
  bnd (cV x2 [x10, x11] H) fun r69_12 =>
  bnd (aun .not r69_12.1) fun t70_13 =>
  cnd t70_13
    (some ((.tuple []), r69_12.2))
    (j67_4 x1 x2 x3 x6 x9 x10 r69_12.2)
theorem e67_3 (H0 : Hp) (x1 x2 x3 x6 x9 x10 x11 : AV) (H : Hp) : j67_3 H0 x1 x2 x3 x6 x9 x10 x11 H = b67_3 (j67_4 H0) (acall cfg (callw cfg)) x1 x2 x3 x6 x9 x10 x11 H := (CXM_eq [4, 6, 7, 9, 14, 15] _ _ _ _).trans (by kernel_rfl)
theorem m67_3 {j67_4 dj67_4 : A6} (hj67_4 : L6 j67_4 dj67_4) {cV dcV : AV → List AV → Hp → Res} (hcV : LV cV dcV) : L7 (b67_3 j67_4 cV) (b67_3 dj67_4 dcV) := fun _ _ _ _ _ _ _ _ =>
  bC (hcV _ _ _) fun _ => bR fun _ => bK (le_refl _) (hj67_4 _ _ _ _ _ _ _)
noncomputable def b67_2 (j67_3 : A7) (x1 x2 x3 x6 x9 : AV) (H : Hp) : Res :=
  bnd (ibin .add x9 (.int .i64 1)) fun t35_3 =>
  bnd (asliceS x1 (some x9) (some t35_3) none) fun t36_4 =>
  bnd (afield 1 x3) fun t37_5 =>
  bnd (aload false 1 t37_5 H) fun t38_6 =>
  bnd (aindexStr x1 x9) fun t41_7 =>
  bnd (aindexS 1 t38_6 t41_7) fun t42_8 =>
  bnd (aload false 1 t42_8 H) fun t43_9 =>
  bnd (ibin .add x9 (.int .i64 2)) fun t45_14 =>
  bnd (alenD .string x1) fun t47_15 =>
  bnd (ibin .leq t45_14 t47_15) fun t48_16 =>
  cnd t48_16
    (bnd (ibin .add x9 (.int .i64 2)) fun t54_17 =>
    bnd (asliceS x1 (some x9) (some t54_17) none) fun t55_18 =>
    bnd (alookup .string (.int .i64 0) true x6 t55_18 H) fun t56_19 =>
    bnd (aext t56_19 0) fun t57_20 =>
    bnd (aext t56_19 1) fun t58_21 =>
    cnd t58_21
      (bnd (ibin .add x9 (.int .i64 2)) fun t63_22 =>
      bnd (asliceS x1 (some x9) (some t63_22) none) fun t64_23 =>
      j67_3 x1 x2 x3 x6 x9 t64_23 t57_20 H)
      (j67_3 x1 x2 x3 x6 x9 t36_4 t43_9 H))
    (j67_3 x1 x2 x3 x6 x9 t36_4 t43_9 H)
theorem e67_2 (H0 : Hp) (x1 x2 x3 x6 x9 : AV) (H : Hp) : j67_2 H0 x1 x2 x3 x6 x9 H = b67_2 (j67_3 H0) x1 x2 x3 x6 x9 H := (CXM_eq [4, 6, 7, 9, 14, 15] _ _ _ _).trans (by kernel_rfl)
theorem m67_2 {j67_3 dj67_3 : A7} (hj67_3 : L7 j67_3 dj67_3) : L5 (b67_2 j67_3) (b67_2 dj67_3) := fun _ _ _ _ _ _ =>
  bR fun _ => bR fun _ => bR fun _ => bR fun _ => bR fun _ => bR fun _ => bR fun _ => bR fun _ => bR fun _ => bR fun _ => bK (bR fun _ => bR fun _ => bR fun _ => bR fun _ => bR fun _ => bK (bR fun _ => bR fun _ => hj67_3 _ _ _ _ _ _ _ _) (hj67_3 _ _ _ _ _ _ _ _)) (hj67_3 _ _ _ _ _ _ _ _)
noncomputable def b67_l1 (j67_2 : A5) (x1 x2 x3 x6 x9 : AV) (H : Hp) : Res :=
  bnd (alenD .string x1) fun t30_24 =>
  bnd (ibin .lss x9 t30_24) fun t31_25 =>
  cnd t31_25
    (j67_2 x1 x2 x3 x6 x9 H)
    (some ((.tuple []), H))
theorem e67_l1 (H0 : Hp) (x1 x2 x3 x6 x9 : AV) (H : Hp) : j67_l1 H0 x1 x2 x3 x6 x9 H = b67_l1 (j67_2 H0) x1 x2 x3 x6 x9 H := (LPL_eqm (C := cfg) [4, 6, 7, 9, 14, 15] (tame_block 2 (tame_ret 67 Tryz.f67 H0)) _ _).trans (by kernel_rfl)
theorem m67_l1 {j67_2 dj67_2 : A5} (hj67_2 : L5 j67_2 dj67_2) : L5 (b67_l1 j67_2) (b67_l1 dj67_2) := fun _ _ _ _ _ _ =>
  bR fun _ => bR fun _ => bK (hj67_2 _ _ _ _ _ _) (le_refl _)
noncomputable def b67_1 (j67_l1 : A5) (x1 x2 x3 x6 : AV) (H : Hp) : Res :=
  j67_l1 x1 x2 x3 x6 (.int .i64 0) H
theorem e67_1 (H0 : Hp) (x1 x2 x3 x6 : AV) (H : Hp) : j67_1 H0 x1 x2 x3 x6 H = b67_1 (j67_l1 H0) x1 x2 x3 x6 H := (CXM_eq [4, 6, 7, 9, 14, 15] _ _ _ _).trans (by kernel_rfl)
theorem m67_1 {j67_l1 dj67_l1 : A5} (hj67_l1 : L5 j67_l1 dj67_l1) : L4 (b67_1 j67_l1) (b67_1 dj67_l1) := fun _ _ _ _ _ =>
  hj67_l1 _ _ _ _ _ _
noncomputable def b67_6 (j67_l2 : A7) (x1 x2 x3 x6 x16 x17 x18 : AV) (H : Hp) : Res :=
  bnd (ibin .add x18 (.int .i64 1)) fun t27_30 =>
  j67_l2 x1 x2 x3 x6 x16 x17 t27_30 H
theorem e67_6 (H0 : Hp) (x1 x2 x3 x6 x16 x17 x18 : AV) (H : Hp) : j67_6 H0 x1 x2 x3 x6 x16 x17 x18 H = b67_6 (j67_l2 H0) x1 x2 x3 x6 x16 x17 x18 H := (CXM_eq [4, 6, 7, 9, 14, 15] _ _ _ _).trans (by kernel_rfl)
theorem m67_6 {j67_l2 dj67_l2 : A7} (hj67_l2 : L7 j67_l2 dj67_l2) : L7 (b67_6 j67_l2) (b67_6 dj67_l2) := fun _ _ _ _ _ _ _ _ =>
  bR fun _ => hj67_l2 _ _ _ _ _ _ _ _
noncomputable def b67_5 (j67_6 : A7) (x1 x2 x3 x6 x16 x17 x18 x19 : AV) (H : Hp) : Res :=
  bnd (aindexS 2 x16 x18) fun t20_31 =>
  bnd (aload true 2 t20_31 H) fun t21_32 =>
  bnd (some ((.ptr H.length 0), H ++ [.cells [(.str []), (.int .i64 0)]])) fun r8_33 =>
  bnd (astoreU 2 r8_33.1 t21_32 r8_33.2) fun r_34 =>
  bnd (afield 0 r8_33.1) fun t23_35 =>
  bnd (aload false 1 t23_35 r_34.2) fun t24_36 =>
  bnd (afield 1 r8_33.1) fun t25_37 =>
  bnd (aload false 1 t25_37 r_34.2) fun t26_38 =>
  bnd (amapSet .string x6 t24_36 t26_38 r_34.2) fun r_39 =>
  j67_6 x1 x2 x3 x6 x16 x17 x18 r_39.2
theorem e67_5 (H0 : Hp) (x1 x2 x3 x6 x16 x17 x18 x19 : AV) (H : Hp) : j67_5 H0 x1 x2 x3 x6 x16 x17 x18 x19 H = b67_5 (j67_6 H0) x1 x2 x3 x6 x16 x17 x18 x19 H := (CXM_eq [4, 6, 7, 9, 14, 15] _ _ _ _).trans (by kernel_rfl)
theorem m67_5 {j67_6 dj67_6 : A7} (hj67_6 : L7 j67_6 dj67_6) : L8 (b67_5 j67_6) (b67_5 dj67_6) := fun _ _ _ _ _ _ _ _ _ =>
  bR fun _ => bR fun _ => bR fun _ => bR fun _ => bR fun _ => bR fun _ => bR fun _ => bR fun _ => bR fun _ => hj67_6 _ _ _ _ _ _ _ _
noncomputable def b67_l2 (j67_1 : A4) (j67_5 : A8) (x1 x2 x3 x6 x16 x17 x18 : AV) (H : Hp) : Res :=
  bnd (ibin .lss x18 x17) fun t19_29 =>
  cnd t19_29
    (j67_5 x1 x2 x3 x6 x16 x17 x18 t19_29 H)
    (j67_1 x1 x2 x3 x6 H)
theorem e67_l2 (H0 : Hp) (x1 x2 x3 x6 x16 x17 x18 : AV) (H : Hp) : j67_l2 H0 x1 x2 x3 x6 x16 x17 x18 H = b67_l2 (j67_1 H0) (j67_5 H0) x1 x2 x3 x6 x16 x17 x18 H := (LPL_eqm (C := cfg) [4, 6, 7, 9, 14, 15] (tame_block 0 (k67_1_tame H0)) _ _).trans (by kernel_rfl)
theorem m67_l2 {j67_1 dj67_1 : A4} (hj67_1 : L4 j67_1 dj67_1) {j67_5 dj67_5 : A8} (hj67_5 : L8 j67_5 dj67_5) : L7 (b67_l2 j67_1 j67_5) (b67_l2 dj67_1 dj67_5) := fun _ _ _ _ _ _ _ _ =>
  bR fun _ => bK (hj67_5 _ _ _ _ _ _ _ _ _) (hj67_1 _ _ _ _ _)
noncomputable def rj67_4 (gV : AV → List AV → Hp → Res) (j67_l1 : A5) : A6 := b67_4 j67_l1
theorem sj67_4 (H0 : Hp) {gV : AV → List AV → Hp → Res} (hV : LV gV (acall cfg (callw cfg))) {yj67_l1 : A5} (hj67_l1 : L5 yj67_l1 (j67_l1 H0)) : L6 (rj67_4 gV yj67_l1) (j67_4 H0) := fun _ _ _ _ _ _ _ => le_eq (m67_4 hj67_l1 _ _ _ _ _ _ _) (e67_4 H0 _ _ _ _ _ _ _)
noncomputable def rj67_3 (gV : AV → List AV → Hp → Res) (j67_l1 : A5) : A7 := b67_3 (rj67_4 gV j67_l1) gV
theorem sj67_3 (H0 : Hp) {gV : AV → List AV → Hp → Res} (hV : LV gV (acall cfg (callw cfg))) {yj67_l1 : A5} (hj67_l1 : L5 yj67_l1 (j67_l1 H0)) : L7 (rj67_3 gV yj67_l1) (j67_3 H0) := fun _ _ _ _ _ _ _ _ => le_eq (m67_3 (sj67_4 H0 hV hj67_l1) hV _ _ _ _ _ _ _ _) (e67_3 H0 _ _ _ _ _ _ _ _)
noncomputable def rj67_2 (gV : AV → List AV → Hp → Res) (j67_l1 : A5) : A5 := b67_2 (rj67_3 gV j67_l1)
theorem sj67_2 (H0 : Hp) {gV : AV → List AV → Hp → Res} (hV : LV gV (acall cfg (callw cfg))) {yj67_l1 : A5} (hj67_l1 : L5 yj67_l1 (j67_l1 H0)) : L5 (rj67_2 gV yj67_l1) (j67_2 H0) := fun _ _ _ _ _ _ => le_eq (m67_2 (sj67_3 H0 hV hj67_l1) _ _ _ _ _ _) (e67_2 H0 _ _ _ _ _ _)
noncomputable def rj67_l1 (gV : AV → List AV → Hp → Res) (n : Nat) : A5 := @Nat.rec (fun _ => A5) (fun _ _ _ _ _ _ => none) (fun _ j67_l1 => b67_l1 (rj67_2 gV j67_l1)) n
theorem sj67_l1 (H0 : Hp) {gV : AV → List AV → Hp → Res} (hV : LV gV (acall cfg (callw cfg))) (n : Nat) : L5 (rj67_l1 gV n) (j67_l1 H0) := by
  induction n with
  | zero => exact fun _ _ _ _ _ _ => le_none _
  | succ n hj67_l1 => exact fun _ _ _ _ _ _ => le_eq (m67_l1 (sj67_2 H0 hV hj67_l1) _ _ _ _ _ _) (e67_l1 H0 _ _ _ _ _ _)
noncomputable def rj67_1 (gV : AV → List AV → Hp → Res) : A4 := b67_1 (rj67_l1 gV 100000)
theorem sj67_1 (H0 : Hp) {gV : AV → List AV → Hp → Res} (hV : LV gV (acall cfg (callw cfg))) : L4 (rj67_1 gV) (j67_1 H0) := fun _ _ _ _ _ => le_eq (m67_1 (sj67_l1 H0 hV 100000) _ _ _ _ _) (e67_1 H0 _ _ _ _ _)
noncomputable def rj67_6 (gV : AV → List AV → Hp → Res) (j67_l2 : A7) : A7 := b67_6 j67_l2
theorem sj67_6 (H0 : Hp) {gV : AV → List AV → Hp → Res} (hV : LV gV (acall cfg (callw cfg))) {yj67_l2 : A7} (hj67_l2 : L7 yj67_l2 (j67_l2 H0)) : L7 (rj67_6 gV yj67_l2) (j67_6 H0) := fun _ _ _ _ _ _ _ _ => le_eq (m67_6 hj67_l2 _ _ _ _ _ _ _ _) (e67_6 H0 _ _ _ _ _ _ _ _)
noncomputable def rj67_5 (gV : AV → List AV → Hp → Res) (j67_l2 : A7) : A8 := b67_5 (rj67_6 gV j67_l2)
theorem sj67_5 (H0 : Hp) {gV : AV → List AV → Hp → Res} (hV : LV gV (acall cfg (callw cfg))) {yj67_l2 : A7} (hj67_l2 : L7 yj67_l2 (j67_l2 H0)) : L8 (rj67_5 gV yj67_l2) (j67_5 H0) := fun _ _ _ _ _ _ _ _ _ => le_eq (m67_5 (sj67_6 H0 hV hj67_l2) _ _ _ _ _ _ _ _ _) (e67_5 H0 _ _ _ _ _ _ _ _ _)
noncomputable def rj67_l2 (gV : AV → List AV → Hp → Res) (n : Nat) : A7 := @Nat.rec (fun _ => A7) (fun _ _ _ _ _ _ _ _ => none) (fun _ j67_l2 => b67_l2 (rj67_1 gV) (rj67_5 gV j67_l2)) n
theorem sj67_l2 (H0 : Hp) {gV : AV → List AV → Hp → Res} (hV : LV gV (acall cfg (callw cfg))) (n : Nat) : L7 (rj67_l2 gV n) (j67_l2 H0) := by
  induction n with
  | zero => exact fun _ _ _ _ _ _ _ _ => le_none _
  | succ n hj67_l2 => exact fun _ _ _ _ _ _ _ _ => le_eq (m67_l2 (sj67_1 H0 hV) (sj67_5 H0 hV hj67_l2) _ _ _ _ _ _ _ _) (e67_l2 H0 _ _ _ _ _ _ _ _)
noncomputable def bc67 (j67_l2 : A7) (p0 p1 p2 : AV) (H : Hp) : Res :=
  bnd (abox p0 H) fun r3_1 =>
  bnd (some ((.map r3_1.2.length), r3_1.2 ++ [.map [] 0])) fun r14_2 =>
  bnd (afield 5 r3_1.1) fun t15_26 =>
  bnd (aload false 1 t15_26 r14_2.2) fun t16_27 =>
  bnd (alenD (.slice 119) t16_27) fun t17_28 =>
  j67_l2 p1 p2 r3_1.1 r14_2.1 t16_27 t17_28 (.int .i64 0) r14_2.2
theorem ec67 (p0 p1 p2 : AV) (H : Hp) : c67 p0 p1 p2 H = bc67 (j67_l2 H) p0 p1 p2 H := (callw_cxm (C := cfg) (fn := Tryz.f67) (c := bodyOf Tryz.f67) (n := 75) [4, 6, 7, 9, 14, 15] Tryz.func67 (by kernel_rfl) (by kernel_rfl) [p0, p1, p2] (by kernel_rfl) H).trans (by kernel_rfl)
theorem mc67 {j67_l2 dj67_l2 : A7} (hj67_l2 : L7 j67_l2 dj67_l2) : L3 (bc67 j67_l2) (bc67 dj67_l2) := fun _ _ _ _ =>
  bR fun _ => bR fun _ => bR fun _ => bR fun _ => bR fun _ => hj67_l2 _ _ _ _ _ _ _ _
noncomputable def rc67 (gV : AV → List AV → Hp → Res) : A3 := fun p0 p1 p2 H => bc67 (rj67_l2 gV 100000) p0 p1 p2 H
theorem sc67 {gV : AV → List AV → Hp → Res} (hV : LV gV (acall cfg (callw cfg))) : L3 (rc67 gV) c67 := fun _ _ _ H => le_eq (mc67 (sj67_l2 H hV 100000) _ _ _ _) (ec67 _ _ _ _)

/-! locale_Compare_1 -/
noncomputable def c66 (p0 p1 : AV) (H : Hp) : Res := callw cfg 66 [p0, p1] H
noncomputable def bc66 (c67 : A3) (p0 p1 : AV) (H : Hp) : Res :=
  bnd (some ((.ptr H.length 0), H ++ [.cells [.nils]])) fun r4_1 =>
  bnd (aload true 6 p1 r4_1.2) fun t5_2 =>
  bnd (some (.fn (.func 68) [] [r4_1.1])) fun t7_3 =>
  bnd (c67 t5_2 p0 t7_3 r4_1.2) fun r8_4 =>
  bnd (aload false 1 r4_1.1 r8_4.2) fun t9_5 =>
  some (t9_5, r8_4.2)
theorem ec66 (p0 p1 : AV) (H : Hp) : c66 p0 p1 H = bc66 c67 p0 p1 H := (callw_cxm (C := cfg) (fn := Tryz.f66) (c := bodyOf Tryz.f66) (n := 10) [] Tryz.func66 (by kernel_rfl) (by kernel_rfl) [p0, p1] (by kernel_rfl) H).trans (by kernel_rfl)
theorem mc66 {c67 dc67 : A3} (hc67 : L3 c67 dc67) : L2 (bc66 c67) (bc66 dc67) := fun _ _ _ =>
  bR fun _ => bR fun _ => bR fun _ => bC (hc67 _ _ _ _) fun _ => bR fun _ => le_refl _
noncomputable def rc66 (gV : AV → List AV → Hp → Res) : A2 := fun p0 p1 H => bc66 (rc67 gV) p0 p1 H
theorem sc66 {gV : AV → List AV → Hp → Res} (hV : LV gV (acall cfg (callw cfg))) : L2 (rc66 gV) c66 := fun _ _ H => le_eq (mc66 (sc67 hV) _ _ _) (ec66 _ _ _)

/-! locale_Compare_1_1 -/
noncomputable def c68 (p0 p1 p2 : AV) (H : Hp) : Res := callw cfg 68 [p0, p1, p2] H
noncomputable def bc68 (p0 p1 p2 : AV) (H : Hp) : Res :=
  bnd (aload false 1 p2 H) fun t6_1 =>
  bnd ((setElems 1 [(0, p1)] [(.int .i64 0)]).map (.vs 1 .clip)) fun t8_2 =>
  bnd (aappE 1 8 t6_1 t8_2 H) fun r9_3 =>
  bnd (astoreU 1 p2 r9_3.1 r9_3.2) fun r_4 =>
  some ((.bool true), r_4.2)
theorem ec68 (p0 p1 p2 : AV) (H : Hp) : c68 p0 p1 p2 H = bc68 p0 p1 p2 H := (callw_cxm (C := cfg) (fn := Tryz.f68) (c := bodyOf Tryz.f68) (n := 10) [] Tryz.func68 (by kernel_rfl) (by kernel_rfl) [p0, p1, p2] (by kernel_rfl) H).trans (by kernel_rfl)
theorem mc68 : L3 (bc68) (bc68) := fun _ _ _ _ =>
  bR fun _ => bR fun _ => bR fun _ => bR fun _ => le_refl _
noncomputable def rc68 : A3 := fun p0 p1 p2 H => bc68 p0 p1 p2 H
theorem sc68 : L3 rc68 c68 := fun _ _ _ H => le_eq (mc68 _ _ _ _) (ec68 _ _ _ _)

/-! Functions that are called as values -/
noncomputable def tabV (g : AV → List AV → Hp → Res) (f : Nat) (l : List AV) (H : Hp) : Res := cond (Nat.beq f 48) (ofL2 (rc48) l H) (cond (Nat.beq f 49) (ofL2 (rc49) l H) (cond (Nat.beq f 57) (ofL5 (rc57 g) l H) (cond (Nat.beq f 58) (ofL1 (rc58) l H) (cond (Nat.beq f 60) (ofL1 (rc60) l H) (cond (Nat.beq f 61) (ofL2 (rc61) l H) (cond (Nat.beq f 66) (ofL2 (rc66 g) l H) (cond (Nat.beq f 68) (ofL3 (rc68) l H) (none))))))))
noncomputable def rV (n : Nat) : AV → List AV → Hp → Res := @Nat.rec (fun _ => AV → List AV → Hp → Res) (fun _ _ _ => none) (fun _ ih => valV (tabV ih)) n
theorem sV (n : Nat) : LV (rV n) (acall cfg (callw cfg)) := by
  induction n with
  | zero => exact fun _ _ _ => le_none _
  | succ n ih =>
    refine valV_le ?_
    intro f a b l H r h
    unfold tabV at h
    refine tab_step h (fun e h => ?_) (fun h => ?_)
    · subst e
      have e : acall cfg (callw cfg) (.fn (.func 48) a b) l H = callw cfg 48 (a ++ l ++ b) H := by kernel_rfl
      rw [e]
      exact ofL2_le (sc48) _ _ _ h
    refine tab_step h (fun e h => ?_) (fun h => ?_)
    · subst e
      have e : acall cfg (callw cfg) (.fn (.func 49) a b) l H = callw cfg 49 (a ++ l ++ b) H := by kernel_rfl
      rw [e]
      exact ofL2_le (sc49) _ _ _ h
    refine tab_step h (fun e h => ?_) (fun h => ?_)
    · subst e
      have e : acall cfg (callw cfg) (.fn (.func 57) a b) l H = callw cfg 57 (a ++ l ++ b) H := by kernel_rfl
      rw [e]
      exact ofL5_le (sc57 ih) _ _ _ h
    refine tab_step h (fun e h => ?_) (fun h => ?_)
    · subst e
      have e : acall cfg (callw cfg) (.fn (.func 58) a b) l H = callw cfg 58 (a ++ l ++ b) H := by kernel_rfl
      rw [e]
      exact ofL1_le (sc58) _ _ _ h
    refine tab_step h (fun e h => ?_) (fun h => ?_)
    · subst e
      have e : acall cfg (callw cfg) (.fn (.func 60) a b) l H = callw cfg 60 (a ++ l ++ b) H := by kernel_rfl
      rw [e]
      exact ofL1_le (sc60) _ _ _ h
    refine tab_step h (fun e h => ?_) (fun h => ?_)
    · subst e
      have e : acall cfg (callw cfg) (.fn (.func 61) a b) l H = callw cfg 61 (a ++ l ++ b) H := by kernel_rfl
      rw [e]
      exact ofL2_le (sc61) _ _ _ h
    refine tab_step h (fun e h => ?_) (fun h => ?_)
    · subst e
      have e : acall cfg (callw cfg) (.fn (.func 66) a b) l H = callw cfg 66 (a ++ l ++ b) H := by kernel_rfl
      rw [e]
      exact ofL2_le (sc66 ih) _ _ _ h
    refine tab_step h (fun e h => ?_) (fun h => ?_)
    · subst e
      have e : acall cfg (callw cfg) (.fn (.func 68) a b) l H = callw cfg 68 (a ++ l ++ b) H := by kernel_rfl
      rw [e]
      exact ofL3_le (sc68) _ _ _ h
    cases h

end Go.Am
