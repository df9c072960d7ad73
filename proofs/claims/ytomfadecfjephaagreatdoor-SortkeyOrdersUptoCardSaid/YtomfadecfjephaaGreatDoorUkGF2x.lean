/-
  Functions of the translation that are worked out at given arguments: written by program (wip/gen.py).
-/
import Derived.Test.YtomfadecfjephaaGreatDoorUkGF1x
import Derived.Test.YtomfadecfjephaaGreatDoorEmWx
namespace Go.Am
open Go.Proofs
set_option maxRecDepth 100000
set_option linter.unusedVariables false
noncomputable section

def c67 (p0 p1 p2 : AV) (H : Hp) : Res := callw cfg 67 [p0, p1, p2] H
def j67_4 (H0 : Hp) (x1 x2 x3 x6 x9 x10 : AV) (H : Hp) : Res := CXf 67 75 (sub (bodyOf Tryz.f67) [1, 1, 1, 1, 0, 0, 1, 0, 1, 1, 1]) (blockL 3 (seqL (fun k al H => LPf 67 75 (sub (bodyOf Tryz.f67) [1, 1, 1, 1, 0, 0]) k (trimL (cfg.keep 67) (sub (bodyOf Tryz.f67) [1, 1, 1, 1, 0, 0]) al) H) (blockL 2 (retL cfg 75 67 Tryz.f67 H0)))) [(1, x1), (2, x2), (3, x3), (6, x6), (9, x9), (10, x10)] H
def j67_3 (H0 : Hp) (x1 x2 x3 x6 x9 x10 x11 : AV) (H : Hp) : Res := CXf 67 75 (sub (bodyOf Tryz.f67) [1, 1, 1, 1, 0, 0, 1, 0, 1, 1]) (blockL 3 (seqL (fun k al H => LPf 67 75 (sub (bodyOf Tryz.f67) [1, 1, 1, 1, 0, 0]) k (trimL (cfg.keep 67) (sub (bodyOf Tryz.f67) [1, 1, 1, 1, 0, 0]) al) H) (blockL 2 (retL cfg 75 67 Tryz.f67 H0)))) [(1, x1), (2, x2), (3, x3), (6, x6), (9, x9), (10, x10), (11, x11)] H
def j67_2 (H0 : Hp) (x1 x2 x3 x6 x9 : AV) (H : Hp) : Res := CXf 67 75 (sub (bodyOf Tryz.f67) [1, 1, 1, 1, 0, 0, 1]) (seqL (fun k al H => LPf 67 75 (sub (bodyOf Tryz.f67) [1, 1, 1, 1, 0, 0]) k (trimL (cfg.keep 67) (sub (bodyOf Tryz.f67) [1, 1, 1, 1, 0, 0]) al) H) (blockL 2 (retL cfg 75 67 Tryz.f67 H0))) [(1, x1), (2, x2), (3, x3), (6, x6), (9, x9)] H
def j67_l1 (H0 : Hp) (x1 x2 x3 x6 x9 : AV) (H : Hp) : Res := LPf 67 75 (sub (bodyOf Tryz.f67) [1, 1, 1, 1, 0, 0]) (blockL 2 (retL cfg 75 67 Tryz.f67 H0)) [(1, x1), (2, x2), (3, x3), (6, x6), (9, x9)] H
def j67_1 (H0 : Hp) (x1 x2 x3 x6 : AV) (H : Hp) : Res := CXf 67 75 (sub (bodyOf Tryz.f67) [1, 1, 1]) (retL cfg 75 67 Tryz.f67 H0) [(1, x1), (2, x2), (3, x3), (6, x6)] H
def k67_1 (H0 : Hp) : KL := seqL (fun k al H => CXf 67 75 (sub (bodyOf Tryz.f67) [1, 1, 1]) k (trimL (cfg.keep 67) (sub (bodyOf Tryz.f67) [1, 1, 1]) al) H) (retL cfg 75 67 Tryz.f67 H0)
theorem k67_1_tame (H0 : Hp) : Tame 75 (k67_1 H0) := tame_seq (C := cfg) (kp := cfg.keep 67) (sub (bodyOf Tryz.f67) [1, 1, 1]) (tame_ret 67 Tryz.f67 H0)
def j67_6 (H0 : Hp) (x1 x2 x3 x6 x16 x17 x18 : AV) (H : Hp) : Res := CXf 67 75 (sub (bodyOf Tryz.f67) [1, 1, 0, 1, 0, 0, 1, 1, 1]) (seqL (fun k al H => LPf 67 75 (sub (bodyOf Tryz.f67) [1, 1, 0, 1, 0, 0]) k (trimL (cfg.keep 67) (sub (bodyOf Tryz.f67) [1, 1, 0, 1, 0, 0]) al) H) (blockL 0 (k67_1 H0))) [(1, x1), (2, x2), (3, x3), (6, x6), (16, x16), (17, x17), (18, x18)] H
def j67_5 (H0 : Hp) (x1 x2 x3 x6 x16 x17 x18 x19 : AV) (H : Hp) : Res := CXf 67 75 (sub (bodyOf Tryz.f67) [1, 1, 0, 1, 0, 0, 1, 1]) (seqL (fun k al H => LPf 67 75 (sub (bodyOf Tryz.f67) [1, 1, 0, 1, 0, 0]) k (trimL (cfg.keep 67) (sub (bodyOf Tryz.f67) [1, 1, 0, 1, 0, 0]) al) H) (blockL 0 (k67_1 H0))) [(1, x1), (2, x2), (3, x3), (6, x6), (16, x16), (17, x17), (18, x18), (19, x19)] H
def j67_l2 (H0 : Hp) (x1 x2 x3 x6 x16 x17 x18 : AV) (H : Hp) : Res := LPf 67 75 (sub (bodyOf Tryz.f67) [1, 1, 0, 1, 0, 0]) (blockL 0 (k67_1 H0)) [(1, x1), (2, x2), (3, x3), (6, x6), (16, x16), (17, x17), (18, x18)] H
def b67_4 (j67_l1 : A5) (x1 x2 x3 x6 x9 x10 : AV) (H : Hp) : Res :=
  bnd (alenD .string x10) fun t73 =>
  bnd (ibin .add x9 t73) fun t74 =>
  j67_l1 x1 x2 x3 x6 t74 H
theorem e67_4 (H0 : Hp) (x1 x2 x3 x6 x9 x10 : AV) (H : Hp) : j67_4 H0 x1 x2 x3 x6 x9 x10 H = b67_4 (j67_l1 H0) x1 x2 x3 x6 x9 x10 H := (CXM_eq [4, 6, 7, 9, 14, 15] _ _ _ _).trans (by kernel_rfl)
theorem m67_4 {j67_l1 dj67_l1 : A5} (hj67_l1 : L5 j67_l1 dj67_l1) : L6 (b67_4 j67_l1) (b67_4 dj67_l1) := fun _ _ _ _ _ _ _ =>
  bR fun _ => bR fun _ => hj67_l1 _ _ _ _ _ _
def b67_3 (j67_4 : A6) (cV : AV → List AV → Hp → Res) (x1 x2 x3 x6 x9 x10 x11 : AV) (H : Hp) : Res :=
  bnd (cV x2 [x10, x11] H) fun r69 =>
  bnd (aun .not r69.1) fun t70 =>
  cnd t70
    (some ((.tuple []), r69.2))
    (j67_4 x1 x2 x3 x6 x9 x10 r69.2)
theorem e67_3 (H0 : Hp) (x1 x2 x3 x6 x9 x10 x11 : AV) (H : Hp) : j67_3 H0 x1 x2 x3 x6 x9 x10 x11 H = b67_3 (j67_4 H0) (acall cfg (callw cfg)) x1 x2 x3 x6 x9 x10 x11 H := (CXM_eq [4, 6, 7, 9, 14, 15] _ _ _ _).trans (by kernel_rfl)
theorem m67_3 {j67_4 dj67_4 : A6} (hj67_4 : L6 j67_4 dj67_4) {cV dcV : AV → List AV → Hp → Res} (hcV : LV cV dcV) : L7 (b67_3 j67_4 cV) (b67_3 dj67_4 dcV) := fun _ _ _ _ _ _ _ _ =>
  bC (hcV _ _ _) fun _ => bR fun _ => bK (le_refl _) (hj67_4 _ _ _ _ _ _ _)
def b67_2 (j67_3 : A7) (x1 x2 x3 x6 x9 : AV) (H : Hp) : Res :=
  bnd (ibin .add x9 (.int .i64 1)) fun t35 =>
  bnd (asliceS x1 (some x9) (some t35) none) fun t36 =>
  bnd (afield 1 x3) fun t37 =>
  bnd (aload false 1 t37 H) fun t38 =>
  bnd (aindexStr x1 x9) fun t41 =>
  bnd (aindexS 1 t38 t41) fun t42 =>
  bnd (aload false 1 t42 H) fun t43 =>
  bnd (ibin .add x9 (.int .i64 2)) fun t45 =>
  bnd (alenD .string x1) fun t47 =>
  bnd (ibin .leq t45 t47) fun t48 =>
  cnd t48
    (bnd (ibin .add x9 (.int .i64 2)) fun t54 =>
    bnd (asliceS x1 (some x9) (some t54) none) fun t55 =>
    bnd (alookup .string (.int .i64 0) true x6 t55 H) fun t56 =>
    bnd (aext t56 0) fun t57 =>
    bnd (aext t56 1) fun t58 =>
    cnd t58
      (bnd (ibin .add x9 (.int .i64 2)) fun t63 =>
      bnd (asliceS x1 (some x9) (some t63) none) fun t64 =>
      j67_3 x1 x2 x3 x6 x9 t64 t57 H)
      (j67_3 x1 x2 x3 x6 x9 t36 t43 H))
    (j67_3 x1 x2 x3 x6 x9 t36 t43 H)
theorem e67_2 (H0 : Hp) (x1 x2 x3 x6 x9 : AV) (H : Hp) : j67_2 H0 x1 x2 x3 x6 x9 H = b67_2 (j67_3 H0) x1 x2 x3 x6 x9 H := (CXM_eq [4, 6, 7, 9, 14, 15] _ _ _ _).trans (by kernel_rfl)
theorem m67_2 {j67_3 dj67_3 : A7} (hj67_3 : L7 j67_3 dj67_3) : L5 (b67_2 j67_3) (b67_2 dj67_3) := fun _ _ _ _ _ _ =>
  bR fun _ => bR fun _ => bR fun _ => bR fun _ => bR fun _ => bR fun _ => bR fun _ => bR fun _ => bR fun _ => bR fun _ => bK (bR fun _ => bR fun _ => bR fun _ => bR fun _ => bR fun _ => bK (bR fun _ => bR fun _ => hj67_3 _ _ _ _ _ _ _ _) (hj67_3 _ _ _ _ _ _ _ _)) (hj67_3 _ _ _ _ _ _ _ _)
def b67_l1 (j67_2 : A5) (x1 x2 x3 x6 x9 : AV) (H : Hp) : Res :=
  bnd (alenD .string x1) fun t30 =>
  bnd (ibin .lss x9 t30) fun t31 =>
  cnd t31
    (j67_2 x1 x2 x3 x6 x9 H)
    (some ((.tuple []), H))
theorem e67_l1 (H0 : Hp) (x1 x2 x3 x6 x9 : AV) (H : Hp) : j67_l1 H0 x1 x2 x3 x6 x9 H = b67_l1 (j67_2 H0) x1 x2 x3 x6 x9 H := (LPL_eqm (C := cfg) [4, 6, 7, 9, 14, 15] (tame_block 2 (tame_ret 67 Tryz.f67 H0)) _ _).trans (by kernel_rfl)
theorem m67_l1 {j67_2 dj67_2 : A5} (hj67_2 : L5 j67_2 dj67_2) : L5 (b67_l1 j67_2) (b67_l1 dj67_2) := fun _ _ _ _ _ _ =>
  bR fun _ => bR fun _ => bK (hj67_2 _ _ _ _ _ _) (le_refl _)
def b67_1 (j67_l1 : A5) (x1 x2 x3 x6 : AV) (H : Hp) : Res :=
  j67_l1 x1 x2 x3 x6 (.int .i64 0) H
theorem e67_1 (H0 : Hp) (x1 x2 x3 x6 : AV) (H : Hp) : j67_1 H0 x1 x2 x3 x6 H = b67_1 (j67_l1 H0) x1 x2 x3 x6 H := (CXM_eq [4, 6, 7, 9, 14, 15] _ _ _ _).trans (by kernel_rfl)
theorem m67_1 {j67_l1 dj67_l1 : A5} (hj67_l1 : L5 j67_l1 dj67_l1) : L4 (b67_1 j67_l1) (b67_1 dj67_l1) := fun _ _ _ _ _ =>
  hj67_l1 _ _ _ _ _ _
def b67_6 (j67_l2 : A7) (x1 x2 x3 x6 x16 x17 x18 : AV) (H : Hp) : Res :=
  bnd (ibin .add x18 (.int .i64 1)) fun t27 =>
  j67_l2 x1 x2 x3 x6 x16 x17 t27 H
theorem e67_6 (H0 : Hp) (x1 x2 x3 x6 x16 x17 x18 : AV) (H : Hp) : j67_6 H0 x1 x2 x3 x6 x16 x17 x18 H = b67_6 (j67_l2 H0) x1 x2 x3 x6 x16 x17 x18 H := (CXM_eq [4, 6, 7, 9, 14, 15] _ _ _ _).trans (by kernel_rfl)
theorem m67_6 {j67_l2 dj67_l2 : A7} (hj67_l2 : L7 j67_l2 dj67_l2) : L7 (b67_6 j67_l2) (b67_6 dj67_l2) := fun _ _ _ _ _ _ _ _ =>
  bR fun _ => hj67_l2 _ _ _ _ _ _ _ _
def b67_5 (j67_6 : A7) (x1 x2 x3 x6 x16 x17 x18 x19 : AV) (H : Hp) : Res :=
  bnd (aindexS 2 x16 x18) fun t20 =>
  bnd (aload true 2 t20 H) fun t21 =>
  bnd (some ((.ptr H.length 0), H ++ [.cells [(.str []), (.int .i64 0)]])) fun r8 =>
  bnd (astoreU 2 r8.1 t21 r8.2) fun r_34 =>
  bnd (afield 0 r8.1) fun t23 =>
  bnd (aload false 1 t23 r_34.2) fun t24 =>
  bnd (afield 1 r8.1) fun t25 =>
  bnd (aload false 1 t25 r_34.2) fun t26 =>
  bnd (amapSet .string x6 t24 t26 r_34.2) fun r_39 =>
  j67_6 x1 x2 x3 x6 x16 x17 x18 r_39.2
theorem e67_5 (H0 : Hp) (x1 x2 x3 x6 x16 x17 x18 x19 : AV) (H : Hp) : j67_5 H0 x1 x2 x3 x6 x16 x17 x18 x19 H = b67_5 (j67_6 H0) x1 x2 x3 x6 x16 x17 x18 x19 H := (CXM_eq [4, 6, 7, 9, 14, 15] _ _ _ _).trans (by kernel_rfl)
theorem m67_5 {j67_6 dj67_6 : A7} (hj67_6 : L7 j67_6 dj67_6) : L8 (b67_5 j67_6) (b67_5 dj67_6) := fun _ _ _ _ _ _ _ _ _ =>
  bR fun _ => bR fun _ => bR fun _ => bR fun _ => bR fun _ => bR fun _ => bR fun _ => bR fun _ => bR fun _ => hj67_6 _ _ _ _ _ _ _ _
def b67_l2 (j67_1 : A4) (j67_5 : A8) (x1 x2 x3 x6 x16 x17 x18 : AV) (H : Hp) : Res :=
  bnd (ibin .lss x18 x17) fun t19 =>
  cnd t19
    (j67_5 x1 x2 x3 x6 x16 x17 x18 t19 H)
    (j67_1 x1 x2 x3 x6 H)
theorem e67_l2 (H0 : Hp) (x1 x2 x3 x6 x16 x17 x18 : AV) (H : Hp) : j67_l2 H0 x1 x2 x3 x6 x16 x17 x18 H = b67_l2 (j67_1 H0) (j67_5 H0) x1 x2 x3 x6 x16 x17 x18 H := (LPL_eqm (C := cfg) [4, 6, 7, 9, 14, 15] (tame_block 0 (k67_1_tame H0)) _ _).trans (by kernel_rfl)
theorem m67_l2 {j67_1 dj67_1 : A4} (hj67_1 : L4 j67_1 dj67_1) {j67_5 dj67_5 : A8} (hj67_5 : L8 j67_5 dj67_5) : L7 (b67_l2 j67_1 j67_5) (b67_l2 dj67_1 dj67_5) := fun _ _ _ _ _ _ _ _ =>
  bR fun _ => bK (hj67_5 _ _ _ _ _ _ _ _ _) (hj67_1 _ _ _ _ _)
def rj67_4 (gV : AV → List AV → Hp → Res) (j67_l1 : A5) : A6 := b67_4 j67_l1
theorem sj67_4 (H0 : Hp) {gV : AV → List AV → Hp → Res} (hV : LV gV (acall cfg (callw cfg))) {yj67_l1 : A5} (hj67_l1 : L5 yj67_l1 (j67_l1 H0)) : L6 (rj67_4 gV yj67_l1) (j67_4 H0) := fun _ _ _ _ _ _ _ => le_eq (m67_4 hj67_l1 _ _ _ _ _ _ _) (e67_4 H0 _ _ _ _ _ _ _)
def rj67_3 (gV : AV → List AV → Hp → Res) (j67_l1 : A5) : A7 := b67_3 (rj67_4 gV j67_l1) gV
theorem sj67_3 (H0 : Hp) {gV : AV → List AV → Hp → Res} (hV : LV gV (acall cfg (callw cfg))) {yj67_l1 : A5} (hj67_l1 : L5 yj67_l1 (j67_l1 H0)) : L7 (rj67_3 gV yj67_l1) (j67_3 H0) := fun _ _ _ _ _ _ _ _ => le_eq (m67_3 (sj67_4 H0 hV hj67_l1) hV _ _ _ _ _ _ _ _) (e67_3 H0 _ _ _ _ _ _ _ _)
def rj67_2 (gV : AV → List AV → Hp → Res) (j67_l1 : A5) : A5 := b67_2 (rj67_3 gV j67_l1)
theorem sj67_2 (H0 : Hp) {gV : AV → List AV → Hp → Res} (hV : LV gV (acall cfg (callw cfg))) {yj67_l1 : A5} (hj67_l1 : L5 yj67_l1 (j67_l1 H0)) : L5 (rj67_2 gV yj67_l1) (j67_2 H0) := fun _ _ _ _ _ _ => le_eq (m67_2 (sj67_3 H0 hV hj67_l1) _ _ _ _ _ _) (e67_2 H0 _ _ _ _ _ _)
def rj67_l1 (gV : AV → List AV → Hp → Res) (n : Nat) : A5 := @Nat.rec (fun _ => A5) (fun _ _ _ _ _ _ => none) (fun _ j67_l1 => b67_l1 (rj67_2 gV j67_l1)) n
theorem sj67_l1 (H0 : Hp) {gV : AV → List AV → Hp → Res} (hV : LV gV (acall cfg (callw cfg))) (n : Nat) : L5 (rj67_l1 gV n) (j67_l1 H0) := by
  induction n with
  | zero => exact fun _ _ _ _ _ _ => le_none _
  | succ n hj67_l1 => exact fun _ _ _ _ _ _ => le_eq (m67_l1 (sj67_2 H0 hV hj67_l1) _ _ _ _ _ _) (e67_l1 H0 _ _ _ _ _ _)
def rj67_1 (gV : AV → List AV → Hp → Res) : A4 := b67_1 (rj67_l1 gV 100000)
theorem sj67_1 (H0 : Hp) {gV : AV → List AV → Hp → Res} (hV : LV gV (acall cfg (callw cfg))) : L4 (rj67_1 gV) (j67_1 H0) := fun _ _ _ _ _ => le_eq (m67_1 (sj67_l1 H0 hV 100000) _ _ _ _ _) (e67_1 H0 _ _ _ _ _)
def rj67_6 (gV : AV → List AV → Hp → Res) (j67_l2 : A7) : A7 := b67_6 j67_l2
theorem sj67_6 (H0 : Hp) {gV : AV → List AV → Hp → Res} (hV : LV gV (acall cfg (callw cfg))) {yj67_l2 : A7} (hj67_l2 : L7 yj67_l2 (j67_l2 H0)) : L7 (rj67_6 gV yj67_l2) (j67_6 H0) := fun _ _ _ _ _ _ _ _ => le_eq (m67_6 hj67_l2 _ _ _ _ _ _ _ _) (e67_6 H0 _ _ _ _ _ _ _ _)
def rj67_5 (gV : AV → List AV → Hp → Res) (j67_l2 : A7) : A8 := b67_5 (rj67_6 gV j67_l2)
theorem sj67_5 (H0 : Hp) {gV : AV → List AV → Hp → Res} (hV : LV gV (acall cfg (callw cfg))) {yj67_l2 : A7} (hj67_l2 : L7 yj67_l2 (j67_l2 H0)) : L8 (rj67_5 gV yj67_l2) (j67_5 H0) := fun _ _ _ _ _ _ _ _ _ => le_eq (m67_5 (sj67_6 H0 hV hj67_l2) _ _ _ _ _ _ _ _ _) (e67_5 H0 _ _ _ _ _ _ _ _ _)
def rj67_l2 (gV : AV → List AV → Hp → Res) (n : Nat) : A7 := @Nat.rec (fun _ => A7) (fun _ _ _ _ _ _ _ _ => none) (fun _ j67_l2 => b67_l2 (rj67_1 gV) (rj67_5 gV j67_l2)) n
theorem sj67_l2 (H0 : Hp) {gV : AV → List AV → Hp → Res} (hV : LV gV (acall cfg (callw cfg))) (n : Nat) : L7 (rj67_l2 gV n) (j67_l2 H0) := by
  induction n with
  | zero => exact fun _ _ _ _ _ _ _ _ => le_none _
  | succ n hj67_l2 => exact fun _ _ _ _ _ _ _ _ => le_eq (m67_l2 (sj67_1 H0 hV) (sj67_5 H0 hV hj67_l2) _ _ _ _ _ _ _ _) (e67_l2 H0 _ _ _ _ _ _ _ _)
def bc67 (j67_l2 : A7) (p0 p1 p2 : AV) (H : Hp) : Res :=
  bnd (abox p0 H) fun r3 =>
  bnd (some ((.map r3.2.length), r3.2 ++ [.map [] 0])) fun r14 =>
  bnd (afield 5 r3.1) fun t15 =>
  bnd (aload false 1 t15 r14.2) fun t16 =>
  bnd (alenD (.slice 116) t16) fun t17 =>
  j67_l2 p1 p2 r3.1 r14.1 t16 t17 (.int .i64 0) r14.2
theorem ec67 (p0 p1 p2 : AV) (H : Hp) : c67 p0 p1 p2 H = bc67 (j67_l2 H) p0 p1 p2 H := (callw_cxm (C := cfg) (fn := Tryz.f67) (c := bodyOf Tryz.f67) (n := 75) [4, 6, 7, 9, 14, 15] Tryz.func67 (by kernel_rfl) (by kernel_rfl) [p0, p1, p2] (by kernel_rfl) H).trans (by kernel_rfl)
theorem mc67 {j67_l2 dj67_l2 : A7} (hj67_l2 : L7 j67_l2 dj67_l2) : L3 (bc67 j67_l2) (bc67 dj67_l2) := fun _ _ _ _ =>
  bR fun _ => bR fun _ => bR fun _ => bR fun _ => bR fun _ => hj67_l2 _ _ _ _ _ _ _ _
def rc67 (gV : AV → List AV → Hp → Res) : A3 := fun p0 p1 p2 H => bc67 (rj67_l2 gV 100000) p0 p1 p2 H
theorem sc67 {gV : AV → List AV → Hp → Res} (hV : LV gV (acall cfg (callw cfg))) : L3 (rc67 gV) c67 := fun _ _ _ H => le_eq (mc67 (sj67_l2 H hV 100000) _ _ _ _) (ec67 _ _ _ _)

def c66 (p0 p1 : AV) (H : Hp) : Res := callw cfg 66 [p0, p1] H
def bc66 (c67 : A3) (p0 p1 : AV) (H : Hp) : Res :=
  bnd (some ((.ptr H.length 0), H ++ [.cells [.nils]])) fun r4 =>
  bnd (aload true 6 p1 r4.2) fun t5 =>
  bnd (some (.fn (.func 68) [] [r4.1])) fun t7 =>
  bnd (c67 t5 p0 t7 r4.2) fun r8 =>
  bnd (aload false 1 r4.1 r8.2) fun t9 =>
  some (t9, r8.2)
theorem ec66 (p0 p1 : AV) (H : Hp) : c66 p0 p1 H = bc66 c67 p0 p1 H := (callw_cxm (C := cfg) (fn := Tryz.f66) (c := bodyOf Tryz.f66) (n := 10) [] Tryz.func66 (by kernel_rfl) (by kernel_rfl) [p0, p1] (by kernel_rfl) H).trans (by kernel_rfl)
theorem mc66 {c67 dc67 : A3} (hc67 : L3 c67 dc67) : L2 (bc66 c67) (bc66 dc67) := fun _ _ _ =>
  bR fun _ => bR fun _ => bR fun _ => bC (hc67 _ _ _ _) fun _ => bR fun _ => le_refl _
def rc66 (gV : AV → List AV → Hp → Res) : A2 := fun p0 p1 H => bc66 (rc67 gV) p0 p1 H
theorem sc66 {gV : AV → List AV → Hp → Res} (hV : LV gV (acall cfg (callw cfg))) : L2 (rc66 gV) c66 := fun _ _ H => le_eq (mc66 (sc67 hV) _ _ _) (ec66 _ _ _)
def c68 (p0 p1 p2 : AV) (H : Hp) : Res := callw cfg 68 [p0, p1, p2] H
def bc68 (p0 p1 p2 : AV) (H : Hp) : Res :=
  bnd (aload false 1 p2 H) fun t6 =>
  bnd ((setElems 1 [(0, p1)] [(.int .i64 0)]).map (.vs 1 .clip)) fun t8 =>
  bnd (aappE 1 8 t6 t8 H) fun r9 =>
  bnd (astoreU 1 p2 r9.1 r9.2) fun r_4 =>
  some ((.bool true), r_4.2)
theorem ec68 (p0 p1 p2 : AV) (H : Hp) : c68 p0 p1 p2 H = bc68 p0 p1 p2 H := (callw_cxm (C := cfg) (fn := Tryz.f68) (c := bodyOf Tryz.f68) (n := 10) [] Tryz.func68 (by kernel_rfl) (by kernel_rfl) [p0, p1, p2] (by kernel_rfl) H).trans (by kernel_rfl)
theorem mc68 : L3 (bc68) (bc68) := fun _ _ _ _ =>
  bR fun _ => bR fun _ => bR fun _ => bR fun _ => le_refl _
def rc68 : A3 := fun p0 p1 p2 H => bc68 p0 p1 p2 H
theorem sc68 : L3 rc68 c68 := fun _ _ _ H => le_eq (mc68 _ _ _ _) (ec68 _ _ _ _)

def c128 (p0 p1 : AV) (H : Hp) : Res := callw cfg 128 [p0, p1] H
def bc128 (p0 p1 : AV) (H : Hp) : Res :=
  bnd (alenD .string p0) fun t6 =>
  bnd (alenD .string p1) fun t8 =>
  bnd (ibin .geq t6 t8) fun t9 =>
  bnd (gdv t9 true (.tuple []) (some p0)) fun t11 =>
  bnd (gdv t9 true (.tuple []) (some p1)) fun t12 =>
  bnd (gdv t9 true (.tuple []) (alenD .string t12)) fun t13 =>
  bnd (gdv t9 true (.tuple []) (asliceS t11 none (some t13) none)) fun t14 =>
  bnd (gdv t9 true (.tuple []) (some p1)) fun t15 =>
  bnd (gdv t9 true (.tuple []) (sbin .eql t14 t15)) fun t16 =>
  bnd (apick t9 t16 (.bool false)) fun t17 =>
  some (t17, H)
theorem ec128 (p0 p1 : AV) (H : Hp) : c128 p0 p1 H = bc128 p0 p1 H := (callw_cxm (C := cfg) (fn := Tryz.f128) (c := bodyOf Tryz.f128) (n := 18) [] Tryz.func128 (by kernel_rfl) (by kernel_rfl) [p0, p1] (by kernel_rfl) H).trans (by kernel_rfl)
theorem mc128 : L2 (bc128) (bc128) := fun _ _ _ =>
  bR fun _ => bR fun _ => bR fun _ => bR fun _ => bR fun _ => bR fun _ => bR fun _ => bR fun _ => bR fun _ => bR fun _ => le_refl _
def rc128 : A2 := fun p0 p1 H => bc128 p0 p1 H
theorem sc128 : L2 rc128 c128 := fun _ _ H => le_eq (mc128 _ _ _) (ec128 _ _ _)

def c123 (p0 p1 : AV) (H : Hp) : Res := callw cfg 123 [p0, p1] H
def bc123 (c128 : A2) (p0 p1 : AV) (H : Hp) : Res :=
  bnd (c128 p0 p1 H) fun r7 =>
  some (r7.1, r7.2)
theorem ec123 (p0 p1 : AV) (H : Hp) : c123 p0 p1 H = bc123 c128 p0 p1 H := (callw_cxm (C := cfg) (fn := Tryz.f123) (c := bodyOf Tryz.f123) (n := 8) [] Tryz.func123 (by kernel_rfl) (by kernel_rfl) [p0, p1] (by kernel_rfl) H).trans (by kernel_rfl)
theorem mc123 {c128 dc128 : A2} (hc128 : L2 c128 dc128) : L2 (bc123 c128) (bc123 dc128) := fun _ _ _ =>
  bC (hc128 _ _ _) fun _ => le_refl _
def rc123 : A2 := fun p0 p1 H => bc123 rc128 p0 p1 H
theorem sc123 : L2 rc123 c123 := fun _ _ H => le_eq (mc123 sc128 _ _ _) (ec123 _ _ _)

def c129 (p0 : AV) (H : Hp) : Res := callw cfg 129 [p0] H
def j129_1 (H0 : Hp) (x3 : AV) (H : Hp) : Res := CXf 129 23 (sub (bodyOf Tryz.f129) [1, 1, 1]) (retL cfg 23 129 Tryz.f129 H0) [(3, x3)] H
def k129_1 (H0 : Hp) : KL := seqL (fun k al H => CXf 129 23 (sub (bodyOf Tryz.f129) [1, 1, 1]) k (trimL (cfg.keep 129) (sub (bodyOf Tryz.f129) [1, 1, 1]) al) H) (retL cfg 23 129 Tryz.f129 H0)
theorem k129_1_tame (H0 : Hp) : Tame 23 (k129_1 H0) := tame_seq (C := cfg) (kp := cfg.keep 129) (sub (bodyOf Tryz.f129) [1, 1, 1]) (tame_ret 129 Tryz.f129 H0)
def j129_2 (H0 : Hp) (x0 x3 : AV) (H : Hp) : Res := CXf 129 23 (sub (bodyOf Tryz.f129) [1, 1, 0, 0, 0, 1]) (seqL (fun k al H => LPf 129 23 (sub (bodyOf Tryz.f129) [1, 1, 0, 0, 0]) k (trimL (cfg.keep 129) (sub (bodyOf Tryz.f129) [1, 1, 0, 0, 0]) al) H) (blockL 0 (k129_1 H0))) [(0, x0), (3, x3)] H
def j129_l1 (H0 : Hp) (x0 x3 : AV) (H : Hp) : Res := LPf 129 23 (sub (bodyOf Tryz.f129) [1, 1, 0, 0, 0]) (blockL 0 (k129_1 H0)) [(0, x0), (3, x3)] H
def b129_1 (x3 : AV) (H : Hp) : Res :=
  some (x3, H)
theorem e129_1 (H0 : Hp) (x3 : AV) (H : Hp) : j129_1 H0 x3 H = b129_1 x3 H := (CXM_eq [3, 4] _ _ _ _).trans (by kernel_rfl)
theorem m129_1 : L1 (b129_1) (b129_1) := fun _ _ =>
  le_refl _
def b129_2 (j129_l1 : A2) (x0 x3 : AV) (H : Hp) : Res :=
  bnd (ibin .add x3 (.int .i64 1)) fun t21 =>
  j129_l1 x0 t21 H
theorem e129_2 (H0 : Hp) (x0 x3 : AV) (H : Hp) : j129_2 H0 x0 x3 H = b129_2 (j129_l1 H0) x0 x3 H := (CXM_eq [3, 4] _ _ _ _).trans (by kernel_rfl)
theorem m129_2 {j129_l1 dj129_l1 : A2} (hj129_l1 : L2 j129_l1 dj129_l1) : L2 (b129_2 j129_l1) (b129_2 dj129_l1) := fun _ _ _ =>
  bR fun _ => hj129_l1 _ _ _
def b129_l1 (j129_1 : A1) (j129_2 : A2) (x0 x3 : AV) (H : Hp) : Res :=
  bnd (alenD .string x0) fun t6 =>
  bnd (ibin .lss x3 t6) fun t7 =>
  bnd (gdv t7 true (.tuple []) (some x0)) fun t9 =>
  bnd (gdv t7 true (.tuple []) (some x3)) fun t10 =>
  bnd (gdv t7 true (.tuple []) (aindexStr t9 t10)) fun t11 =>
  bnd (gdv t7 true (.tuple []) (ibin .geq t11 (.int .u8 48))) fun t12 =>
  bnd (apick t7 t12 (.bool false)) fun t13 =>
  bnd (gdv t13 true (.tuple []) (some x0)) fun t15 =>
  bnd (gdv t13 true (.tuple []) (some x3)) fun t16 =>
  bnd (gdv t13 true (.tuple []) (aindexStr t15 t16)) fun t17 =>
  bnd (gdv t13 true (.tuple []) (ibin .leq t17 (.int .u8 57))) fun t18 =>
  bnd (apick t13 t18 (.bool false)) fun t19 =>
  cnd t19
    (j129_2 x0 x3 H)
    (j129_1 x3 H)
theorem e129_l1 (H0 : Hp) (x0 x3 : AV) (H : Hp) : j129_l1 H0 x0 x3 H = b129_l1 (j129_1 H0) (j129_2 H0) x0 x3 H := (LPL_eqm (C := cfg) [3, 4] (tame_block 0 (k129_1_tame H0)) _ _).trans (by kernel_rfl)
theorem m129_l1 {j129_1 dj129_1 : A1} (hj129_1 : L1 j129_1 dj129_1) {j129_2 dj129_2 : A2} (hj129_2 : L2 j129_2 dj129_2) : L2 (b129_l1 j129_1 j129_2) (b129_l1 dj129_1 dj129_2) := fun _ _ _ =>
  bR fun _ => bR fun _ => bR fun _ => bR fun _ => bR fun _ => bR fun _ => bR fun _ => bR fun _ => bR fun _ => bR fun _ => bR fun _ => bR fun _ => bK (hj129_2 _ _ _) (hj129_1 _ _)
def rj129_1 : A1 := b129_1
theorem sj129_1 (H0 : Hp) : L1 (rj129_1) (j129_1 H0) := fun _ _ => le_eq (m129_1 _ _) (e129_1 H0 _ _)
def rj129_2 (j129_l1 : A2) : A2 := b129_2 j129_l1
theorem sj129_2 (H0 : Hp) {yj129_l1 : A2} (hj129_l1 : L2 yj129_l1 (j129_l1 H0)) : L2 (rj129_2 yj129_l1) (j129_2 H0) := fun _ _ _ => le_eq (m129_2 hj129_l1 _ _ _) (e129_2 H0 _ _ _)
def rj129_l1 (n : Nat) : A2 := @Nat.rec (fun _ => A2) (fun _ _ _ => none) (fun _ j129_l1 => b129_l1 (rj129_1) (rj129_2 j129_l1)) n
theorem sj129_l1 (H0 : Hp) (n : Nat) : L2 (rj129_l1 n) (j129_l1 H0) := by
  induction n with
  | zero => exact fun _ _ _ => le_none _
  | succ n hj129_l1 => exact fun _ _ _ => le_eq (m129_l1 (sj129_1 H0) (sj129_2 H0 hj129_l1) _ _ _) (e129_l1 H0 _ _ _)
def bc129 (j129_l1 : A2) (p0 : AV) (H : Hp) : Res :=
  j129_l1 p0 (.int .i64 0) H
theorem ec129 (p0 : AV) (H : Hp) : c129 p0 H = bc129 (j129_l1 H) p0 H := (callw_cxm (C := cfg) (fn := Tryz.f129) (c := bodyOf Tryz.f129) (n := 23) [3, 4] Tryz.func129 (by kernel_rfl) (by kernel_rfl) [p0] (by kernel_rfl) H).trans (by kernel_rfl)
theorem mc129 {j129_l1 dj129_l1 : A2} (hj129_l1 : L2 j129_l1 dj129_l1) : L1 (bc129 j129_l1) (bc129 dj129_l1) := fun _ _ =>
  hj129_l1 _ _ _
def rc129 : A1 := fun p0 H => bc129 (rj129_l1 100000) p0 H
theorem sc129 : L1 rc129 c129 := fun _ H => le_eq (mc129 (sj129_l1 H 100000) _ _) (ec129 _ _)
def q129 : A1 := fun p0 H => flatC (callw cfg 129) [p0] H
def rq129 : A1 := fun p0 H => flatC (ofL1 (rc129)) [p0] H
theorem sq129 : L1 rq129 q129 := fun _ _ => flat_le (ofL1_le (sc129)) _ _

def c131 (p0 : AV) (H : Hp) : Res := callw cfg 131 [p0] H
def j131_3 (H0 : Hp) (H : Hp) : Res := CXf 131 42 (sub (bodyOf Tryz.f131) [1, 1, 1, 1, 1]) (retL cfg 42 131 Tryz.f131 H0) [] H
def k131_1 (H0 : Hp) : KL := seqL (fun k al H => CXf 131 42 (sub (bodyOf Tryz.f131) [1, 1, 1, 1, 1]) k (trimL (cfg.keep 131) (sub (bodyOf Tryz.f131) [1, 1, 1, 1, 1]) al) H) (retL cfg 42 131 Tryz.f131 H0)
theorem k131_1_tame (H0 : Hp) : Tame 42 (k131_1 H0) := tame_seq (C := cfg) (kp := cfg.keep 131) (sub (bodyOf Tryz.f131) [1, 1, 1, 1, 1]) (tame_ret 131 Tryz.f131 H0)
def j131_5 (H0 : Hp) (x3 x27 x28 : AV) (H : Hp) : Res := CXf 131 42 (sub (bodyOf Tryz.f131) [1, 1, 1, 1, 0, 1, 0, 0, 1, 1, 1]) (seqL (fun k al H => LPf 131 42 (sub (bodyOf Tryz.f131) [1, 1, 1, 1, 0, 1, 0, 0]) k (trimL (cfg.keep 131) (sub (bodyOf Tryz.f131) [1, 1, 1, 1, 0, 1, 0, 0]) al) H) (blockL 0 (k131_1 H0))) [(3, x3), (27, x27), (28, x28)] H
def j131_4 (H0 : Hp) (x3 x27 x28 x29 : AV) (H : Hp) : Res := CXf 131 42 (sub (bodyOf Tryz.f131) [1, 1, 1, 1, 0, 1, 0, 0, 1, 1]) (seqL (fun k al H => LPf 131 42 (sub (bodyOf Tryz.f131) [1, 1, 1, 1, 0, 1, 0, 0]) k (trimL (cfg.keep 131) (sub (bodyOf Tryz.f131) [1, 1, 1, 1, 0, 1, 0, 0]) al) H) (blockL 0 (k131_1 H0))) [(3, x3), (27, x27), (28, x28), (29, x29)] H
def j131_l1 (H0 : Hp) (x3 x27 x28 : AV) (H : Hp) : Res := LPf 131 42 (sub (bodyOf Tryz.f131) [1, 1, 1, 1, 0, 1, 0, 0]) (blockL 0 (k131_1 H0)) [(3, x3), (27, x27), (28, x28)] H
def j131_2 (H0 : Hp) (x3 : AV) (H : Hp) : Res := CXf 131 42 (sub (bodyOf Tryz.f131) [1, 1, 1, 1]) (retL cfg 42 131 Tryz.f131 H0) [(3, x3)] H
def j131_1 (H0 : Hp) (x0 x3 : AV) (H : Hp) : Res := CXf 131 42 (sub (bodyOf Tryz.f131) [1, 1, 1]) (retL cfg 42 131 Tryz.f131 H0) [(0, x0), (3, x3)] H
def b131_3 (H : Hp) : Res :=
  some ((.bool true), H)
theorem e131_3 (H0 : Hp) (H : Hp) : j131_3 H0 H = b131_3 H := (CXM_eq [4, 6, 8, 11, 12] _ _ _ _).trans (by kernel_rfl)
theorem m131_3 : L0 (b131_3) (b131_3) := fun _ =>
  le_refl _
def b131_5 (j131_l1 : A3) (x3 x27 x28 : AV) (H : Hp) : Res :=
  bnd (ibin .add x28 (.int .i64 1)) fun t41 =>
  j131_l1 x3 x27 t41 H
theorem e131_5 (H0 : Hp) (x3 x27 x28 : AV) (H : Hp) : j131_5 H0 x3 x27 x28 H = b131_5 (j131_l1 H0) x3 x27 x28 H := (CXM_eq [4, 6, 8, 11, 12] _ _ _ _).trans (by kernel_rfl)
theorem m131_5 {j131_l1 dj131_l1 : A3} (hj131_l1 : L3 j131_l1 dj131_l1) : L3 (b131_5 j131_l1) (b131_5 dj131_l1) := fun _ _ _ _ =>
  bR fun _ => hj131_l1 _ _ _ _
def b131_4 (j131_5 : A3) (x3 x27 x28 x29 : AV) (H : Hp) : Res :=
  bnd (aindexStr x3 x28) fun t33 =>
  bnd (ibin .lss t33 (.int .u8 48)) fun t34 =>
  bnd (gdv t34 false (.tuple []) (some x3)) fun t36 =>
  bnd (gdv t34 false (.tuple []) (some x28)) fun t37 =>
  bnd (gdv t34 false (.tuple []) (aindexStr t36 t37)) fun t38 =>
  bnd (gdv t34 false (.tuple []) (ibin .gtr t38 (.int .u8 57))) fun t39 =>
  bnd (apick t34 (.bool true) t39) fun t40 =>
  cnd t40
    (some ((.bool false), H))
    (j131_5 x3 x27 x28 H)
theorem e131_4 (H0 : Hp) (x3 x27 x28 x29 : AV) (H : Hp) : j131_4 H0 x3 x27 x28 x29 H = b131_4 (j131_5 H0) x3 x27 x28 x29 H := (CXM_eq [4, 6, 8, 11, 12] _ _ _ _).trans (by kernel_rfl)
theorem m131_4 {j131_5 dj131_5 : A3} (hj131_5 : L3 j131_5 dj131_5) : L4 (b131_4 j131_5) (b131_4 dj131_5) := fun _ _ _ _ _ =>
  bR fun _ => bR fun _ => bR fun _ => bR fun _ => bR fun _ => bR fun _ => bR fun _ => bK (le_refl _) (hj131_5 _ _ _ _)
def b131_l1 (j131_3 : A0) (j131_4 : A4) (x3 x27 x28 : AV) (H : Hp) : Res :=
  bnd (ibin .lss x28 x27) fun t29 =>
  cnd t29
    (j131_4 x3 x27 x28 t29 H)
    (j131_3 H)
theorem e131_l1 (H0 : Hp) (x3 x27 x28 : AV) (H : Hp) : j131_l1 H0 x3 x27 x28 H = b131_l1 (j131_3 H0) (j131_4 H0) x3 x27 x28 H := (LPL_eqm (C := cfg) [4, 6, 8, 11, 12] (tame_block 0 (k131_1_tame H0)) _ _).trans (by kernel_rfl)
theorem m131_l1 {j131_3 dj131_3 : A0} (hj131_3 : L0 j131_3 dj131_3) {j131_4 dj131_4 : A4} (hj131_4 : L4 j131_4 dj131_4) : L3 (b131_l1 j131_3 j131_4) (b131_l1 dj131_3 dj131_4) := fun _ _ _ _ =>
  bR fun _ => bK (hj131_4 _ _ _ _ _) (hj131_3 _)
def b131_2 (j131_l1 : A3) (x3 : AV) (H : Hp) : Res :=
  bnd (alenD .string x3) fun t27 =>
  j131_l1 x3 t27 (.int .i64 0) H
theorem e131_2 (H0 : Hp) (x3 : AV) (H : Hp) : j131_2 H0 x3 H = b131_2 (j131_l1 H0) x3 H := (CXM_eq [4, 6, 8, 11, 12] _ _ _ _).trans (by kernel_rfl)
theorem m131_2 {j131_l1 dj131_l1 : A3} (hj131_l1 : L3 j131_l1 dj131_l1) : L1 (b131_2 j131_l1) (b131_2 dj131_l1) := fun _ _ =>
  bR fun _ => hj131_l1 _ _ _ _
def b131_1 (j131_2 : A1) (x0 x3 : AV) (H : Hp) : Res :=
  bnd (sbin .eql x3 (.str [])) fun t16 =>
  bnd (gdv t16 false (.tuple []) (some x3)) fun t18 =>
  bnd (gdv t16 false (.tuple []) (aindexStr t18 (.int .i64 0))) fun t19 =>
  bnd (gdv t16 false (.tuple []) (ibin .eql t19 (.int .u8 48))) fun t20 =>
  bnd (gdv t16 false (.tuple []) (some t20)) fun t21 =>
  bnd (gdv t21 true (.tuple []) (some x0)) fun t22 =>
  bnd (gdv t21 true (.tuple []) (sbin .neq t22 (.str [48]))) fun t23 =>
  bnd (gdv t16 false (.tuple []) (apick t21 t23 (.bool false))) fun t24 =>
  bnd (apick t16 (.bool true) t24) fun t25 =>
  cnd t25
    (some ((.bool false), H))
    (j131_2 x3 H)
theorem e131_1 (H0 : Hp) (x0 x3 : AV) (H : Hp) : j131_1 H0 x0 x3 H = b131_1 (j131_2 H0) x0 x3 H := (CXM_eq [4, 6, 8, 11, 12] _ _ _ _).trans (by kernel_rfl)
theorem m131_1 {j131_2 dj131_2 : A1} (hj131_2 : L1 j131_2 dj131_2) : L2 (b131_1 j131_2) (b131_1 dj131_2) := fun _ _ _ =>
  bR fun _ => bR fun _ => bR fun _ => bR fun _ => bR fun _ => bR fun _ => bR fun _ => bR fun _ => bR fun _ => bK (le_refl _) (hj131_2 _ _)
def rj131_3 : A0 := b131_3
theorem sj131_3 (H0 : Hp) : L0 (rj131_3) (j131_3 H0) := fun _ => le_eq (m131_3 _) (e131_3 H0 _)
def rj131_5 (j131_l1 : A3) : A3 := b131_5 j131_l1
theorem sj131_5 (H0 : Hp) {yj131_l1 : A3} (hj131_l1 : L3 yj131_l1 (j131_l1 H0)) : L3 (rj131_5 yj131_l1) (j131_5 H0) := fun _ _ _ _ => le_eq (m131_5 hj131_l1 _ _ _ _) (e131_5 H0 _ _ _ _)
def rj131_4 (j131_l1 : A3) : A4 := b131_4 (rj131_5 j131_l1)
theorem sj131_4 (H0 : Hp) {yj131_l1 : A3} (hj131_l1 : L3 yj131_l1 (j131_l1 H0)) : L4 (rj131_4 yj131_l1) (j131_4 H0) := fun _ _ _ _ _ => le_eq (m131_4 (sj131_5 H0 hj131_l1) _ _ _ _ _) (e131_4 H0 _ _ _ _ _)
def rj131_l1 (n : Nat) : A3 := @Nat.rec (fun _ => A3) (fun _ _ _ _ => none) (fun _ j131_l1 => b131_l1 (rj131_3) (rj131_4 j131_l1)) n
theorem sj131_l1 (H0 : Hp) (n : Nat) : L3 (rj131_l1 n) (j131_l1 H0) := by
  induction n with
  | zero => exact fun _ _ _ _ => le_none _
  | succ n hj131_l1 => exact fun _ _ _ _ => le_eq (m131_l1 (sj131_3 H0) (sj131_4 H0 hj131_l1) _ _ _ _) (e131_l1 H0 _ _ _ _)
def rj131_2 : A1 := b131_2 (rj131_l1 100000)
theorem sj131_2 (H0 : Hp) : L1 (rj131_2) (j131_2 H0) := fun _ _ => le_eq (m131_2 (sj131_l1 H0 100000) _ _) (e131_2 H0 _ _)
def rj131_1 : A2 := b131_1 (rj131_2)
theorem sj131_1 (H0 : Hp) : L2 (rj131_1) (j131_1 H0) := fun _ _ _ => le_eq (m131_1 (sj131_2 H0) _ _ _) (e131_1 H0 _ _ _)
def bc131 (j131_1 : A2) (p0 : AV) (H : Hp) : Res :=
  bnd (sbin .neq p0 (.str [])) fun t7 =>
  bnd (gdv t7 true (.tuple []) (some p0)) fun t9 =>
  bnd (gdv t7 true (.tuple []) (aindexStr t9 (.int .i64 0))) fun t10 =>
  bnd (gdv t7 true (.tuple []) (ibin .eql t10 (.int .u8 45))) fun t11 =>
  bnd (apick t7 t11 (.bool false)) fun t12 =>
  cnd t12
    (bnd (asliceS p0 (some (.int .i64 1)) none none) fun t14 =>
    j131_1 p0 t14 H)
    (j131_1 p0 p0 H)
theorem ec131 (p0 : AV) (H : Hp) : c131 p0 H = bc131 (j131_1 H) p0 H := (callw_cxm (C := cfg) (fn := Tryz.f131) (c := bodyOf Tryz.f131) (n := 42) [4, 6, 8, 11, 12] Tryz.func131 (by kernel_rfl) (by kernel_rfl) [p0] (by kernel_rfl) H).trans (by kernel_rfl)
theorem mc131 {j131_1 dj131_1 : A2} (hj131_1 : L2 j131_1 dj131_1) : L1 (bc131 j131_1) (bc131 dj131_1) := fun _ _ =>
  bR fun _ => bR fun _ => bR fun _ => bR fun _ => bR fun _ => bK (bR fun _ => hj131_1 _ _ _) (hj131_1 _ _ _)
def rc131 : A1 := fun p0 H => bc131 (rj131_1) p0 H
theorem sc131 : L1 rc131 c131 := fun _ H => le_eq (mc131 (sj131_1 H) _ _) (ec131 _ _)
def q131 : A1 := fun p0 H => flatC (callw cfg 131) [p0] H
def rq131 : A1 := fun p0 H => flatC (ofL1 (rc131)) [p0] H
theorem sq131 : L1 rq131 q131 := fun _ _ => flat_le (ofL1_le (sc131)) _ _

def c130 (p0 : AV) (H : Hp) : Res := callw cfg 130 [p0] H
def j130_2 (H0 : Hp) (x4 : AV) (H : Hp) : Res := CXf 130 17 (sub (bodyOf Tryz.f130) [1, 1, 1, 1]) (retL cfg 17 130 Tryz.f130 H0) [(4, x4)] H
def j130_1 (H0 : Hp) (x0 : AV) (H : Hp) : Res := CXf 130 17 (sub (bodyOf Tryz.f130) [1, 1]) (retL cfg 17 130 Tryz.f130 H0) [(0, x0)] H
def b130_2 (x4 : AV) (H : Hp) : Res :=
  some ((.tuple [x4, (.int .i64 0)]), H)
theorem e130_2 (H0 : Hp) (x4 : AV) (H : Hp) : j130_2 H0 x4 H = b130_2 x4 H := (CXM_eq [3, 6] _ _ _ _).trans (by kernel_rfl)
theorem m130_2 : L1 (b130_2) (b130_2) := fun _ _ =>
  le_refl _
def b130_1 (j130_2 : A1) (x0 : AV) (H : Hp) : Res :=
  bnd (sumC atoiA [x0] H) fun r11 =>
  bnd (aext r11.1 0) fun t12 =>
  bnd (aext r11.1 1) fun t13 =>
  bnd (ebinI .neq t13 .nili) fun t15 =>
  cnd t15
    (some ((.tuple [(.int .i64 0), (.int .i64 9)]), r11.2))
    (j130_2 t12 r11.2)
theorem e130_1 (H0 : Hp) (x0 : AV) (H : Hp) : j130_1 H0 x0 H = b130_1 (j130_2 H0) x0 H := (CXM_eq [3, 6] _ _ _ _).trans (by kernel_rfl)
theorem m130_1 {j130_2 dj130_2 : A1} (hj130_2 : L1 j130_2 dj130_2) : L1 (b130_1 j130_2) (b130_1 dj130_2) := fun _ _ =>
  bR fun _ => bR fun _ => bR fun _ => bR fun _ => bK (le_refl _) (hj130_2 _ _)
def rj130_2 : A1 := b130_2
theorem sj130_2 (H0 : Hp) : L1 (rj130_2) (j130_2 H0) := fun _ _ => le_eq (m130_2 _ _) (e130_2 H0 _ _)
def rj130_1 : A1 := b130_1 (rj130_2)
theorem sj130_1 (H0 : Hp) : L1 (rj130_1) (j130_1 H0) := fun _ _ => le_eq (m130_1 (sj130_2 H0) _ _) (e130_1 H0 _ _)
def bc130 (q131 : A1) (j130_1 : A1) (p0 : AV) (H : Hp) : Res :=
  bnd (q131 p0 H) fun r7 =>
  bnd (aun .not r7.1) fun t8 =>
  cnd t8
    (some ((.tuple [(.int .i64 0), (.int .i64 1)]), r7.2))
    (j130_1 p0 r7.2)
theorem ec130 (p0 : AV) (H : Hp) : c130 p0 H = bc130 q131 (j130_1 H) p0 H := (callw_cxm (C := cfg) (fn := Tryz.f130) (c := bodyOf Tryz.f130) (n := 17) [3, 6] Tryz.func130 (by kernel_rfl) (by kernel_rfl) [p0] (by kernel_rfl) H).trans (by kernel_rfl)
theorem mc130 {q131 dq131 : A1} (hq131 : L1 q131 dq131) {j130_1 dj130_1 : A1} (hj130_1 : L1 j130_1 dj130_1) : L1 (bc130 q131 j130_1) (bc130 dq131 dj130_1) := fun _ _ =>
  bC (hq131 _ _) fun _ => bR fun _ => bK (le_refl _) (hj130_1 _ _)
def rc130 : A1 := fun p0 H => bc130 rq131 (rj130_1) p0 H
theorem sc130 : L1 rc130 c130 := fun _ H => le_eq (mc130 sq131 (sj130_1 H) _ _) (ec130 _ _)
def q130 : A1 := fun p0 H => flatC (callw cfg 130) [p0] H
def rq130 : A1 := fun p0 H => flatC (ofL1 (rc130)) [p0] H
theorem sq130 : L1 rq130 q130 := fun _ _ => flat_le (ofL1_le (sc130)) _ _

def c127 (p0 p1 : AV) (H : Hp) : Res := callw cfg 127 [p0, p1] H
def j127_1 (H0 : Hp) (x1 x7 x8 x9 : AV) (H : Hp) : Res := CXf 127 33 (sub (bodyOf Tryz.f127) [1, 1, 1, 1]) (retL cfg 33 127 Tryz.f127 H0) [(1, x1), (7, x7), (8, x8), (9, x9)] H
def b127_1 (x1 x7 x8 x9 : AV) (H : Hp) : Res :=
  bnd (asliceS x1 (some x7) none none) fun t30 =>
  bnd (ibin .eql x9 (.int .i64 0)) fun t32 =>
  some ((.tuple [x8, t30, t32]), H)
theorem e127_1 (H0 : Hp) (x1 x7 x8 x9 : AV) (H : Hp) : j127_1 H0 x1 x7 x8 x9 H = b127_1 x1 x7 x8 x9 H := (CXM_eq [6] _ _ _ _).trans (by kernel_rfl)
theorem m127_1 : L4 (b127_1) (b127_1) := fun _ _ _ _ _ =>
  bR fun _ => bR fun _ => le_refl _
def rj127_1 : A4 := b127_1
theorem sj127_1 (H0 : Hp) : L4 (rj127_1) (j127_1 H0) := fun _ _ _ _ _ => le_eq (m127_1 _ _ _ _ _) (e127_1 H0 _ _ _ _ _)
def bc127 (q129 : A1) (q130 : A1) (j127_1 : A4) (p0 p1 : AV) (H : Hp) : Res :=
  bnd (q129 p1 H) fun r11 =>
  bnd (asliceS p1 none (some r11.1) none) fun t15 =>
  bnd (q130 t15 r11.2) fun r16 =>
  bnd (aext r16.1 0) fun t17 =>
  bnd (aext r16.1 1) fun t18 =>
  bnd (ibin .eql t18 (.int .i64 9)) fun t20 =>
  cnd t20
    (bnd (anil p0) fun t22 =>
    bnd (afield 4 t22) fun t23 =>
    bnd (astoreU 1 t23 (.bool true) r16.2) fun r_11 =>
    bnd (asliceS p1 (some r11.1) none none) fun t26 =>
    some ((.tuple [(.int .i64 1), t26, (.bool true)]), r_11.2))
    (j127_1 p1 r11.1 t17 t18 r16.2)
theorem ec127 (p0 p1 : AV) (H : Hp) : c127 p0 p1 H = bc127 q129 q130 (j127_1 H) p0 p1 H := (callw_cxm (C := cfg) (fn := Tryz.f127) (c := bodyOf Tryz.f127) (n := 33) [6] Tryz.func127 (by kernel_rfl) (by kernel_rfl) [p0, p1] (by kernel_rfl) H).trans (by kernel_rfl)
theorem mc127 {q129 dq129 : A1} (hq129 : L1 q129 dq129) {q130 dq130 : A1} (hq130 : L1 q130 dq130) {j127_1 dj127_1 : A4} (hj127_1 : L4 j127_1 dj127_1) : L2 (bc127 q129 q130 j127_1) (bc127 dq129 dq130 dj127_1) := fun _ _ _ =>
  bC (hq129 _ _) fun _ => bR fun _ => bC (hq130 _ _) fun _ => bR fun _ => bR fun _ => bR fun _ => bK (bR fun _ => bR fun _ => bR fun _ => bR fun _ => le_refl _) (hj127_1 _ _ _ _ _)
def rc127 : A2 := fun p0 p1 H => bc127 rq129 rq130 (rj127_1) p0 p1 H
theorem sc127 : L2 rc127 c127 := fun _ _ H => le_eq (mc127 sq129 sq130 (sj127_1 H) _ _ _) (ec127 _ _ _)

def c122 (p0 p1 : AV) (H : Hp) : Res := callw cfg 122 [p0, p1] H
def j122_2 (H0 : Hp) (x1 x7 : AV) (H : Hp) : Res := CXf 122 63 (sub (bodyOf Tryz.f122) [1, 1, 1, 1, 1]) (retL cfg 63 122 Tryz.f122 H0) [(1, x1), (7, x7)] H
def k122_1 (H0 : Hp) : KL := seqL (fun k al H => CXf 122 63 (sub (bodyOf Tryz.f122) [1, 1, 1, 1, 1]) k (trimL (cfg.keep 122) (sub (bodyOf Tryz.f122) [1, 1, 1, 1, 1]) al) H) (retL cfg 63 122 Tryz.f122 H0)
theorem k122_1_tame (H0 : Hp) : Tame 63 (k122_1 H0) := tame_seq (C := cfg) (kp := cfg.keep 122) (sub (bodyOf Tryz.f122) [1, 1, 1, 1, 1]) (tame_ret 122 Tryz.f122 H0)
def j122_3 (H0 : Hp) (x0 x1 x7 : AV) (H : Hp) : Res := CXf 122 63 (sub (bodyOf Tryz.f122) [1, 1, 1, 1, 0, 0, 0, 1]) (seqL (fun k al H => LPf 122 63 (sub (bodyOf Tryz.f122) [1, 1, 1, 1, 0, 0, 0]) k (trimL (cfg.keep 122) (sub (bodyOf Tryz.f122) [1, 1, 1, 1, 0, 0, 0]) al) H) (blockL 0 (k122_1 H0))) [(0, x0), (1, x1), (7, x7)] H
def j122_l1 (H0 : Hp) (x0 x1 x7 : AV) (H : Hp) : Res := LPf 122 63 (sub (bodyOf Tryz.f122) [1, 1, 1, 1, 0, 0, 0]) (blockL 0 (k122_1 H0)) [(0, x0), (1, x1), (7, x7)] H
def j122_1 (H0 : Hp) (x0 x1 x7 : AV) (H : Hp) : Res := CXf 122 63 (sub (bodyOf Tryz.f122) [1, 1, 1, 1]) (retL cfg 63 122 Tryz.f122 H0) [(0, x0), (1, x1), (7, x7)] H
def b122_2 (x1 x7 : AV) (H : Hp) : Res :=
  some ((.tuple [x1, x7]), H)
theorem e122_2 (H0 : Hp) (x1 x7 : AV) (H : Hp) : j122_2 H0 x1 x7 H = b122_2 x1 x7 H := (CXM_eq [6, 7, 9] _ _ _ _).trans (by kernel_rfl)
theorem m122_2 : L2 (b122_2) (b122_2) := fun _ _ _ =>
  le_refl _
def b122_3 (j122_l1 : A3) (q95 : A1) (x0 x1 x7 : AV) (H : Hp) : Res :=
  bnd (anil x0) fun t50 =>
  bnd (afield 2 t50) fun t51 =>
  bnd (aload false 1 t51 H) fun t52 =>
  bnd (aindexStr x1 (.int .i64 0)) fun t54 =>
  bnd (q95 t54 H) fun r55 =>
  bnd (ibin .or t52 r55.1) fun t56 =>
  bnd (anil x0) fun t57 =>
  bnd (afield 2 t57) fun t58 =>
  bnd (astoreU 1 t58 t56 r55.2) fun r_16 =>
  bnd (asliceS x1 (some (.int .i64 1)) none none) fun t60 =>
  j122_l1 x0 t60 x7 r_16.2
theorem e122_3 (H0 : Hp) (x0 x1 x7 : AV) (H : Hp) : j122_3 H0 x0 x1 x7 H = b122_3 (j122_l1 H0) q95 x0 x1 x7 H := (CXM_eq [6, 7, 9] _ _ _ _).trans (by kernel_rfl)
theorem m122_3 {j122_l1 dj122_l1 : A3} (hj122_l1 : L3 j122_l1 dj122_l1) {q95 dq95 : A1} (hq95 : L1 q95 dq95) : L3 (b122_3 j122_l1 q95) (b122_3 dj122_l1 dq95) := fun _ _ _ _ =>
  bR fun _ => bR fun _ => bR fun _ => bR fun _ => bC (hq95 _ _) fun _ => bR fun _ => bR fun _ => bR fun _ => bR fun _ => bR fun _ => hj122_l1 _ _ _ _
def b122_l1 (q95 : A1) (j122_2 : A2) (j122_3 : A3) (x0 x1 x7 : AV) (H : Hp) : Res :=
  bnd (gdv x7 true (.tuple []) (some x1)) fun t40 =>
  bnd (gdv x7 true (.tuple []) (sbin .neq t40 (.str []))) fun t41 =>
  bnd (apick x7 t41 (.bool false)) fun t42 =>
  bnd (gdv t42 true (.tuple []) (some x1)) fun t44 =>
  bnd (gdv t42 true (.tuple []) (aindexStr t44 (.int .i64 0))) fun t45 =>
  bnd (gdv t42 true ((.tuple []), H) (q95 t45 H)) fun r46 =>
  bnd (gdv t42 true (.tuple []) (ibin .neq r46.1 (.int .i64 0))) fun t47 =>
  bnd (apick t42 t47 (.bool false)) fun t48 =>
  cnd t48
    (j122_3 x0 x1 x7 r46.2)
    (j122_2 x1 x7 r46.2)
theorem e122_l1 (H0 : Hp) (x0 x1 x7 : AV) (H : Hp) : j122_l1 H0 x0 x1 x7 H = b122_l1 q95 (j122_2 H0) (j122_3 H0) x0 x1 x7 H := (LPL_eqm (C := cfg) [6, 7, 9] (tame_block 0 (k122_1_tame H0)) _ _).trans (by kernel_rfl)
theorem m122_l1 {q95 dq95 : A1} (hq95 : L1 q95 dq95) {j122_2 dj122_2 : A2} (hj122_2 : L2 j122_2 dj122_2) {j122_3 dj122_3 : A3} (hj122_3 : L3 j122_3 dj122_3) : L3 (b122_l1 q95 j122_2 j122_3) (b122_l1 dq95 dj122_2 dj122_3) := fun _ _ _ _ =>
  bR fun _ => bR fun _ => bR fun _ => bR fun _ => bR fun _ => bG (hq95 _ _) fun _ => bR fun _ => bR fun _ => bK (hj122_3 _ _ _ _) (hj122_2 _ _ _)
def b122_1 (j122_l1 : A3) (x0 x1 x7 : AV) (H : Hp) : Res :=
  j122_l1 x0 x1 x7 H
theorem e122_1 (H0 : Hp) (x0 x1 x7 : AV) (H : Hp) : j122_1 H0 x0 x1 x7 H = b122_1 (j122_l1 H0) x0 x1 x7 H := (CXM_eq [6, 7, 9] _ _ _ _).trans (by kernel_rfl)
theorem m122_1 {j122_l1 dj122_l1 : A3} (hj122_l1 : L3 j122_l1 dj122_l1) : L3 (b122_1 j122_l1) (b122_1 dj122_l1) := fun _ _ _ _ =>
  hj122_l1 _ _ _ _
def rj122_2 : A2 := b122_2
theorem sj122_2 (H0 : Hp) : L2 (rj122_2) (j122_2 H0) := fun _ _ _ => le_eq (m122_2 _ _ _) (e122_2 H0 _ _ _)
def rj122_3 (j122_l1 : A3) : A3 := b122_3 j122_l1 rq95
theorem sj122_3 (H0 : Hp) {yj122_l1 : A3} (hj122_l1 : L3 yj122_l1 (j122_l1 H0)) : L3 (rj122_3 yj122_l1) (j122_3 H0) := fun _ _ _ _ => le_eq (m122_3 hj122_l1 sq95 _ _ _ _) (e122_3 H0 _ _ _ _)
def rj122_l1 (n : Nat) : A3 := @Nat.rec (fun _ => A3) (fun _ _ _ _ => none) (fun _ j122_l1 => b122_l1 rq95 (rj122_2) (rj122_3 j122_l1)) n
theorem sj122_l1 (H0 : Hp) (n : Nat) : L3 (rj122_l1 n) (j122_l1 H0) := by
  induction n with
  | zero => exact fun _ _ _ _ => le_none _
  | succ n hj122_l1 => exact fun _ _ _ _ => le_eq (m122_l1 sq95 (sj122_2 H0) (sj122_3 H0 hj122_l1) _ _ _ _) (e122_l1 H0 _ _ _ _)
def rj122_1 : A3 := b122_1 (rj122_l1 100000)
theorem sj122_1 (H0 : Hp) : L3 (rj122_1) (j122_1 H0) := fun _ _ _ _ => le_eq (m122_1 (sj122_l1 H0 100000) _ _ _ _) (e122_1 H0 _ _ _ _)
def bc122 (c123 : A2) (c127 : A2) (j122_1 : A3) (p0 p1 : AV) (H : Hp) : Res :=
  bnd (c127 p0 p1 H) fun r11 =>
  bnd (aext r11.1 0) fun t12 =>
  bnd (aext r11.1 1) fun t13 =>
  bnd (aext r11.1 2) fun t14 =>
  bnd (anil p0) fun t17 =>
  bnd (afield 0 t17) fun t18 =>
  bnd (astoreU 1 t18 t12 r11.2) fun r_7 =>
  bnd (gdv t14 true (.tuple []) (some t13)) fun t21 =>
  bnd (gdv t14 true ((.tuple []), r_7.2) (c123 t21 (.str [46]) r_7.2)) fun r22 =>
  bnd (apick t14 r22.1 (.bool false)) fun t23 =>
  cnd t23
    (bnd (anil p0) fun t25 =>
    bnd (afield 3 t25) fun t26 =>
    bnd (astoreU 1 t26 (.bool true) r22.2) fun r_31 =>
    bnd (asliceS t13 (some (.int .i64 1)) none none) fun t31 =>
    bnd (c127 p0 t31 r_31.2) fun r32 =>
    bnd (aext r32.1 0) fun t33 =>
    bnd (aext r32.1 1) fun t34 =>
    bnd (aext r32.1 2) fun t35 =>
    bnd (anil p0) fun t36 =>
    bnd (afield 1 t36) fun t37 =>
    bnd (astoreU 1 t37 t33 r32.2) fun r_39 =>
    j122_1 p0 t34 t35 r_39.2)
    (j122_1 p0 t13 t14 r22.2)
theorem ec122 (p0 p1 : AV) (H : Hp) : c122 p0 p1 H = bc122 c123 c127 (j122_1 H) p0 p1 H := (callw_cxm (C := cfg) (fn := Tryz.f122) (c := bodyOf Tryz.f122) (n := 63) [6, 7, 9] Tryz.func122 (by kernel_rfl) (by kernel_rfl) [p0, p1] (by kernel_rfl) H).trans (by kernel_rfl)
theorem mc122 {c123 dc123 : A2} (hc123 : L2 c123 dc123) {c127 dc127 : A2} (hc127 : L2 c127 dc127) {j122_1 dj122_1 : A3} (hj122_1 : L3 j122_1 dj122_1) : L2 (bc122 c123 c127 j122_1) (bc122 dc123 dc127 dj122_1) := fun _ _ _ =>
  bC (hc127 _ _ _) fun _ => bR fun _ => bR fun _ => bR fun _ => bR fun _ => bR fun _ => bR fun _ => bR fun _ => bG (hc123 _ _ _) fun _ => bR fun _ => bK (bR fun _ => bR fun _ => bR fun _ => bR fun _ => bC (hc127 _ _ _) fun _ => bR fun _ => bR fun _ => bR fun _ => bR fun _ => bR fun _ => bR fun _ => hj122_1 _ _ _ _) (hj122_1 _ _ _ _)
def rc122 : A2 := fun p0 p1 H => bc122 rc123 rc127 (rj122_1) p0 p1 H
theorem sc122 : L2 rc122 c122 := fun _ _ H => le_eq (mc122 sc123 sc127 (sj122_1 H) _ _ _) (ec122 _ _ _)

def c117 (p0 : AV) (H : Hp) : Res := callw cfg 117 [p0] H
def j117_4 (H0 : Hp) (x2 x4 x5 : AV) (H : Hp) : Res := CXf 117 107 (sub (bodyOf Tryz.f117) [1, 1, 1, 1, 1, 1, 1, 1]) (retL cfg 107 117 Tryz.f117 H0) [(2, x2), (4, x4), (5, x5)] H
def j117_3 (H0 : Hp) (x2 x4 x5 x7 : AV) (H : Hp) : Res := CXf 117 107 (sub (bodyOf Tryz.f117) [1, 1, 1, 1, 1, 1, 1]) (retL cfg 107 117 Tryz.f117 H0) [(2, x2), (4, x4), (5, x5), (7, x7)] H
def j117_2 (H0 : Hp) (x2 x4 x5 x7 : AV) (H : Hp) : Res := CXf 117 107 (sub (bodyOf Tryz.f117) [1, 1, 1, 1, 1, 1]) (retL cfg 107 117 Tryz.f117 H0) [(2, x2), (4, x4), (5, x5), (7, x7)] H
def j117_1 (H0 : Hp) (x0 x2 x4 x5 x6 x7 : AV) (H : Hp) : Res := CXf 117 107 (sub (bodyOf Tryz.f117) [1, 1, 1, 1, 1]) (retL cfg 107 117 Tryz.f117 H0) [(0, x0), (2, x2), (4, x4), (5, x5), (6, x6), (7, x7)] H
def b117_4 (x2 x4 x5 : AV) (H : Hp) : Res :=
  bnd (anil x4) fun t82 =>
  bnd (afield 0 t82) fun t83 =>
  bnd (aload false 1 t83 H) fun t84 =>
  bnd (anil x4) fun t86 =>
  bnd (afield 1 t86) fun t87 =>
  bnd (aload false 1 t87 H) fun t88 =>
  bnd (anil x5) fun t90 =>
  bnd (afield 0 t90) fun t91 =>
  bnd (aload false 1 t91 H) fun t92 =>
  bnd (anil x5) fun t94 =>
  bnd (afield 1 t94) fun t95 =>
  bnd (aload false 1 t95 H) fun t96 =>
  bnd (anil x4) fun t98 =>
  bnd (afield 2 t98) fun t99 =>
  bnd (aload false 1 t99 H) fun t100 =>
  bnd (anil x5) fun t102 =>
  bnd (afield 2 t102) fun t103 =>
  bnd (aload false 1 t103 H) fun t104 =>
  bnd (ibin .or t100 t104) fun t105 =>
  bnd ((afill [(0, 1, t84), (1, 1, t88), (2, 1, t92), (3, 1, t96), (4, 1, t105)] [(.int .i64 0), (.int .i64 0), (.int .i64 0), (.int .i64 0), (.int .i64 0)]).map .agg) fun t106 =>
  bnd (astoreU 5 x2 t106 H) fun r_32 =>
  bnd (aload true 5 x2 r_32.2) fun v2 =>
  some ((.tuple [v2, (.int .i64 0)]), r_32.2)
theorem e117_4 (H0 : Hp) (x2 x4 x5 : AV) (H : Hp) : j117_4 H0 x2 x4 x5 H = b117_4 x2 x4 x5 H := (CXM_eq [6, 8, 10, 12] _ _ _ _).trans (by kernel_rfl)
theorem m117_4 : L3 (b117_4) (b117_4) := fun _ _ _ _ =>
  bR fun _ => bR fun _ => bR fun _ => bR fun _ => bR fun _ => bR fun _ => bR fun _ => bR fun _ => bR fun _ => bR fun _ => bR fun _ => bR fun _ => bR fun _ => bR fun _ => bR fun _ => bR fun _ => bR fun _ => bR fun _ => bR fun _ => bR fun _ => bR fun _ => bR fun _ => le_refl _
def b117_3 (j117_4 : A3) (x2 x4 x5 x7 : AV) (H : Hp) : Res :=
  bnd (anil x4) fun t47 =>
  bnd (afield 4 t47) fun t48 =>
  bnd (aload false 1 t48 H) fun t49 =>
  bnd (gdv t49 false (.tuple []) (some x5)) fun t51 =>
  bnd (gdv t49 false (.tuple []) (anil t51)) fun t52 =>
  bnd (gdv t49 false (.tuple []) (afield 4 t52)) fun t53 =>
  bnd (gdv t49 false (.tuple []) (aload false 1 t53 H)) fun t54 =>
  bnd (apick t49 (.bool true) t54) fun t55 =>
  bnd (gdv t55 false (.tuple []) (some x4)) fun t57 =>
  bnd (gdv t55 false (.tuple []) (anil t57)) fun t58 =>
  bnd (gdv t55 false (.tuple []) (afield 0 t58)) fun t59 =>
  bnd (gdv t55 false (.tuple []) (aload false 1 t59 H)) fun t60 =>
  bnd (gdv t55 false (.tuple []) (ibin .lss t60 (.int .i64 1))) fun t61 =>
  bnd (apick t55 (.bool true) t61) fun t62 =>
  bnd (gdv t62 false (.tuple []) (some x4)) fun t64 =>
  bnd (gdv t62 false (.tuple []) (anil t64)) fun t65 =>
  bnd (gdv t62 false (.tuple []) (afield 1 t65)) fun t66 =>
  bnd (gdv t62 false (.tuple []) (aload false 1 t66 H)) fun t67 =>
  bnd (gdv t62 false (.tuple []) (ibin .lss t67 (.int .i64 1))) fun t68 =>
  bnd (apick t62 (.bool true) t68) fun t69 =>
  bnd (gdv t69 false (.tuple []) (some x7)) fun t71 =>
  bnd (gdv t69 false (.tuple []) (some t71)) fun t72 =>
  bnd (gdv t72 true (.tuple []) (some x5)) fun t73 =>
  bnd (gdv t72 true (.tuple []) (anil t73)) fun t74 =>
  bnd (gdv t72 true (.tuple []) (afield 0 t74)) fun t75 =>
  bnd (gdv t72 true (.tuple []) (aload false 1 t75 H)) fun t76 =>
  bnd (gdv t72 true (.tuple []) (ibin .lss t76 (.int .i64 1))) fun t77 =>
  bnd (gdv t69 false (.tuple []) (apick t72 t77 (.bool false))) fun t78 =>
  bnd (apick t69 (.bool true) t78) fun t79 =>
  cnd t79
    (bnd (some (.agg [(.int .i64 0), (.int .i64 0), (.int .i64 0), (.int .i64 0), (.int .i64 0)])) fun t80 =>
    bnd (astoreU 5 x2 t80 H) fun r_64 =>
    bnd (aload true 5 x2 r_64.2) fun v2 =>
    some ((.tuple [v2, (.int .i64 2)]), r_64.2))
    (j117_4 x2 x4 x5 H)
theorem e117_3 (H0 : Hp) (x2 x4 x5 x7 : AV) (H : Hp) : j117_3 H0 x2 x4 x5 x7 H = b117_3 (j117_4 H0) x2 x4 x5 x7 H := (CXM_eq [6, 8, 10, 12] _ _ _ _).trans (by kernel_rfl)
theorem m117_3 {j117_4 dj117_4 : A3} (hj117_4 : L3 j117_4 dj117_4) : L4 (b117_3 j117_4) (b117_3 dj117_4) := fun _ _ _ _ _ =>
  bR fun _ => bR fun _ => bR fun _ => bR fun _ => bR fun _ => bR fun _ => bR fun _ => bR fun _ => bR fun _ => bR fun _ => bR fun _ => bR fun _ => bR fun _ => bR fun _ => bR fun _ => bR fun _ => bR fun _ => bR fun _ => bR fun _ => bR fun _ => bR fun _ => bR fun _ => bR fun _ => bR fun _ => bR fun _ => bR fun _ => bR fun _ => bR fun _ => bR fun _ => bK (bR fun _ => bR fun _ => bR fun _ => le_refl _) (hj117_4 _ _ _ _)
def b117_2 (j117_3 : A4) (x2 x4 x5 x7 : AV) (H : Hp) : Res :=
  bnd (anil x4) fun t39 =>
  bnd (afield 3 t39) fun t40 =>
  bnd (aload false 1 t40 H) fun t41 =>
  bnd (aun .not t41) fun t42 =>
  cnd t42
    (bnd (anil x4) fun t44 =>
    bnd (afield 1 t44) fun t45 =>
    bnd (astoreU 1 t45 (.int .i64 1) H) fun r_72 =>
    j117_3 x2 x4 x5 x7 r_72.2)
    (j117_3 x2 x4 x5 x7 H)
theorem e117_2 (H0 : Hp) (x2 x4 x5 x7 : AV) (H : Hp) : j117_2 H0 x2 x4 x5 x7 H = b117_2 (j117_3 H0) x2 x4 x5 x7 H := (CXM_eq [6, 8, 10, 12] _ _ _ _).trans (by kernel_rfl)
theorem m117_2 {j117_3 dj117_3 : A4} (hj117_3 : L4 j117_3 dj117_3) : L4 (b117_2 j117_3) (b117_2 dj117_3) := fun _ _ _ _ _ =>
  bR fun _ => bR fun _ => bR fun _ => bR fun _ => bK (bR fun _ => bR fun _ => bR fun _ => hj117_3 _ _ _ _ _) (hj117_3 _ _ _ _ _)
def b117_1 (j117_2 : A4) (x0 x2 x4 x5 x6 x7 : AV) (H : Hp) : Res :=
  bnd (aun .not x6) fun t32 =>
  bnd (gdv t32 false (.tuple []) (some x0)) fun t34 =>
  bnd (gdv t32 false (.tuple []) (sbin .neq t34 (.str []))) fun t35 =>
  bnd (apick t32 (.bool true) t35) fun t36 =>
  cnd t36
    (bnd (some (.agg [(.int .i64 0), (.int .i64 0), (.int .i64 0), (.int .i64 0), (.int .i64 0)])) fun t37 =>
    bnd (astoreU 5 x2 t37 H) fun r_78 =>
    bnd (aload true 5 x2 r_78.2) fun v2 =>
    some ((.tuple [v2, (.int .i64 1)]), r_78.2))
    (j117_2 x2 x4 x5 x7 H)
theorem e117_1 (H0 : Hp) (x0 x2 x4 x5 x6 x7 : AV) (H : Hp) : j117_1 H0 x0 x2 x4 x5 x6 x7 H = b117_1 (j117_2 H0) x0 x2 x4 x5 x6 x7 H := (CXM_eq [6, 8, 10, 12] _ _ _ _).trans (by kernel_rfl)
theorem m117_1 {j117_2 dj117_2 : A4} (hj117_2 : L4 j117_2 dj117_2) : L6 (b117_1 j117_2) (b117_1 dj117_2) := fun _ _ _ _ _ _ _ =>
  bR fun _ => bR fun _ => bR fun _ => bR fun _ => bK (bR fun _ => bR fun _ => bR fun _ => le_refl _) (hj117_2 _ _ _ _ _)
def rj117_4 : A3 := b117_4
theorem sj117_4 (H0 : Hp) : L3 (rj117_4) (j117_4 H0) := fun _ _ _ _ => le_eq (m117_4 _ _ _ _) (e117_4 H0 _ _ _ _)
def rj117_3 : A4 := b117_3 (rj117_4)
theorem sj117_3 (H0 : Hp) : L4 (rj117_3) (j117_3 H0) := fun _ _ _ _ _ => le_eq (m117_3 (sj117_4 H0) _ _ _ _ _) (e117_3 H0 _ _ _ _ _)
def rj117_2 : A4 := b117_2 (rj117_3)
theorem sj117_2 (H0 : Hp) : L4 (rj117_2) (j117_2 H0) := fun _ _ _ _ _ => le_eq (m117_2 (sj117_3 H0) _ _ _ _ _) (e117_2 H0 _ _ _ _ _)
def rj117_1 : A6 := b117_1 (rj117_2)
theorem sj117_1 (H0 : Hp) : L6 (rj117_1) (j117_1 H0) := fun _ _ _ _ _ _ _ => le_eq (m117_1 (sj117_2 H0) _ _ _ _ _ _ _) (e117_1 H0 _ _ _ _ _ _ _)
def bc117 (c122 : A2) (c123 : A2) (j117_1 : A6) (p0 : AV) (H : Hp) : Res :=
  bnd (some ((.ptr H.length 0), H ++ [.cells [(.int .i64 0), (.int .i64 0), (.int .i64 0), (.int .i64 0), (.int .i64 0)]])) fun r2 =>
  bnd (some (.agg [(.int .i64 0), (.int .i64 0), (.int .i64 0), (.bool false), (.bool false)])) fun t8 =>
  bnd (abox t8 r2.2) fun r9 =>
  bnd (some (.agg [(.int .i64 0), (.int .i64 0), (.int .i64 0), (.bool false), (.bool false)])) fun t10 =>
  bnd (abox t10 r9.2) fun r11 =>
  bnd (c122 r9.1 p0 r11.2) fun r15 =>
  bnd (aext r15.1 0) fun t16 =>
  bnd (aext r15.1 1) fun t17 =>
  bnd (gdv t17 true (.tuple []) (some t16)) fun t20 =>
  bnd (gdv t17 true ((.tuple []), r15.2) (c123 t20 (.str [44]) r15.2)) fun r21 =>
  bnd (apick t17 r21.1 (.bool false)) fun t22 =>
  cnd t22
    (bnd (asliceS t16 (some (.int .i64 1)) none none) fun t27 =>
    bnd (c122 r11.1 t27 r21.2) fun r28 =>
    bnd (aext r28.1 0) fun t29 =>
    bnd (aext r28.1 1) fun t30 =>
    j117_1 t29 r2.1 r9.1 r11.1 t30 t22 r28.2)
    (j117_1 t16 r2.1 r9.1 r11.1 t17 t22 r21.2)
theorem ec117 (p0 : AV) (H : Hp) : c117 p0 H = bc117 c122 c123 (j117_1 H) p0 H := (callw_cxm (C := cfg) (fn := Tryz.f117) (c := bodyOf Tryz.f117) (n := 107) [6, 8, 10, 12] Tryz.func117 (by kernel_rfl) (by kernel_rfl) [p0] (by kernel_rfl) H).trans (by kernel_rfl)
theorem mc117 {c122 dc122 : A2} (hc122 : L2 c122 dc122) {c123 dc123 : A2} (hc123 : L2 c123 dc123) {j117_1 dj117_1 : A6} (hj117_1 : L6 j117_1 dj117_1) : L1 (bc117 c122 c123 j117_1) (bc117 dc122 dc123 dj117_1) := fun _ _ =>
  bR fun _ => bR fun _ => bR fun _ => bR fun _ => bR fun _ => bC (hc122 _ _ _) fun _ => bR fun _ => bR fun _ => bR fun _ => bG (hc123 _ _ _) fun _ => bR fun _ => bK (bR fun _ => bC (hc122 _ _ _) fun _ => bR fun _ => bR fun _ => hj117_1 _ _ _ _ _ _ _) (hj117_1 _ _ _ _ _ _ _)
def rc117 : A1 := fun p0 H => bc117 rc122 rc123 (rj117_1) p0 H
theorem sc117 : L1 rc117 c117 := fun _ H => le_eq (mc117 sc122 sc123 (sj117_1 H) _ _) (ec117 _ _)
def q117 : A1 := fun p0 H => flatC (callw cfg 117) [p0] H
def rq117 : A1 := fun p0 H => flatC (ofL1 (rc117)) [p0] H
theorem sq117 : L1 rq117 q117 := fun _ _ => flat_le (ofL1_le (sc117)) _ _

def c97 (p0 p1 : AV) (H : Hp) : Res := callw cfg 97 [p0, p1] H
def j97_2 (H0 : Hp) (x6 : AV) (H : Hp) : Res := CXf 97 34 (sub (bodyOf Tryz.f97) [1, 1, 1, 1]) (retL cfg 34 97 Tryz.f97 H0) [(6, x6)] H
def j97_1 (H0 : Hp) (x0 x1 : AV) (H : Hp) : Res := CXf 97 34 (sub (bodyOf Tryz.f97) [1, 1]) (retL cfg 34 97 Tryz.f97 H0) [(0, x0), (1, x1)] H
def b97_2 (x6 : AV) (H : Hp) : Res :=
  some (x6, H)
theorem e97_2 (H0 : Hp) (x6 : AV) (H : Hp) : j97_2 H0 x6 H = b97_2 x6 H := (CXM_eq [3, 6] _ _ _ _).trans (by kernel_rfl)
theorem m97_2 : L1 (b97_2) (b97_2) := fun _ _ =>
  le_refl _
def b97_1 (q117 : A1) (j97_2 : A1) (x0 x1 : AV) (H : Hp) : Res :=
  bnd (q117 x1 H) fun r16 =>
  bnd (aext r16.1 0) fun t17 =>
  bnd (aext r16.1 1) fun t18 =>
  bnd (some ((.ptr r16.2.length 0), r16.2 ++ [.cells [(.int .i64 0), (.int .i64 0), (.int .i64 0), (.int .i64 0), (.int .i64 0)]])) fun r5 =>
  bnd (astoreU 5 r5.1 t17 r5.2) fun r_5 =>
  bnd (ibin .eql t18 (.int .i64 0)) fun t20 =>
  cnd t20
    (bnd (anil x0) fun t23 =>
    bnd (afield 0 t23) fun t24 =>
    bnd (afield 0 t24) fun t25 =>
    bnd (aload false 1 t25 r_5.2) fun t26 =>
    bnd (aload true 5 r5.1 r_5.2) fun t27 =>
    bnd ((setElems 5 [(0, t27)] [(.agg [(.int .i64 0), (.int .i64 0), (.int .i64 0), (.int .i64 0), (.int .i64 0)])]).map (.vs 5 .clip)) fun t28 =>
    bnd (aappE 5 40 t26 t28 r_5.2) fun r29 =>
    bnd (anil x0) fun t30 =>
    bnd (afield 0 t30) fun t31 =>
    bnd (afield 0 t31) fun t32 =>
    bnd (astoreU 1 t32 r29.1 r29.2) fun r_17 =>
    j97_2 t18 r_17.2)
    (j97_2 t18 r_5.2)
theorem e97_1 (H0 : Hp) (x0 x1 : AV) (H : Hp) : j97_1 H0 x0 x1 H = b97_1 q117 (j97_2 H0) x0 x1 H := (CXM_eq [3, 6] _ _ _ _).trans (by kernel_rfl)
theorem m97_1 {q117 dq117 : A1} (hq117 : L1 q117 dq117) {j97_2 dj97_2 : A1} (hj97_2 : L1 j97_2 dj97_2) : L2 (b97_1 q117 j97_2) (b97_1 dq117 dj97_2) := fun _ _ _ =>
  bC (hq117 _ _) fun _ => bR fun _ => bR fun _ => bR fun _ => bR fun _ => bR fun _ => bK (bR fun _ => bR fun _ => bR fun _ => bR fun _ => bR fun _ => bR fun _ => bR fun _ => bR fun _ => bR fun _ => bR fun _ => bR fun _ => hj97_2 _ _) (hj97_2 _ _)
def rj97_2 : A1 := b97_2
theorem sj97_2 (H0 : Hp) : L1 (rj97_2) (j97_2 H0) := fun _ _ => le_eq (m97_2 _ _) (e97_2 H0 _ _)
def rj97_1 : A2 := b97_1 rq117 (rj97_2)
theorem sj97_1 (H0 : Hp) : L2 (rj97_1) (j97_1 H0) := fun _ _ _ => le_eq (m97_1 sq117 (sj97_2 H0) _ _ _) (e97_1 H0 _ _ _)
def bc97 (j97_1 : A2) (p0 p1 : AV) (H : Hp) : Res :=
  bnd (anil p0) fun t8 =>
  bnd (afield 0 t8) fun t9 =>
  bnd (afield 0 t9) fun t10 =>
  bnd (aload false 1 t10 H) fun t11 =>
  bnd (alenD (.slice 58) t11) fun t12 =>
  bnd (ibin .eql t12 (.int .i64 8)) fun t13 =>
  cnd t13
    (some ((.int .i64 3), H))
    (j97_1 p0 p1 H)
theorem ec97 (p0 p1 : AV) (H : Hp) : c97 p0 p1 H = bc97 (j97_1 H) p0 p1 H := (callw_cxm (C := cfg) (fn := Tryz.f97) (c := bodyOf Tryz.f97) (n := 34) [3, 6] Tryz.func97 (by kernel_rfl) (by kernel_rfl) [p0, p1] (by kernel_rfl) H).trans (by kernel_rfl)
theorem mc97 {j97_1 dj97_1 : A2} (hj97_1 : L2 j97_1 dj97_1) : L2 (bc97 j97_1) (bc97 dj97_1) := fun _ _ _ =>
  bR fun _ => bR fun _ => bR fun _ => bR fun _ => bR fun _ => bR fun _ => bK (le_refl _) (hj97_1 _ _ _)
def rc97 : A2 := fun p0 p1 H => bc97 (rj97_1) p0 p1 H
theorem sc97 : L2 rc97 c97 := fun _ _ H => le_eq (mc97 (sj97_1 H) _ _ _) (ec97 _ _ _)

def c98 (p0 p1 : AV) (H : Hp) : Res := callw cfg 98 [p0, p1] H
def j98_1 (H0 : Hp) (x0 x1 : AV) (H : Hp) : Res := CXf 98 19 (sub (bodyOf Tryz.f98) [1, 1]) (retL cfg 19 98 Tryz.f98 H0) [(0, x0), (1, x1)] H
def b98_1 (x0 x1 : AV) (H : Hp) : Res :=
  bnd (aindexStr x1 (.int .i64 0)) fun t14 =>
  bnd (cvInt .i64 t14) fun t15 =>
  bnd (anil x0) fun t16 =>
  bnd (afield 0 t16) fun t17 =>
  bnd (afield 1 t17) fun t18 =>
  bnd (astoreU 1 t18 t15 H) fun r_6 =>
  some ((.int .i64 0), r_6.2)
theorem e98_1 (H0 : Hp) (x0 x1 : AV) (H : Hp) : j98_1 H0 x0 x1 H = b98_1 x0 x1 H := (CXM_eq [3] _ _ _ _).trans (by kernel_rfl)
theorem m98_1 : L2 (b98_1) (b98_1) := fun _ _ _ =>
  bR fun _ => bR fun _ => bR fun _ => bR fun _ => bR fun _ => bR fun _ => le_refl _
def rj98_1 : A2 := b98_1
theorem sj98_1 (H0 : Hp) : L2 (rj98_1) (j98_1 H0) := fun _ _ _ => le_eq (m98_1 _ _ _) (e98_1 H0 _ _ _)
def bc98 (j98_1 : A2) (p0 p1 : AV) (H : Hp) : Res :=
  bnd (alenD .string p1) fun t6 =>
  bnd (ibin .neq t6 (.int .i64 1)) fun t7 =>
  bnd (gdv t7 false (.tuple []) (some p1)) fun t9 =>
  bnd (gdv t7 false (.tuple []) (sbin .eql t9 (.str [10]))) fun t10 =>
  bnd (apick t7 (.bool true) t10) fun t11 =>
  cnd t11
    (some ((.int .i64 18), H))
    (j98_1 p0 p1 H)
theorem ec98 (p0 p1 : AV) (H : Hp) : c98 p0 p1 H = bc98 (j98_1 H) p0 p1 H := (callw_cxm (C := cfg) (fn := Tryz.f98) (c := bodyOf Tryz.f98) (n := 19) [3] Tryz.func98 (by kernel_rfl) (by kernel_rfl) [p0, p1] (by kernel_rfl) H).trans (by kernel_rfl)
theorem mc98 {j98_1 dj98_1 : A2} (hj98_1 : L2 j98_1 dj98_1) : L2 (bc98 j98_1) (bc98 dj98_1) := fun _ _ _ =>
  bR fun _ => bR fun _ => bR fun _ => bR fun _ => bR fun _ => bK (le_refl _) (hj98_1 _ _ _)
def rc98 : A2 := fun p0 p1 H => bc98 (rj98_1) p0 p1 H
theorem sc98 : L2 rc98 c98 := fun _ _ H => le_eq (mc98 (sj98_1 H) _ _ _) (ec98 _ _ _)

def tabV (g : AV → List AV → Hp → Res) (f : Nat) (l : List AV) (H : Hp) : Res := cond (Nat.beq f 53) (ofL5 (rc53 g) l H) (cond (Nat.beq f 54) (flatC (ofL1 (rc54)) l H) (cond (Nat.beq f 56) (flatC (ofL1 (rc56)) l H) (cond (Nat.beq f 57) (flatC (ofL2 (rc57)) l H) (cond (Nat.beq f 66) (flatC (ofL2 (rc66 g)) l H) (cond (Nat.beq f 68) (ofL3 (rc68) l H) (cond (Nat.beq f 97) (ofL2 (rc97) l H) (cond (Nat.beq f 98) (ofL2 (rc98) l H) (none))))))))
def rV (n : Nat) : AV → List AV → Hp → Res := @Nat.rec (fun _ => AV → List AV → Hp → Res) (fun _ _ _ => none) (fun _ ih => valV (tabV ih)) n
theorem sV (n : Nat) : LV (rV n) (acall cfg (callw cfg)) := by
  induction n with
  | zero => exact fun _ _ _ => le_none _
  | succ n ih =>
    refine valV_le ?_
    intro f a b l H r h
    unfold tabV at h
    refine tab_step h (fun e h => ?_) (fun h => ?_)
    · subst e
      have e : acall cfg (callw cfg) (.fn (.func 53) a b) l H = callw cfg 53 (a ++ l ++ b) H := by kernel_rfl
      rw [e]
      exact ofL5_le (sc53 ih) _ _ _ h
    refine tab_step h (fun e h => ?_) (fun h => ?_)
    · subst e
      have e : acall cfg (callw cfg) (.fn (.func 54) a b) l H = flatC (callw cfg 54) (a ++ l ++ b) H := by kernel_rfl
      rw [e]
      exact flat_le (ofL1_le (sc54)) _ _ _ h
    refine tab_step h (fun e h => ?_) (fun h => ?_)
    · subst e
      have e : acall cfg (callw cfg) (.fn (.func 56) a b) l H = flatC (callw cfg 56) (a ++ l ++ b) H := by kernel_rfl
      rw [e]
      exact flat_le (ofL1_le (sc56)) _ _ _ h
    refine tab_step h (fun e h => ?_) (fun h => ?_)
    · subst e
      have e : acall cfg (callw cfg) (.fn (.func 57) a b) l H = flatC (callw cfg 57) (a ++ l ++ b) H := by kernel_rfl
      rw [e]
      exact flat_le (ofL2_le (sc57)) _ _ _ h
    refine tab_step h (fun e h => ?_) (fun h => ?_)
    · subst e
      have e : acall cfg (callw cfg) (.fn (.func 66) a b) l H = flatC (callw cfg 66) (a ++ l ++ b) H := by kernel_rfl
      rw [e]
      exact flat_le (ofL2_le (sc66 ih)) _ _ _ h
    refine tab_step h (fun e h => ?_) (fun h => ?_)
    · subst e
      have e : acall cfg (callw cfg) (.fn (.func 68) a b) l H = callw cfg 68 (a ++ l ++ b) H := by kernel_rfl
      rw [e]
      exact ofL3_le (sc68) _ _ _ h
    refine tab_step h (fun e h => ?_) (fun h => ?_)
    · subst e
      have e : acall cfg (callw cfg) (.fn (.func 97) a b) l H = callw cfg 97 (a ++ l ++ b) H := by kernel_rfl
      rw [e]
      exact ofL2_le (sc97) _ _ _ h
    refine tab_step h (fun e h => ?_) (fun h => ?_)
    · subst e
      have e : acall cfg (callw cfg) (.fn (.func 98) a b) l H = callw cfg 98 (a ++ l ++ b) H := by kernel_rfl
      rw [e]
      exact ofL2_le (sc98) _ _ _ h
    cases h

end
end Go.Am
