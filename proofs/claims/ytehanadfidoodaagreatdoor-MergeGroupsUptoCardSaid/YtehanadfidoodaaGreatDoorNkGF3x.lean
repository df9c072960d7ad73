/-
  Functions of the translation that are worked out at given arguments: written by program (wip/gen.py).
-/
import Derived.Test.YtehanadfidoodaaGreatDoorNkGF2x
import Derived.Test.YtehanadfidoodaaGreatDoorEmWx
namespace Go.Am
open Go.Proofs
set_option maxRecDepth 100000
set_option linter.unusedVariables false
noncomputable section

def c154 (p0 p1 p2 p3 p4 : AV) (H : Hp) : Res := callw cfg 154 [p0, p1, p2, p3, p4] H
def bc154 (cV : AV → List AV → Hp → Res) (p0 p1 p2 p3 p4 : AV) (H : Hp) : Res :=
  bnd (aload false 1 p2 H) fun t7 =>
  bnd (ibin .and t7 p0) fun t9 =>
  bnd (ibin .neq t9 (.int .i64 0)) fun t10 =>
  cnd t10
    (bnd (aload false 1 p3 H) fun t12 =>
    bnd (qC cfg cV p1 [t12] H) fun r13 =>
    bnd (aload false 1 p4 r13.2) fun t15 =>
    bnd (qC cfg cV p1 [t15] r13.2) fun r16 =>
    bnd (astoreU 1 p3 r13.1 r16.2) fun r_8 =>
    bnd (astoreU 1 p4 r16.1 r_8.2) fun r_9 =>
    some ((.tuple []), r_9.2))
    (some ((.tuple []), H))
theorem ec154 (p0 p1 p2 p3 p4 : AV) (H : Hp) : c154 p0 p1 p2 p3 p4 H = bc154 (acall cfg (callw cfg)) p0 p1 p2 p3 p4 H := (callw_cxm (C := cfg) (fn := Tryz.f154) (c := bodyOf Tryz.f154) (n := 17) [] Tryz.func154 (by kernel_rfl) (by kernel_rfl) [p0, p1, p2, p3, p4] (by kernel_rfl) H).trans (by kernel_rfl)
theorem mc154 {cV dcV : AV → List AV → Hp → Res} (hcV : LV cV dcV) : L5 (bc154 cV) (bc154 dcV) := fun _ _ _ _ _ _ =>
  bR fun _ => bR fun _ => bR fun _ => bK (bR fun _ => bC (qC_le hcV _ _ _) fun _ => bR fun _ => bC (qC_le hcV _ _ _) fun _ => bR fun _ => bR fun _ => le_refl _) (le_refl _)
def rc154 (gV : AV → List AV → Hp → Res) : A5 := fun p0 p1 p2 p3 p4 H => bc154 gV p0 p1 p2 p3 p4 H
theorem sc154 {gV : AV → List AV → Hp → Res} (hV : LV gV (acall cfg (callw cfg))) : L5 (rc154 gV) c154 := fun _ _ _ _ _ H => le_eq (mc154 hV _ _ _ _ _ _) (ec154 _ _ _ _ _ _)

def c155 (p0 : AV) (H : Hp) : Res := callw cfg 155 [p0] H
def bc155 (p0 : AV) (H : Hp) : Res :=
  bnd (sumC trimA [p0, (.str [32, 9])] H) fun r4 =>
  some (r4.1, r4.2)
theorem ec155 (p0 : AV) (H : Hp) : c155 p0 H = bc155 p0 H := (callw_cxm (C := cfg) (fn := Tryz.f155) (c := bodyOf Tryz.f155) (n := 5) [] Tryz.func155 (by kernel_rfl) (by kernel_rfl) [p0] (by kernel_rfl) H).trans (by kernel_rfl)
theorem mc155 : L1 (bc155) (bc155) := fun _ _ =>
  bR fun _ => le_refl _
def rc155 : A1 := fun p0 H => bc155 p0 H
theorem sc155 : L1 rc155 c155 := fun _ H => le_eq (mc155 _ _) (ec155 _ _)
def c157 (p0 : AV) (H : Hp) : Res := callw cfg 157 [p0] H
def j157_1 (H0 : Hp) (x3 : AV) (H : Hp) : Res := CXf 157 44 (sub (bodyOf Tryz.f157) [1, 1, 1]) (retL cfg 44 157 Tryz.f157 H0) [(3, x3)] H
def k157_1 (H0 : Hp) : KL := seqL (fun k al H => CXf 157 44 (sub (bodyOf Tryz.f157) [1, 1, 1]) k (trimL (cfg.keep 157) (sub (bodyOf Tryz.f157) [1, 1, 1]) al) H) (retL cfg 44 157 Tryz.f157 H0)
theorem k157_1_tame (H0 : Hp) : Tame 44 (k157_1 H0) := tame_seq (C := cfg) (kp := cfg.keep 157) (sub (bodyOf Tryz.f157) [1, 1, 1]) (tame_ret 157 Tryz.f157 H0)
def j157_3 (H0 : Hp) (x0 x3 x7 x8 : AV) (H : Hp) : Res := CXf 157 44 (sub (bodyOf Tryz.f157) [1, 1, 0, 1, 0, 0, 1, 1, 1]) (seqL (fun k al H => LPf 157 44 (sub (bodyOf Tryz.f157) [1, 1, 0, 1, 0, 0]) k (trimL (cfg.keep 157) (sub (bodyOf Tryz.f157) [1, 1, 0, 1, 0, 0]) al) H) (blockL 0 (k157_1 H0))) [(0, x0), (3, x3), (7, x7), (8, x8)] H
def j157_2 (H0 : Hp) (x0 x3 x7 x8 x9 : AV) (H : Hp) : Res := CXf 157 44 (sub (bodyOf Tryz.f157) [1, 1, 0, 1, 0, 0, 1, 1]) (seqL (fun k al H => LPf 157 44 (sub (bodyOf Tryz.f157) [1, 1, 0, 1, 0, 0]) k (trimL (cfg.keep 157) (sub (bodyOf Tryz.f157) [1, 1, 0, 1, 0, 0]) al) H) (blockL 0 (k157_1 H0))) [(0, x0), (3, x3), (7, x7), (8, x8), (9, x9)] H
def j157_l1 (H0 : Hp) (x0 x3 x7 x8 : AV) (H : Hp) : Res := LPf 157 44 (sub (bodyOf Tryz.f157) [1, 1, 0, 1, 0, 0]) (blockL 0 (k157_1 H0)) [(0, x0), (3, x3), (7, x7), (8, x8)] H
def b157_1 (x3 : AV) (H : Hp) : Res :=
  bnd (stringE.run [x3] H) fun r43 =>
  some (r43.1, r43.2)
theorem e157_1 (H0 : Hp) (x3 : AV) (H : Hp) : j157_1 H0 x3 H = b157_1 x3 H := (CXM_eq [4, 8, 9] _ _ _ _).trans (by kernel_rfl)
theorem m157_1 : L1 (b157_1) (b157_1) := fun _ _ =>
  bR fun _ => le_refl _
def b157_3 (j157_l1 : A4) (x0 x3 x7 x8 : AV) (H : Hp) : Res :=
  bnd (ibin .add x8 (.int .i64 1)) fun t42 =>
  j157_l1 x0 x3 x7 t42 H
theorem e157_3 (H0 : Hp) (x0 x3 x7 x8 : AV) (H : Hp) : j157_3 H0 x0 x3 x7 x8 H = b157_3 (j157_l1 H0) x0 x3 x7 x8 H := (CXM_eq [4, 8, 9] _ _ _ _).trans (by kernel_rfl)
theorem m157_3 {j157_l1 dj157_l1 : A4} (hj157_l1 : L4 j157_l1 dj157_l1) : L4 (b157_3 j157_l1) (b157_3 dj157_l1) := fun _ _ _ _ _ =>
  bR fun _ => hj157_l1 _ _ _ _ _
def b157_2 (c195 : A1) (j157_3 : A4) (x0 x3 x7 x8 x9 : AV) (H : Hp) : Res :=
  bnd (aindexStr x0 x8) fun t13 =>
  bnd (c195 t13 H) fun r15 =>
  bnd (gdv r15.1 false (.tuple []) (some t13)) fun t17 =>
  bnd (gdv r15.1 false (.tuple []) (ibin .geq t17 (.int .u8 97))) fun t18 =>
  bnd (gdv r15.1 false (.tuple []) (some t18)) fun t19 =>
  bnd (gdv t19 true (.tuple []) (some t13)) fun t20 =>
  bnd (gdv t19 true (.tuple []) (ibin .leq t20 (.int .u8 122))) fun t21 =>
  bnd (gdv r15.1 false (.tuple []) (apick t19 t21 (.bool false))) fun t22 =>
  bnd (apick r15.1 (.bool true) t22) fun t23 =>
  bnd (gdv t23 false (.tuple []) (some t13)) fun t25 =>
  bnd (gdv t23 false (.tuple []) (ibin .geq t25 (.int .u8 65))) fun t26 =>
  bnd (gdv t23 false (.tuple []) (some t26)) fun t27 =>
  bnd (gdv t27 true (.tuple []) (some t13)) fun t28 =>
  bnd (gdv t27 true (.tuple []) (ibin .leq t28 (.int .u8 90))) fun t29 =>
  bnd (gdv t23 false (.tuple []) (apick t27 t29 (.bool false))) fun t30 =>
  bnd (apick t23 (.bool true) t30) fun t31 =>
  bnd (gdv t31 false (.tuple []) (some t13)) fun t33 =>
  bnd (gdv t31 false (.tuple []) (ibin .geq t33 (.int .u8 48))) fun t34 =>
  bnd (gdv t31 false (.tuple []) (some t34)) fun t35 =>
  bnd (gdv t35 true (.tuple []) (some t13)) fun t36 =>
  bnd (gdv t35 true (.tuple []) (ibin .leq t36 (.int .u8 57))) fun t37 =>
  bnd (gdv t31 false (.tuple []) (apick t35 t37 (.bool false))) fun t38 =>
  bnd (apick t31 (.bool true) t38) fun t39 =>
  cnd t39
    (bnd (byteE.run [x3, t13] r15.2) fun r41 =>
    j157_3 x0 x3 x7 x8 r41.2)
    (j157_3 x0 x3 x7 x8 r15.2)
theorem e157_2 (H0 : Hp) (x0 x3 x7 x8 x9 : AV) (H : Hp) : j157_2 H0 x0 x3 x7 x8 x9 H = b157_2 c195 (j157_3 H0) x0 x3 x7 x8 x9 H := (CXM_eq [4, 8, 9] _ _ _ _).trans (by kernel_rfl)
theorem m157_2 {c195 dc195 : A1} (hc195 : L1 c195 dc195) {j157_3 dj157_3 : A4} (hj157_3 : L4 j157_3 dj157_3) : L5 (b157_2 c195 j157_3) (b157_2 dc195 dj157_3) := fun _ _ _ _ _ _ =>
  bR fun _ => bC (hc195 _ _) fun _ => bR fun _ => bR fun _ => bR fun _ => bR fun _ => bR fun _ => bR fun _ => bR fun _ => bR fun _ => bR fun _ => bR fun _ => bR fun _ => bR fun _ => bR fun _ => bR fun _ => bR fun _ => bR fun _ => bR fun _ => bR fun _ => bR fun _ => bR fun _ => bR fun _ => bK (bR fun _ => hj157_3 _ _ _ _ _) (hj157_3 _ _ _ _ _)
def b157_l1 (j157_1 : A1) (j157_2 : A5) (x0 x3 x7 x8 : AV) (H : Hp) : Res :=
  bnd (ibin .lss x8 x7) fun t9 =>
  cnd t9
    (j157_2 x0 x3 x7 x8 t9 H)
    (j157_1 x3 H)
theorem e157_l1 (H0 : Hp) (x0 x3 x7 x8 : AV) (H : Hp) : j157_l1 H0 x0 x3 x7 x8 H = b157_l1 (j157_1 H0) (j157_2 H0) x0 x3 x7 x8 H := (LPL_eqm (C := cfg) [4, 8, 9] (tame_block 0 (k157_1_tame H0)) _ _).trans (by kernel_rfl)
theorem m157_l1 {j157_1 dj157_1 : A1} (hj157_1 : L1 j157_1 dj157_1) {j157_2 dj157_2 : A5} (hj157_2 : L5 j157_2 dj157_2) : L4 (b157_l1 j157_1 j157_2) (b157_l1 dj157_1 dj157_2) := fun _ _ _ _ _ =>
  bR fun _ => bK (hj157_2 _ _ _ _ _ _) (hj157_1 _ _)
def rj157_1 : A1 := b157_1
theorem sj157_1 (H0 : Hp) : L1 (rj157_1) (j157_1 H0) := fun _ _ => le_eq (m157_1 _ _) (e157_1 H0 _ _)
def rj157_3 (j157_l1 : A4) : A4 := b157_3 j157_l1
theorem sj157_3 (H0 : Hp) {yj157_l1 : A4} (hj157_l1 : L4 yj157_l1 (j157_l1 H0)) : L4 (rj157_3 yj157_l1) (j157_3 H0) := fun _ _ _ _ _ => le_eq (m157_3 hj157_l1 _ _ _ _ _) (e157_3 H0 _ _ _ _ _)
def rj157_2 (j157_l1 : A4) : A5 := b157_2 rc195 (rj157_3 j157_l1)
theorem sj157_2 (H0 : Hp) {yj157_l1 : A4} (hj157_l1 : L4 yj157_l1 (j157_l1 H0)) : L5 (rj157_2 yj157_l1) (j157_2 H0) := fun _ _ _ _ _ _ => le_eq (m157_2 sc195 (sj157_3 H0 hj157_l1) _ _ _ _ _ _) (e157_2 H0 _ _ _ _ _ _)
def rj157_l1 (n : Nat) : A4 := @Nat.rec (fun _ => A4) (fun _ _ _ _ _ => none) (fun _ j157_l1 => b157_l1 (rj157_1) (rj157_2 j157_l1)) n
theorem sj157_l1 (H0 : Hp) (n : Nat) : L4 (rj157_l1 n) (j157_l1 H0) := by
  induction n with
  | zero => exact fun _ _ _ _ _ => le_none _
  | succ n hj157_l1 => exact fun _ _ _ _ _ => le_eq (m157_l1 (sj157_1 H0) (sj157_2 H0 hj157_l1) _ _ _ _ _) (e157_l1 H0 _ _ _ _ _)
def bc157 (j157_l1 : A4) (p0 : AV) (H : Hp) : Res :=
  bnd (some ((.ptr H.length 0), H ++ [.bld 192 5 []])) fun r3 =>
  bnd (alenD .string p0) fun t7 =>
  j157_l1 p0 r3.1 t7 (.int .i64 0) r3.2
theorem ec157 (p0 : AV) (H : Hp) : c157 p0 H = bc157 (j157_l1 H) p0 H := (callw_cxm (C := cfg) (fn := Tryz.f157) (c := bodyOf Tryz.f157) (n := 44) [4, 8, 9] Tryz.func157 (by kernel_rfl) (by kernel_rfl) [p0] (by kernel_rfl) H).trans (by kernel_rfl)
theorem mc157 {j157_l1 dj157_l1 : A4} (hj157_l1 : L4 j157_l1 dj157_l1) : L1 (bc157 j157_l1) (bc157 dj157_l1) := fun _ _ =>
  bR fun _ => bR fun _ => hj157_l1 _ _ _ _ _
def rc157 : A1 := fun p0 H => bc157 (rj157_l1 100000) p0 H
theorem sc157 : L1 rc157 c157 := fun _ H => le_eq (mc157 (sj157_l1 H 100000) _ _) (ec157 _ _)
def c197 (p0 p1 : AV) (H : Hp) : Res := callw cfg 197 [p0, p1] H
def j197_1 (H0 : Hp) (x5 : AV) (H : Hp) : Res := CXf 197 26 (sub (bodyOf Tryz.f197) [1, 1, 1]) (retL cfg 26 197 Tryz.f197 H0) [(5, x5)] H
def k197_1 (H0 : Hp) : KL := seqL (fun k al H => CXf 197 26 (sub (bodyOf Tryz.f197) [1, 1, 1]) k (trimL (cfg.keep 197) (sub (bodyOf Tryz.f197) [1, 1, 1]) al) H) (retL cfg 26 197 Tryz.f197 H0)
theorem k197_1_tame (H0 : Hp) : Tame 26 (k197_1 H0) := tame_seq (C := cfg) (kp := cfg.keep 197) (sub (bodyOf Tryz.f197) [1, 1, 1]) (tame_ret 197 Tryz.f197 H0)
def j197_3 (H0 : Hp) (x0 x5 x10 x11 : AV) (H : Hp) : Res := CXf 197 26 (sub (bodyOf Tryz.f197) [1, 1, 0, 1, 0, 0, 1, 1, 1]) (seqL (fun k al H => LPf 197 26 (sub (bodyOf Tryz.f197) [1, 1, 0, 1, 0, 0]) k (trimL (cfg.keep 197) (sub (bodyOf Tryz.f197) [1, 1, 0, 1, 0, 0]) al) H) (blockL 0 (k197_1 H0))) [(0, x0), (5, x5), (10, x10), (11, x11)] H
def j197_2 (H0 : Hp) (x0 x5 x10 x11 x12 : AV) (H : Hp) : Res := CXf 197 26 (sub (bodyOf Tryz.f197) [1, 1, 0, 1, 0, 0, 1, 1]) (seqL (fun k al H => LPf 197 26 (sub (bodyOf Tryz.f197) [1, 1, 0, 1, 0, 0]) k (trimL (cfg.keep 197) (sub (bodyOf Tryz.f197) [1, 1, 0, 1, 0, 0]) al) H) (blockL 0 (k197_1 H0))) [(0, x0), (5, x5), (10, x10), (11, x11), (12, x12)] H
def j197_l1 (H0 : Hp) (x0 x5 x10 x11 : AV) (H : Hp) : Res := LPf 197 26 (sub (bodyOf Tryz.f197) [1, 1, 0, 1, 0, 0]) (blockL 0 (k197_1 H0)) [(0, x0), (5, x5), (10, x10), (11, x11)] H
def b197_1 (x5 : AV) (H : Hp) : Res :=
  bnd (cvRd x5 H) fun t25 =>
  some (t25, H)
theorem e197_1 (H0 : Hp) (x5 : AV) (H : Hp) : j197_1 H0 x5 H = b197_1 x5 H := (CXM_eq [4, 6, 7] _ _ _ _).trans (by kernel_rfl)
theorem m197_1 : L1 (b197_1) (b197_1) := fun _ _ =>
  bR fun _ => le_refl _
def b197_3 (j197_l1 : A4) (x0 x5 x10 x11 : AV) (H : Hp) : Res :=
  bnd (ibin .add x11 (.int .i64 1)) fun t23 =>
  j197_l1 x0 x5 x10 t23 H
theorem e197_3 (H0 : Hp) (x0 x5 x10 x11 : AV) (H : Hp) : j197_3 H0 x0 x5 x10 x11 H = b197_3 (j197_l1 H0) x0 x5 x10 x11 H := (CXM_eq [4, 6, 7] _ _ _ _).trans (by kernel_rfl)
theorem m197_3 {j197_l1 dj197_l1 : A4} (hj197_l1 : L4 j197_l1 dj197_l1) : L4 (b197_3 j197_l1) (b197_3 dj197_l1) := fun _ _ _ _ _ =>
  bR fun _ => hj197_l1 _ _ _ _ _
def b197_2 (j197_3 : A4) (x0 x5 x10 x11 x12 : AV) (H : Hp) : Res :=
  bnd (aindexS 1 x5 x11) fun t19 =>
  bnd (aload false 1 t19 H) fun t20 =>
  bnd (aindexStr x0 t20) fun t21 =>
  bnd (aindexS 1 x5 x11) fun t22 =>
  bnd (astoreU 1 t22 t21 H) fun r_10 =>
  j197_3 x0 x5 x10 x11 r_10.2
theorem e197_2 (H0 : Hp) (x0 x5 x10 x11 x12 : AV) (H : Hp) : j197_2 H0 x0 x5 x10 x11 x12 H = b197_2 (j197_3 H0) x0 x5 x10 x11 x12 H := (CXM_eq [4, 6, 7] _ _ _ _).trans (by kernel_rfl)
theorem m197_2 {j197_3 dj197_3 : A4} (hj197_3 : L4 j197_3 dj197_3) : L5 (b197_2 j197_3) (b197_2 dj197_3) := fun _ _ _ _ _ _ =>
  bR fun _ => bR fun _ => bR fun _ => bR fun _ => bR fun _ => hj197_3 _ _ _ _ _
def b197_l1 (j197_1 : A1) (j197_2 : A5) (x0 x5 x10 x11 : AV) (H : Hp) : Res :=
  bnd (ibin .lss x11 x10) fun t12 =>
  cnd t12
    (j197_2 x0 x5 x10 x11 t12 H)
    (j197_1 x5 H)
theorem e197_l1 (H0 : Hp) (x0 x5 x10 x11 : AV) (H : Hp) : j197_l1 H0 x0 x5 x10 x11 H = b197_l1 (j197_1 H0) (j197_2 H0) x0 x5 x10 x11 H := (LPL_eqm (C := cfg) [4, 6, 7] (tame_block 0 (k197_1_tame H0)) _ _).trans (by kernel_rfl)
theorem m197_l1 {j197_1 dj197_1 : A1} (hj197_1 : L1 j197_1 dj197_1) {j197_2 dj197_2 : A5} (hj197_2 : L5 j197_2 dj197_2) : L4 (b197_l1 j197_1 j197_2) (b197_l1 dj197_1 dj197_2) := fun _ _ _ _ _ =>
  bR fun _ => bK (hj197_2 _ _ _ _ _ _) (hj197_1 _ _)
def rj197_1 : A1 := b197_1
theorem sj197_1 (H0 : Hp) : L1 (rj197_1) (j197_1 H0) := fun _ _ => le_eq (m197_1 _ _) (e197_1 H0 _ _)
def rj197_3 (j197_l1 : A4) : A4 := b197_3 j197_l1
theorem sj197_3 (H0 : Hp) {yj197_l1 : A4} (hj197_l1 : L4 yj197_l1 (j197_l1 H0)) : L4 (rj197_3 yj197_l1) (j197_3 H0) := fun _ _ _ _ _ => le_eq (m197_3 hj197_l1 _ _ _ _ _) (e197_3 H0 _ _ _ _ _)
def rj197_2 (j197_l1 : A4) : A5 := b197_2 (rj197_3 j197_l1)
theorem sj197_2 (H0 : Hp) {yj197_l1 : A4} (hj197_l1 : L4 yj197_l1 (j197_l1 H0)) : L5 (rj197_2 yj197_l1) (j197_2 H0) := fun _ _ _ _ _ _ => le_eq (m197_2 (sj197_3 H0 hj197_l1) _ _ _ _ _ _) (e197_2 H0 _ _ _ _ _ _)
def rj197_l1 (n : Nat) : A4 := @Nat.rec (fun _ => A4) (fun _ _ _ _ _ => none) (fun _ j197_l1 => b197_l1 (rj197_1) (rj197_2 j197_l1)) n
theorem sj197_l1 (H0 : Hp) (n : Nat) : L4 (rj197_l1 n) (j197_l1 H0) := by
  induction n with
  | zero => exact fun _ _ _ _ _ => le_none _
  | succ n hj197_l1 => exact fun _ _ _ _ _ => le_eq (m197_l1 (sj197_1 H0) (sj197_2 H0 hj197_l1) _ _ _ _ _) (e197_l1 H0 _ _ _ _ _)
def bc197 (j197_l1 : A4) (p0 p1 : AV) (H : Hp) : Res :=
  bnd (cvRow p1 H) fun r8 =>
  bnd (alenD (.slice 5) r8.1) fun t10 =>
  j197_l1 p0 r8.1 t10 (.int .i64 0) r8.2
theorem ec197 (p0 p1 : AV) (H : Hp) : c197 p0 p1 H = bc197 (j197_l1 H) p0 p1 H := (callw_cxm (C := cfg) (fn := Tryz.f197) (c := bodyOf Tryz.f197) (n := 26) [4, 6, 7] Tryz.func197 (by kernel_rfl) (by kernel_rfl) [p0, p1] (by kernel_rfl) H).trans (by kernel_rfl)
theorem mc197 {j197_l1 dj197_l1 : A4} (hj197_l1 : L4 j197_l1 dj197_l1) : L2 (bc197 j197_l1) (bc197 dj197_l1) := fun _ _ _ =>
  bR fun _ => bR fun _ => hj197_l1 _ _ _ _ _
def rc197 : A2 := fun p0 p1 H => bc197 (rj197_l1 100000) p0 p1 H
theorem sc197 : L2 rc197 c197 := fun _ _ H => le_eq (mc197 (sj197_l1 H 100000) _ _ _) (ec197 _ _ _)
def q197 : A2 := fun p0 p1 H => flatC (callw cfg 197) [p0, p1] H
def rq197 : A2 := fun p0 p1 H => flatC (ofL2 (rc197)) [p0, p1] H
theorem sq197 : L2 rq197 q197 := fun _ _ _ => flat_le (ofL2_le (sc197)) _ _

def c159 (p0 p1 : AV) (H : Hp) : Res := callw cfg 159 [p0, p1] H
def bc159 (q147 : A1) (q197 : A2) (p0 p1 : AV) (H : Hp) : Res :=
  bnd (abox p0 H) fun r2 =>
  bnd (aload true 6 r2.1 r2.2) fun t5 =>
  bnd (q147 t5 r2.2) fun r6 =>
  bnd (afieldV false 1 3 r6.1) fun t7 =>
  bnd (q197 t7 p1 r6.2) fun r9 =>
  some (r9.1, r9.2)
theorem ec159 (p0 p1 : AV) (H : Hp) : c159 p0 p1 H = bc159 q147 q197 p0 p1 H := (callw_cxm (C := cfg) (fn := Tryz.f159) (c := bodyOf Tryz.f159) (n := 10) [] Tryz.func159 (by kernel_rfl) (by kernel_rfl) [p0, p1] (by kernel_rfl) H).trans (by kernel_rfl)
theorem mc159 {q147 dq147 : A1} (hq147 : L1 q147 dq147) {q197 dq197 : A2} (hq197 : L2 q197 dq197) : L2 (bc159 q147 q197) (bc159 dq147 dq197) := fun _ _ _ =>
  bR fun _ => bR fun _ => bC (hq147 _ _) fun _ => bR fun _ => bC (hq197 _ _ _) fun _ => le_refl _
def rc159 : A2 := fun p0 p1 H => bc159 rq147 rq197 p0 p1 H
theorem sc159 : L2 rc159 c159 := fun _ _ H => le_eq (mc159 sq147 sq197 _ _ _) (ec159 _ _ _)
def q159 : A2 := fun p0 p1 H => flatC (callw cfg 159) [p0, p1] H
def rq159 : A2 := fun p0 p1 H => flatC (ofL2 (rc159)) [p0, p1] H
theorem sq159 : L2 rq159 q159 := fun _ _ _ => flat_le (ofL2_le (sc159)) _ _

def c158 (p0 p1 : AV) (H : Hp) : Res := callw cfg 158 [p0, p1] H
def bc158 (q159 : A2) (p0 p1 : AV) (H : Hp) : Res :=
  bnd (aload true 6 p1 H) fun t4 =>
  bnd (q159 t4 p0 H) fun r6 =>
  some (r6.1, r6.2)
theorem ec158 (p0 p1 : AV) (H : Hp) : c158 p0 p1 H = bc158 q159 p0 p1 H := (callw_cxm (C := cfg) (fn := Tryz.f158) (c := bodyOf Tryz.f158) (n := 7) [] Tryz.func158 (by kernel_rfl) (by kernel_rfl) [p0, p1] (by kernel_rfl) H).trans (by kernel_rfl)
theorem mc158 {q159 dq159 : A2} (hq159 : L2 q159 dq159) : L2 (bc158 q159) (bc158 dq159) := fun _ _ _ =>
  bR fun _ => bC (hq159 _ _ _) fun _ => le_refl _
def rc158 : A2 := fun p0 p1 H => bc158 rq159 p0 p1 H
theorem sc158 : L2 rc158 c158 := fun _ _ H => le_eq (mc158 sq159 _ _ _) (ec158 _ _ _)
def tabV (g : AV → List AV → Hp → Res) (f : Nat) (l : List AV) (H : Hp) : Res := cond (Nat.beq f 83) (flatC (ofL2 (rc83 g)) l H) (cond (Nat.beq f 84) (flatC (ofL4 (rc84 g)) l H) (cond (Nat.beq f 85) (flatC (ofL4 (rc85 g)) l H) (cond (Nat.beq f 144) (ofL3 (rc144 g) l H) (cond (Nat.beq f 148) (flatC (ofL2 (rc148 g)) l H) (cond (Nat.beq f 150) (ofL3 (rc150) l H) (cond (Nat.beq f 154) (ofL5 (rc154 g) l H) (cond (Nat.beq f 155) (flatC (ofL1 (rc155)) l H) (cond (Nat.beq f 157) (flatC (ofL1 (rc157)) l H) (cond (Nat.beq f 158) (flatC (ofL2 (rc158)) l H) (none))))))))))
def rV (n : Nat) : AV → List AV → Hp → Res := @Nat.rec (fun _ => AV → List AV → Hp → Res) (fun _ _ _ => none) (fun _ ih => valV (tabV ih)) n
theorem sV (n : Nat) : LV (rV n) (acall cfg (callw cfg)) := by
  induction n with
  | zero => exact fun _ _ _ => le_none _
  | succ n ih =>
    refine valV_le ?_
    intro f a b l H r h
    unfold tabV at h
    refine tab_step h (fun e h => ?_) (fun h => ?_)
    · subst e
      have e : acall cfg (callw cfg) (.fn (.func 83) a b) l H = flatC (callw cfg 83) (a ++ l ++ b) H := by kernel_rfl
      rw [e]
      exact flat_le (ofL2_le (sc83 ih)) _ _ _ h
    refine tab_step h (fun e h => ?_) (fun h => ?_)
    · subst e
      have e : acall cfg (callw cfg) (.fn (.func 84) a b) l H = flatC (callw cfg 84) (a ++ l ++ b) H := by kernel_rfl
      rw [e]
      exact flat_le (ofL4_le (sc84 ih)) _ _ _ h
    refine tab_step h (fun e h => ?_) (fun h => ?_)
    · subst e
      have e : acall cfg (callw cfg) (.fn (.func 85) a b) l H = flatC (callw cfg 85) (a ++ l ++ b) H := by kernel_rfl
      rw [e]
      exact flat_le (ofL4_le (sc85 ih)) _ _ _ h
    refine tab_step h (fun e h => ?_) (fun h => ?_)
    · subst e
      have e : acall cfg (callw cfg) (.fn (.func 144) a b) l H = callw cfg 144 (a ++ l ++ b) H := by kernel_rfl
      rw [e]
      exact ofL3_le (sc144 ih) _ _ _ h
    refine tab_step h (fun e h => ?_) (fun h => ?_)
    · subst e
      have e : acall cfg (callw cfg) (.fn (.func 148) a b) l H = flatC (callw cfg 148) (a ++ l ++ b) H := by kernel_rfl
      rw [e]
      exact flat_le (ofL2_le (sc148 ih)) _ _ _ h
    refine tab_step h (fun e h => ?_) (fun h => ?_)
    · subst e
      have e : acall cfg (callw cfg) (.fn (.func 150) a b) l H = callw cfg 150 (a ++ l ++ b) H := by kernel_rfl
      rw [e]
      exact ofL3_le (sc150) _ _ _ h
    refine tab_step h (fun e h => ?_) (fun h => ?_)
    · subst e
      have e : acall cfg (callw cfg) (.fn (.func 154) a b) l H = callw cfg 154 (a ++ l ++ b) H := by kernel_rfl
      rw [e]
      exact ofL5_le (sc154 ih) _ _ _ h
    refine tab_step h (fun e h => ?_) (fun h => ?_)
    · subst e
      have e : acall cfg (callw cfg) (.fn (.func 155) a b) l H = flatC (callw cfg 155) (a ++ l ++ b) H := by kernel_rfl
      rw [e]
      exact flat_le (ofL1_le (sc155)) _ _ _ h
    refine tab_step h (fun e h => ?_) (fun h => ?_)
    · subst e
      have e : acall cfg (callw cfg) (.fn (.func 157) a b) l H = flatC (callw cfg 157) (a ++ l ++ b) H := by kernel_rfl
      rw [e]
      exact flat_le (ofL1_le (sc157)) _ _ _ h
    refine tab_step h (fun e h => ?_) (fun h => ?_)
    · subst e
      have e : acall cfg (callw cfg) (.fn (.func 158) a b) l H = flatC (callw cfg 158) (a ++ l ++ b) H := by kernel_rfl
      rw [e]
      exact flat_le (ofL2_le (sc158)) _ _ _ h
    cases h

end
end Go.Am
