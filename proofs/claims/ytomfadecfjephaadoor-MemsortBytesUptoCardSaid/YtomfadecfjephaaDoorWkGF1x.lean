/-
  Functions of the translation that are worked out at given arguments: written by program (wip/gen.py).
-/
import Derived.Test.YtomfadecfjephaaDoorWkGx
import Derived.Test.YtomfadecfjephaaDoorEmWx
namespace Go.Am
open Go.Proofs
set_option maxRecDepth 100000
set_option linter.unusedVariables false
noncomputable section

noncomputable abbrev CXf (f n : Nat) := CXL cfg (callw cfg) (LPL cfg (cfg.keep f) n) (cfg.keep f) n seqL blockL
noncomputable abbrev LPf (f n : Nat) := LPL cfg (cfg.keep f) n
def c14 (H : Hp) : Res := callw cfg 14 [] H
def j14_1 (H0 : Hp) (x0 x1 x2 x3 : AV) (H : Hp) : Res := CXf 14 55 (sub (bodyOf Tryd.f14) [1, 1, 1, 1]) (retL cfg 55 14 Tryd.f14 H0) [(0, x0), (1, x1), (2, x2), (3, x3)] H
def k14_1 (H0 : Hp) : KL := seqL (fun k al H => CXf 14 55 (sub (bodyOf Tryd.f14) [1, 1, 1, 1]) k (trimL (cfg.keep 14) (sub (bodyOf Tryd.f14) [1, 1, 1, 1]) al) H) (retL cfg 55 14 Tryd.f14 H0)
theorem k14_1_tame (H0 : Hp) : Tame 55 (k14_1 H0) := tame_seq (C := cfg) (kp := cfg.keep 14) (sub (bodyOf Tryd.f14) [1, 1, 1, 1]) (tame_ret 14 Tryd.f14 H0)
def j14_3 (H0 : Hp) (x0 x1 x2 x3 x4 : AV) (H : Hp) : Res := CXf 14 55 (sub (bodyOf Tryd.f14) [1, 1, 1, 0, 1, 0, 0, 1, 1]) (seqL (fun k al H => LPf 14 55 (sub (bodyOf Tryd.f14) [1, 1, 1, 0, 1, 0, 0]) k (trimL (cfg.keep 14) (sub (bodyOf Tryd.f14) [1, 1, 1, 0, 1, 0, 0]) al) H) (blockL 0 (k14_1 H0))) [(0, x0), (1, x1), (2, x2), (3, x3), (4, x4)] H
def k14_2 (H0 : Hp) : KL := seqL (fun k al H => CXf 14 55 (sub (bodyOf Tryd.f14) [1, 1, 1, 0, 1, 0, 0, 1, 1]) k (trimL (cfg.keep 14) (sub (bodyOf Tryd.f14) [1, 1, 1, 0, 1, 0, 0, 1, 1]) al) H) (seqL (fun k al H => LPf 14 55 (sub (bodyOf Tryd.f14) [1, 1, 1, 0, 1, 0, 0]) k (trimL (cfg.keep 14) (sub (bodyOf Tryd.f14) [1, 1, 1, 0, 1, 0, 0]) al) H) (blockL 0 (k14_1 H0)))
def j14_5 (H0 : Hp) (x0 x1 x2 x3 x4 x5 x6 : AV) (H : Hp) : Res := CXf 14 55 (sub (bodyOf Tryd.f14) [1, 1, 1, 0, 1, 0, 0, 1, 0, 0, 1, 1, 1]) (blockL 1 (k14_2 H0)) [(0, x0), (1, x1), (2, x2), (3, x3), (4, x4), (5, x5), (6, x6)] H
def j14_4 (H0 : Hp) (x0 x1 x2 x3 x4 x5 x6 : AV) (H : Hp) : Res := CXf 14 55 (sub (bodyOf Tryd.f14) [1, 1, 1, 0, 1, 0, 0, 1, 0, 0, 1, 1]) (blockL 1 (k14_2 H0)) [(0, x0), (1, x1), (2, x2), (3, x3), (4, x4), (5, x5), (6, x6)] H
def j14_2 (H0 : Hp) (x0 x1 x2 x3 x4 : AV) (H : Hp) : Res := CXf 14 55 (sub (bodyOf Tryd.f14) [1, 1, 1, 0, 1, 0, 0, 1]) (seqL (fun k al H => LPf 14 55 (sub (bodyOf Tryd.f14) [1, 1, 1, 0, 1, 0, 0]) k (trimL (cfg.keep 14) (sub (bodyOf Tryd.f14) [1, 1, 1, 0, 1, 0, 0]) al) H) (blockL 0 (k14_1 H0))) [(0, x0), (1, x1), (2, x2), (3, x3), (4, x4)] H
def j14_l1 (H0 : Hp) (x0 x1 x2 x3 x4 : AV) (H : Hp) : Res := LPf 14 55 (sub (bodyOf Tryd.f14) [1, 1, 1, 0, 1, 0, 0]) (blockL 0 (k14_1 H0)) [(0, x0), (1, x1), (2, x2), (3, x3), (4, x4)] H
def b14_1 (x0 x1 x2 x3 : AV) (H : Hp) : Res :=
  bnd (cvRd x2 H) fun t49 =>
  bnd (afield 2 x1) fun t50 =>
  bnd (astoreU 1 t50 t49 H) fun r_7 =>
  bnd (cvRd x3 r_7.2) fun t52 =>
  bnd (afield 3 x1) fun t53 =>
  bnd (astoreU 1 t53 t52 r_7.2) fun r_10 =>
  bnd (aload true 6 x1 r_10.2) fun t54 =>
  bnd (astoreU 6 x0 t54 r_10.2) fun r_12 =>
  bnd (aload true 6 x0 r_12.2) fun v0 =>
  some (v0, r_12.2)
theorem e14_1 (H0 : Hp) (x0 x1 x2 x3 : AV) (H : Hp) : j14_1 H0 x0 x1 x2 x3 H = b14_1 x0 x1 x2 x3 H := (CXM_eq [5, 6, 9, 11, 14] _ _ _ _).trans (by kernel_rfl)
theorem m14_1 : L4 (b14_1) (b14_1) := fun _ _ _ _ _ =>
  bR fun _ => bR fun _ => bR fun _ => bR fun _ => bR fun _ => bR fun _ => bR fun _ => bR fun _ => bR fun _ => le_refl _
def b14_3 (j14_l1 : A5) (x0 x1 x2 x3 x4 : AV) (H : Hp) : Res :=
  bnd (ibin .add x4 (.int .i64 1)) fun t11 =>
  j14_l1 x0 x1 x2 x3 t11 H
theorem e14_3 (H0 : Hp) (x0 x1 x2 x3 x4 : AV) (H : Hp) : j14_3 H0 x0 x1 x2 x3 x4 H = b14_3 (j14_l1 H0) x0 x1 x2 x3 x4 H := (CXM_eq [5, 6, 9, 11, 14] _ _ _ _).trans (by kernel_rfl)
theorem m14_3 {j14_l1 dj14_l1 : A5} (hj14_l1 : L5 j14_l1 dj14_l1) : L5 (b14_3 j14_l1) (b14_3 dj14_l1) := fun _ _ _ _ _ _ =>
  bR fun _ => hj14_l1 _ _ _ _ _ _
def b14_5 (j14_3 : A5) (x0 x1 x2 x3 x4 x5 x6 : AV) (H : Hp) : Res :=
  bnd (afield 1 x1) fun t34 =>
  bnd (aload false 1 t34 H) fun t35 =>
  bnd ((setElems 1 [(0, x4)] [(.int .i64 0)]).map (.vs 1 .clip)) fun t37 =>
  bnd (aappE 1 8 t35 t37 H) fun r38 =>
  bnd (afield 1 x1) fun t39 =>
  bnd (astoreU 1 t39 r38.1 r38.2) fun r_22 =>
  bnd ((setElems 1 [(0, x5)] [(.int .u8 0)]).map (.vs 1 .clip)) fun t42 =>
  bnd (aappE 1 1 x2 t42 r_22.2) fun r43 =>
  bnd ((setElems 1 [(0, x6)] [(.int .u8 0)]).map (.vs 1 .clip)) fun t46 =>
  bnd (aappE 1 1 x3 t46 r43.2) fun r47 =>
  j14_3 x0 x1 r43.1 r47.1 x4 r47.2
theorem e14_5 (H0 : Hp) (x0 x1 x2 x3 x4 x5 x6 : AV) (H : Hp) : j14_5 H0 x0 x1 x2 x3 x4 x5 x6 H = b14_5 (j14_3 H0) x0 x1 x2 x3 x4 x5 x6 H := (CXM_eq [5, 6, 9, 11, 14] _ _ _ _).trans (by kernel_rfl)
theorem m14_5 {j14_3 dj14_3 : A5} (hj14_3 : L5 j14_3 dj14_3) : L7 (b14_5 j14_3) (b14_5 dj14_3) := fun _ _ _ _ _ _ _ _ =>
  bR fun _ => bR fun _ => bR fun _ => bR fun _ => bR fun _ => bR fun _ => bR fun _ => bR fun _ => bR fun _ => bR fun _ => hj14_3 _ _ _ _ _ _
def b14_4 (j14_5 : A7) (x0 x1 x2 x3 x4 x5 x6 : AV) (H : Hp) : Res :=
  bnd (ibin .geq x4 (.int .i64 97)) fun t26 =>
  bnd (gdv t26 true (.tuple []) (some x4)) fun t28 =>
  bnd (gdv t26 true (.tuple []) (ibin .leq t28 (.int .i64 122))) fun t29 =>
  bnd (apick t26 t29 (.bool false)) fun t30 =>
  cnd t30
    (bnd (ibin .sub x4 (.int .i64 32)) fun t32 =>
    bnd (cvInt .u8 t32) fun t33 =>
    j14_5 x0 x1 x2 x3 x4 x5 t33 H)
    (j14_5 x0 x1 x2 x3 x4 x5 x6 H)
theorem e14_4 (H0 : Hp) (x0 x1 x2 x3 x4 x5 x6 : AV) (H : Hp) : j14_4 H0 x0 x1 x2 x3 x4 x5 x6 H = b14_4 (j14_5 H0) x0 x1 x2 x3 x4 x5 x6 H := (CXM_eq [5, 6, 9, 11, 14] _ _ _ _).trans (by kernel_rfl)
theorem m14_4 {j14_5 dj14_5 : A7} (hj14_5 : L7 j14_5 dj14_5) : L7 (b14_4 j14_5) (b14_4 dj14_5) := fun _ _ _ _ _ _ _ _ =>
  bR fun _ => bR fun _ => bR fun _ => bR fun _ => bK (bR fun _ => bR fun _ => hj14_5 _ _ _ _ _ _ _ _) (hj14_5 _ _ _ _ _ _ _ _)
def b14_2 (j14_4 : A7) (x0 x1 x2 x3 x4 : AV) (H : Hp) : Res :=
  bnd (cvInt .u8 x4) fun t13 =>
  bnd (cvInt .u8 x4) fun t15 =>
  bnd (ibin .geq x4 (.int .i64 65)) fun t17 =>
  bnd (gdv t17 true (.tuple []) (some x4)) fun t19 =>
  bnd (gdv t17 true (.tuple []) (ibin .leq t19 (.int .i64 90))) fun t20 =>
  bnd (apick t17 t20 (.bool false)) fun t21 =>
  cnd t21
    (bnd (ibin .add x4 (.int .i64 32)) fun t23 =>
    bnd (cvInt .u8 t23) fun t24 =>
    j14_4 x0 x1 x2 x3 x4 t24 t15 H)
    (j14_4 x0 x1 x2 x3 x4 t13 t15 H)
theorem e14_2 (H0 : Hp) (x0 x1 x2 x3 x4 : AV) (H : Hp) : j14_2 H0 x0 x1 x2 x3 x4 H = b14_2 (j14_4 H0) x0 x1 x2 x3 x4 H := (CXM_eq [5, 6, 9, 11, 14] _ _ _ _).trans (by kernel_rfl)
theorem m14_2 {j14_4 dj14_4 : A7} (hj14_4 : L7 j14_4 dj14_4) : L5 (b14_2 j14_4) (b14_2 dj14_4) := fun _ _ _ _ _ _ =>
  bR fun _ => bR fun _ => bR fun _ => bR fun _ => bR fun _ => bR fun _ => bK (bR fun _ => bR fun _ => hj14_4 _ _ _ _ _ _ _ _) (hj14_4 _ _ _ _ _ _ _ _)
def b14_l1 (j14_1 : A4) (j14_2 : A5) (x0 x1 x2 x3 x4 : AV) (H : Hp) : Res :=
  bnd (ibin .lss x4 (.int .i64 256)) fun t9 =>
  cnd t9
    (j14_2 x0 x1 x2 x3 x4 H)
    (j14_1 x0 x1 x2 x3 H)
theorem e14_l1 (H0 : Hp) (x0 x1 x2 x3 x4 : AV) (H : Hp) : j14_l1 H0 x0 x1 x2 x3 x4 H = b14_l1 (j14_1 H0) (j14_2 H0) x0 x1 x2 x3 x4 H := (LPL_eqm (C := cfg) [5, 6, 9, 11, 14] (tame_block 0 (k14_1_tame H0)) _ _).trans (by kernel_rfl)
theorem m14_l1 {j14_1 dj14_1 : A4} (hj14_1 : L4 j14_1 dj14_1) {j14_2 dj14_2 : A5} (hj14_2 : L5 j14_2 dj14_2) : L5 (b14_l1 j14_1 j14_2) (b14_l1 dj14_1 dj14_2) := fun _ _ _ _ _ _ =>
  bR fun _ => bK (hj14_2 _ _ _ _ _ _) (hj14_1 _ _ _ _ _)
def rj14_1 : A4 := b14_1
theorem sj14_1 (H0 : Hp) : L4 (rj14_1) (j14_1 H0) := fun _ _ _ _ _ => le_eq (m14_1 _ _ _ _ _) (e14_1 H0 _ _ _ _ _)
def rj14_3 (j14_l1 : A5) : A5 := b14_3 j14_l1
theorem sj14_3 (H0 : Hp) {yj14_l1 : A5} (hj14_l1 : L5 yj14_l1 (j14_l1 H0)) : L5 (rj14_3 yj14_l1) (j14_3 H0) := fun _ _ _ _ _ _ => le_eq (m14_3 hj14_l1 _ _ _ _ _ _) (e14_3 H0 _ _ _ _ _ _)
def rj14_5 (j14_l1 : A5) : A7 := b14_5 (rj14_3 j14_l1)
theorem sj14_5 (H0 : Hp) {yj14_l1 : A5} (hj14_l1 : L5 yj14_l1 (j14_l1 H0)) : L7 (rj14_5 yj14_l1) (j14_5 H0) := fun _ _ _ _ _ _ _ _ => le_eq (m14_5 (sj14_3 H0 hj14_l1) _ _ _ _ _ _ _ _) (e14_5 H0 _ _ _ _ _ _ _ _)
def rj14_4 (j14_l1 : A5) : A7 := b14_4 (rj14_5 j14_l1)
theorem sj14_4 (H0 : Hp) {yj14_l1 : A5} (hj14_l1 : L5 yj14_l1 (j14_l1 H0)) : L7 (rj14_4 yj14_l1) (j14_4 H0) := fun _ _ _ _ _ _ _ _ => le_eq (m14_4 (sj14_5 H0 hj14_l1) _ _ _ _ _ _ _ _) (e14_4 H0 _ _ _ _ _ _ _ _)
def rj14_2 (j14_l1 : A5) : A5 := b14_2 (rj14_4 j14_l1)
theorem sj14_2 (H0 : Hp) {yj14_l1 : A5} (hj14_l1 : L5 yj14_l1 (j14_l1 H0)) : L5 (rj14_2 yj14_l1) (j14_2 H0) := fun _ _ _ _ _ _ => le_eq (m14_2 (sj14_4 H0 hj14_l1) _ _ _ _ _ _) (e14_2 H0 _ _ _ _ _ _)
def rj14_l1 (n : Nat) : A5 := @Nat.rec (fun _ => A5) (fun _ _ _ _ _ _ => none) (fun _ j14_l1 => b14_l1 (rj14_1) (rj14_2 j14_l1)) n
theorem sj14_l1 (H0 : Hp) (n : Nat) : L5 (rj14_l1 n) (j14_l1 H0) := by
  induction n with
  | zero => exact fun _ _ _ _ _ _ => le_none _
  | succ n hj14_l1 => exact fun _ _ _ _ _ _ => le_eq (m14_l1 (sj14_1 H0) (sj14_2 H0 hj14_l1) _ _ _ _ _ _) (e14_l1 H0 _ _ _ _ _ _)
def bc14 (j14_l1 : A5) (H : Hp) : Res :=
  bnd (some ((.ptr H.length 0), H ++ [.cells [(.str []), .nils, (.str []), (.str []), .nils, .nils]])) fun r0 =>
  bnd ((afill [(0, 1, (.str [112, 111, 115, 105, 120]))] [(.str []), .nils, (.str []), (.str []), .nils, .nils]).map .agg) fun t7 =>
  bnd (some ((.ptr r0.2.length 0), r0.2 ++ [.cells [(.str []), .nils, (.str []), (.str []), .nils, .nils]])) fun r1 =>
  bnd (astoreU 6 r1.1 t7 r1.2) fun r_4 =>
  j14_l1 r0.1 r1.1 .nils .nils (.int .i64 0) r_4.2
theorem ec14 (H : Hp) : c14 H = bc14 (j14_l1 H) H := (callw_cxm (C := cfg) (fn := Tryd.f14) (c := bodyOf Tryd.f14) (n := 55) [5, 6, 9, 11, 14] Tryd.func14 (by kernel_rfl) (by kernel_rfl) [] (by kernel_rfl) H).trans (by kernel_rfl)
theorem mc14 {j14_l1 dj14_l1 : A5} (hj14_l1 : L5 j14_l1 dj14_l1) : L0 (bc14 j14_l1) (bc14 dj14_l1) := fun _ =>
  bR fun _ => bR fun _ => bR fun _ => bR fun _ => hj14_l1 _ _ _ _ _ _
def rc14 : A0 := fun H => bc14 (rj14_l1 100000) H
theorem sc14 : L0 rc14 c14 := fun H => le_eq (mc14 (sj14_l1 H 100000) _) (ec14 _)
def c93 (p0 p1 p2 : AV) (H : Hp) : Res := callw cfg 93 [p0, p1, p2] H
def j93_1 (H0 : Hp) (x7 : AV) (H : Hp) : Res := CXf 93 40 (sub (bodyOf Tryd.f93) [1, 1, 1]) (retL cfg 40 93 Tryd.f93 H0) [(7, x7)] H
def k93_1 (H0 : Hp) : KL := seqL (fun k al H => CXf 93 40 (sub (bodyOf Tryd.f93) [1, 1, 1]) k (trimL (cfg.keep 93) (sub (bodyOf Tryd.f93) [1, 1, 1]) al) H) (retL cfg 40 93 Tryd.f93 H0)
theorem k93_1_tame (H0 : Hp) : Tame 40 (k93_1 H0) := tame_seq (C := cfg) (kp := cfg.keep 93) (sub (bodyOf Tryd.f93) [1, 1, 1]) (tame_ret 93 Tryd.f93 H0)
def j93_3 (H0 : Hp) (x0 x1 x2 x7 x11 x12 : AV) (H : Hp) : Res := CXf 93 40 (sub (bodyOf Tryd.f93) [1, 1, 0, 1, 0, 0, 1, 1, 1]) (seqL (fun k al H => LPf 93 40 (sub (bodyOf Tryd.f93) [1, 1, 0, 1, 0, 0]) k (trimL (cfg.keep 93) (sub (bodyOf Tryd.f93) [1, 1, 0, 1, 0, 0]) al) H) (blockL 0 (k93_1 H0))) [(0, x0), (1, x1), (2, x2), (7, x7), (11, x11), (12, x12)] H
def j93_2 (H0 : Hp) (x0 x1 x2 x7 x11 x12 x13 : AV) (H : Hp) : Res := CXf 93 40 (sub (bodyOf Tryd.f93) [1, 1, 0, 1, 0, 0, 1, 1]) (seqL (fun k al H => LPf 93 40 (sub (bodyOf Tryd.f93) [1, 1, 0, 1, 0, 0]) k (trimL (cfg.keep 93) (sub (bodyOf Tryd.f93) [1, 1, 0, 1, 0, 0]) al) H) (blockL 0 (k93_1 H0))) [(0, x0), (1, x1), (2, x2), (7, x7), (11, x11), (12, x12), (13, x13)] H
def j93_l1 (H0 : Hp) (x0 x1 x2 x7 x11 x12 : AV) (H : Hp) : Res := LPf 93 40 (sub (bodyOf Tryd.f93) [1, 1, 0, 1, 0, 0]) (blockL 0 (k93_1 H0)) [(0, x0), (1, x1), (2, x2), (7, x7), (11, x11), (12, x12)] H
def b93_1 (x7 : AV) (H : Hp) : Res :=
  bnd (cvRd x7 H) fun t39 =>
  some (t39, H)
theorem e93_1 (H0 : Hp) (x7 : AV) (H : Hp) : j93_1 H0 x7 H = b93_1 x7 H := (CXM_eq [4, 8, 9] _ _ _ _).trans (by kernel_rfl)
theorem m93_1 : L1 (b93_1) (b93_1) := fun _ _ =>
  bR fun _ => le_refl _
def b93_3 (j93_l1 : A6) (x0 x1 x2 x7 x11 x12 : AV) (H : Hp) : Res :=
  bnd (ibin .add x12 (.int .i64 1)) fun t37 =>
  j93_l1 x0 x1 x2 x7 x11 t37 H
theorem e93_3 (H0 : Hp) (x0 x1 x2 x7 x11 x12 : AV) (H : Hp) : j93_3 H0 x0 x1 x2 x7 x11 x12 H = b93_3 (j93_l1 H0) x0 x1 x2 x7 x11 x12 H := (CXM_eq [4, 8, 9] _ _ _ _).trans (by kernel_rfl)
theorem m93_3 {j93_l1 dj93_l1 : A6} (hj93_l1 : L6 j93_l1 dj93_l1) : L6 (b93_3 j93_l1) (b93_3 dj93_l1) := fun _ _ _ _ _ _ _ =>
  bR fun _ => hj93_l1 _ _ _ _ _ _ _
def b93_2 (j93_3 : A6) (x0 x1 x2 x7 x11 x12 x13 : AV) (H : Hp) : Res :=
  bnd (cvInt .u8 x12) fun t18 =>
  bnd (aindexS 1 x7 x12) fun t19 =>
  bnd (astoreU 1 t19 t18 H) fun r_8 =>
  bnd (cvInt .u8 x12) fun t21 =>
  bnd (ibin .geq t21 x0) fun t23 =>
  bnd (gdv t23 true (.tuple []) (some x12)) fun t25 =>
  bnd (gdv t23 true (.tuple []) (cvInt .u8 t25)) fun t26 =>
  bnd (gdv t23 true (.tuple []) (some x1)) fun t27 =>
  bnd (gdv t23 true (.tuple []) (ibin .leq t26 t27)) fun t28 =>
  bnd (apick t23 t28 (.bool false)) fun t29 =>
  cnd t29
    (bnd (ibin .add x12 x2) fun t34 =>
    bnd (cvInt .u8 t34) fun t35 =>
    bnd (aindexS 1 x7 x12) fun t36 =>
    bnd (astoreU 1 t36 t35 r_8.2) fun r_19 =>
    j93_3 x0 x1 x2 x7 x11 x12 r_19.2)
    (j93_3 x0 x1 x2 x7 x11 x12 r_8.2)
theorem e93_2 (H0 : Hp) (x0 x1 x2 x7 x11 x12 x13 : AV) (H : Hp) : j93_2 H0 x0 x1 x2 x7 x11 x12 x13 H = b93_2 (j93_3 H0) x0 x1 x2 x7 x11 x12 x13 H := (CXM_eq [4, 8, 9] _ _ _ _).trans (by kernel_rfl)
theorem m93_2 {j93_3 dj93_3 : A6} (hj93_3 : L6 j93_3 dj93_3) : L7 (b93_2 j93_3) (b93_2 dj93_3) := fun _ _ _ _ _ _ _ _ =>
  bR fun _ => bR fun _ => bR fun _ => bR fun _ => bR fun _ => bR fun _ => bR fun _ => bR fun _ => bR fun _ => bR fun _ => bK (bR fun _ => bR fun _ => bR fun _ => bR fun _ => hj93_3 _ _ _ _ _ _ _) (hj93_3 _ _ _ _ _ _ _)
def b93_l1 (j93_1 : A1) (j93_2 : A7) (x0 x1 x2 x7 x11 x12 : AV) (H : Hp) : Res :=
  bnd (ibin .lss x12 x11) fun t13 =>
  cnd t13
    (j93_2 x0 x1 x2 x7 x11 x12 t13 H)
    (j93_1 x7 H)
theorem e93_l1 (H0 : Hp) (x0 x1 x2 x7 x11 x12 : AV) (H : Hp) : j93_l1 H0 x0 x1 x2 x7 x11 x12 H = b93_l1 (j93_1 H0) (j93_2 H0) x0 x1 x2 x7 x11 x12 H := (LPL_eqm (C := cfg) [4, 8, 9] (tame_block 0 (k93_1_tame H0)) _ _).trans (by kernel_rfl)
theorem m93_l1 {j93_1 dj93_1 : A1} (hj93_1 : L1 j93_1 dj93_1) {j93_2 dj93_2 : A7} (hj93_2 : L7 j93_2 dj93_2) : L6 (b93_l1 j93_1 j93_2) (b93_l1 dj93_1 dj93_2) := fun _ _ _ _ _ _ _ =>
  bR fun _ => bK (hj93_2 _ _ _ _ _ _ _ _) (hj93_1 _ _)
def rj93_1 : A1 := b93_1
theorem sj93_1 (H0 : Hp) : L1 (rj93_1) (j93_1 H0) := fun _ _ => le_eq (m93_1 _ _) (e93_1 H0 _ _)
def rj93_3 (j93_l1 : A6) : A6 := b93_3 j93_l1
theorem sj93_3 (H0 : Hp) {yj93_l1 : A6} (hj93_l1 : L6 yj93_l1 (j93_l1 H0)) : L6 (rj93_3 yj93_l1) (j93_3 H0) := fun _ _ _ _ _ _ _ => le_eq (m93_3 hj93_l1 _ _ _ _ _ _ _) (e93_3 H0 _ _ _ _ _ _ _)
def rj93_2 (j93_l1 : A6) : A7 := b93_2 (rj93_3 j93_l1)
theorem sj93_2 (H0 : Hp) {yj93_l1 : A6} (hj93_l1 : L6 yj93_l1 (j93_l1 H0)) : L7 (rj93_2 yj93_l1) (j93_2 H0) := fun _ _ _ _ _ _ _ _ => le_eq (m93_2 (sj93_3 H0 hj93_l1) _ _ _ _ _ _ _ _) (e93_2 H0 _ _ _ _ _ _ _ _)
def rj93_l1 (n : Nat) : A6 := @Nat.rec (fun _ => A6) (fun _ _ _ _ _ _ _ => none) (fun _ j93_l1 => b93_l1 (rj93_1) (rj93_2 j93_l1)) n
theorem sj93_l1 (H0 : Hp) (n : Nat) : L6 (rj93_l1 n) (j93_l1 H0) := by
  induction n with
  | zero => exact fun _ _ _ _ _ _ _ => le_none _
  | succ n hj93_l1 => exact fun _ _ _ _ _ _ _ => le_eq (m93_l1 (sj93_1 H0) (sj93_2 H0 hj93_l1) _ _ _ _ _ _ _) (e93_l1 H0 _ _ _ _ _ _ _)
def bc93 (j93_l1 : A6) (p0 p1 p2 : AV) (H : Hp) : Res :=
  bnd (amake 1 1 false (.int .u8 0) (.int .i64 256) (.int .i64 256) H) fun r9 =>
  bnd (alenD (.slice 5) r9.1) fun t11 =>
  j93_l1 p0 p1 p2 r9.1 t11 (.int .i64 0) r9.2
theorem ec93 (p0 p1 p2 : AV) (H : Hp) : c93 p0 p1 p2 H = bc93 (j93_l1 H) p0 p1 p2 H := (callw_cxm (C := cfg) (fn := Tryd.f93) (c := bodyOf Tryd.f93) (n := 40) [4, 8, 9] Tryd.func93 (by kernel_rfl) (by kernel_rfl) [p0, p1, p2] (by kernel_rfl) H).trans (by kernel_rfl)
theorem mc93 {j93_l1 dj93_l1 : A6} (hj93_l1 : L6 j93_l1 dj93_l1) : L3 (bc93 j93_l1) (bc93 dj93_l1) := fun _ _ _ _ =>
  bR fun _ => bR fun _ => hj93_l1 _ _ _ _ _ _ _
def rc93 : A3 := fun p0 p1 p2 H => bc93 (rj93_l1 100000) p0 p1 p2 H
theorem sc93 : L3 rc93 c93 := fun _ _ _ H => le_eq (mc93 (sj93_l1 H 100000) _ _ _ _) (ec93 _ _ _ _)
def q93 : A3 := fun p0 p1 p2 H => flatC (callw cfg 93) [p0, p1, p2] H
def rq93 : A3 := fun p0 p1 p2 H => flatC (ofL3 (rc93)) [p0, p1, p2] H
theorem sq93 : L3 rq93 q93 := fun _ _ _ _ => flat_le (ofL3_le (sc93)) _ _

def c69 (H : Hp) : Res := callw cfg 69 [] H
def j69_1 (H0 : Hp) (x0 x1 : AV) (H : Hp) : Res := CXf 69 18 (sub (bodyOf Tryd.f69) [1, 1, 1]) (retL cfg 18 69 Tryd.f69 H0) [(0, x0), (1, x1)] H
def k69_1 (H0 : Hp) : KL := seqL (fun k al H => CXf 69 18 (sub (bodyOf Tryd.f69) [1, 1, 1]) k (trimL (cfg.keep 69) (sub (bodyOf Tryd.f69) [1, 1, 1]) al) H) (retL cfg 18 69 Tryd.f69 H0)
theorem k69_1_tame (H0 : Hp) : Tame 18 (k69_1 H0) := tame_seq (C := cfg) (kp := cfg.keep 69) (sub (bodyOf Tryd.f69) [1, 1, 1]) (tame_ret 69 Tryd.f69 H0)
def j69_3 (H0 : Hp) (x0 x1 x5 x6 : AV) (H : Hp) : Res := CXf 69 18 (sub (bodyOf Tryd.f69) [1, 1, 0, 1, 0, 0, 1, 1, 1]) (seqL (fun k al H => LPf 69 18 (sub (bodyOf Tryd.f69) [1, 1, 0, 1, 0, 0]) k (trimL (cfg.keep 69) (sub (bodyOf Tryd.f69) [1, 1, 0, 1, 0, 0]) al) H) (blockL 0 (k69_1 H0))) [(0, x0), (1, x1), (5, x5), (6, x6)] H
def j69_2 (H0 : Hp) (x0 x1 x5 x6 x7 : AV) (H : Hp) : Res := CXf 69 18 (sub (bodyOf Tryd.f69) [1, 1, 0, 1, 0, 0, 1, 1]) (seqL (fun k al H => LPf 69 18 (sub (bodyOf Tryd.f69) [1, 1, 0, 1, 0, 0]) k (trimL (cfg.keep 69) (sub (bodyOf Tryd.f69) [1, 1, 0, 1, 0, 0]) al) H) (blockL 0 (k69_1 H0))) [(0, x0), (1, x1), (5, x5), (6, x6), (7, x7)] H
def j69_l1 (H0 : Hp) (x0 x1 x5 x6 : AV) (H : Hp) : Res := LPf 69 18 (sub (bodyOf Tryd.f69) [1, 1, 0, 1, 0, 0]) (blockL 0 (k69_1 H0)) [(0, x0), (1, x1), (5, x5), (6, x6)] H
def b69_1 (q93 : A3) (x0 x1 : AV) (H : Hp) : Res :=
  bnd (q93 (.int .u8 65) (.int .u8 90) (.int .i64 32) H) fun r15 =>
  bnd (q93 (.int .u8 97) (.int .u8 122) (.int .i64 (-32)) r15.2) fun r16 =>
  bnd ((afill [(0, 1, (.str [112, 111, 115, 105, 120])), (1, 1, x1), (2, 1, r15.1), (3, 1, r16.1)] [(.str []), .nils, (.str []), (.str []), .nils, .nils]).map .agg) fun t17 =>
  bnd (astoreU 6 x0 t17 r16.2) fun r_6 =>
  bnd (aload true 6 x0 r_6.2) fun v0 =>
  some (v0, r_6.2)
theorem e69_1 (H0 : Hp) (x0 x1 : AV) (H : Hp) : j69_1 H0 x0 x1 H = b69_1 q93 x0 x1 H := (CXM_eq [4, 6, 7] _ _ _ _).trans (by kernel_rfl)
theorem m69_1 {q93 dq93 : A3} (hq93 : L3 q93 dq93) : L2 (b69_1 q93) (b69_1 dq93) := fun _ _ _ =>
  bC (hq93 _ _ _ _) fun _ => bC (hq93 _ _ _ _) fun _ => bR fun _ => bR fun _ => bR fun _ => le_refl _
def b69_3 (j69_l1 : A4) (x0 x1 x5 x6 : AV) (H : Hp) : Res :=
  bnd (ibin .add x6 (.int .i64 1)) fun t13 =>
  j69_l1 x0 x1 x5 t13 H
theorem e69_3 (H0 : Hp) (x0 x1 x5 x6 : AV) (H : Hp) : j69_3 H0 x0 x1 x5 x6 H = b69_3 (j69_l1 H0) x0 x1 x5 x6 H := (CXM_eq [4, 6, 7] _ _ _ _).trans (by kernel_rfl)
theorem m69_3 {j69_l1 dj69_l1 : A4} (hj69_l1 : L4 j69_l1 dj69_l1) : L4 (b69_3 j69_l1) (b69_3 dj69_l1) := fun _ _ _ _ _ =>
  bR fun _ => hj69_l1 _ _ _ _ _
def b69_2 (j69_3 : A4) (x0 x1 x5 x6 x7 : AV) (H : Hp) : Res :=
  bnd (aindexS 1 x1 x6) fun t12 =>
  bnd (astoreU 1 t12 x6 H) fun r_12 =>
  j69_3 x0 x1 x5 x6 r_12.2
theorem e69_2 (H0 : Hp) (x0 x1 x5 x6 x7 : AV) (H : Hp) : j69_2 H0 x0 x1 x5 x6 x7 H = b69_2 (j69_3 H0) x0 x1 x5 x6 x7 H := (CXM_eq [4, 6, 7] _ _ _ _).trans (by kernel_rfl)
theorem m69_2 {j69_3 dj69_3 : A4} (hj69_3 : L4 j69_3 dj69_3) : L5 (b69_2 j69_3) (b69_2 dj69_3) := fun _ _ _ _ _ _ =>
  bR fun _ => bR fun _ => hj69_3 _ _ _ _ _
def b69_l1 (j69_1 : A2) (j69_2 : A5) (x0 x1 x5 x6 : AV) (H : Hp) : Res :=
  bnd (ibin .lss x6 x5) fun t7 =>
  cnd t7
    (j69_2 x0 x1 x5 x6 t7 H)
    (j69_1 x0 x1 H)
theorem e69_l1 (H0 : Hp) (x0 x1 x5 x6 : AV) (H : Hp) : j69_l1 H0 x0 x1 x5 x6 H = b69_l1 (j69_1 H0) (j69_2 H0) x0 x1 x5 x6 H := (LPL_eqm (C := cfg) [4, 6, 7] (tame_block 0 (k69_1_tame H0)) _ _).trans (by kernel_rfl)
theorem m69_l1 {j69_1 dj69_1 : A2} (hj69_1 : L2 j69_1 dj69_1) {j69_2 dj69_2 : A5} (hj69_2 : L5 j69_2 dj69_2) : L4 (b69_l1 j69_1 j69_2) (b69_l1 dj69_1 dj69_2) := fun _ _ _ _ _ =>
  bR fun _ => bK (hj69_2 _ _ _ _ _ _) (hj69_1 _ _ _)
def rj69_1 : A2 := b69_1 rq93
theorem sj69_1 (H0 : Hp) : L2 (rj69_1) (j69_1 H0) := fun _ _ _ => le_eq (m69_1 sq93 _ _ _) (e69_1 H0 _ _ _)
def rj69_3 (j69_l1 : A4) : A4 := b69_3 j69_l1
theorem sj69_3 (H0 : Hp) {yj69_l1 : A4} (hj69_l1 : L4 yj69_l1 (j69_l1 H0)) : L4 (rj69_3 yj69_l1) (j69_3 H0) := fun _ _ _ _ _ => le_eq (m69_3 hj69_l1 _ _ _ _ _) (e69_3 H0 _ _ _ _ _)
def rj69_2 (j69_l1 : A4) : A5 := b69_2 (rj69_3 j69_l1)
theorem sj69_2 (H0 : Hp) {yj69_l1 : A4} (hj69_l1 : L4 yj69_l1 (j69_l1 H0)) : L5 (rj69_2 yj69_l1) (j69_2 H0) := fun _ _ _ _ _ _ => le_eq (m69_2 (sj69_3 H0 hj69_l1) _ _ _ _ _ _) (e69_2 H0 _ _ _ _ _ _)
def rj69_l1 (n : Nat) : A4 := @Nat.rec (fun _ => A4) (fun _ _ _ _ _ => none) (fun _ j69_l1 => b69_l1 (rj69_1) (rj69_2 j69_l1)) n
theorem sj69_l1 (H0 : Hp) (n : Nat) : L4 (rj69_l1 n) (j69_l1 H0) := by
  induction n with
  | zero => exact fun _ _ _ _ _ => le_none _
  | succ n hj69_l1 => exact fun _ _ _ _ _ => le_eq (m69_l1 (sj69_1 H0) (sj69_2 H0 hj69_l1) _ _ _ _ _) (e69_l1 H0 _ _ _ _ _)
def bc69 (j69_l1 : A4) (H : Hp) : Res :=
  bnd (some ((.ptr H.length 0), H ++ [.cells [(.str []), .nils, (.str []), (.str []), .nils, .nils]])) fun r0 =>
  bnd (amake 1 8 false (.int .i64 0) (.int .i64 256) (.int .i64 256) r0.2) fun r3 =>
  bnd (alenD (.slice 3) r3.1) fun t5 =>
  j69_l1 r0.1 r3.1 t5 (.int .i64 0) r3.2
theorem ec69 (H : Hp) : c69 H = bc69 (j69_l1 H) H := (callw_cxm (C := cfg) (fn := Tryd.f69) (c := bodyOf Tryd.f69) (n := 18) [4, 6, 7] Tryd.func69 (by kernel_rfl) (by kernel_rfl) [] (by kernel_rfl) H).trans (by kernel_rfl)
theorem mc69 {j69_l1 dj69_l1 : A4} (hj69_l1 : L4 j69_l1 dj69_l1) : L0 (bc69 j69_l1) (bc69 dj69_l1) := fun _ =>
  bR fun _ => bR fun _ => bR fun _ => hj69_l1 _ _ _ _ _
def rc69 : A0 := fun H => bc69 (rj69_l1 100000) H
theorem sc69 : L0 rc69 c69 := fun H => le_eq (mc69 (sj69_l1 H 100000) _) (ec69 _)
end
end Go.Am
