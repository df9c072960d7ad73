/-
  Functions of the translation that are worked out at given arguments: written by program (wip/gen.py).
-/
import Derived.Test.YtehanadfidoodaaGreatDoorNkGx
import Derived.Test.YtehanadfidoodaaGreatDoorEmWx
namespace Go.Am
open Go.Proofs
set_option maxRecDepth 100000
set_option linter.unusedVariables false
noncomputable section

noncomputable abbrev CXf (f n : Nat) := CXL cfg (callw cfg) (LPL cfg (cfg.keep f) n) (cfg.keep f) n seqL blockL
noncomputable abbrev LPf (f n : Nat) := LPL cfg (cfg.keep f) n
def c31 (H : Hp) : Res := callw cfg 31 [] H
def j31_1 (H0 : Hp) (x0 x1 x2 x3 : AV) (H : Hp) : Res := CXf 31 55 (sub (bodyOf Tryz.f31) [1, 1, 1, 1]) (retL cfg 55 31 Tryz.f31 H0) [(0, x0), (1, x1), (2, x2), (3, x3)] H
def k31_1 (H0 : Hp) : KL := seqL (fun k al H => CXf 31 55 (sub (bodyOf Tryz.f31) [1, 1, 1, 1]) k (trimL (cfg.keep 31) (sub (bodyOf Tryz.f31) [1, 1, 1, 1]) al) H) (retL cfg 55 31 Tryz.f31 H0)
theorem k31_1_tame (H0 : Hp) : Tame 55 (k31_1 H0) := tame_seq (C := cfg) (kp := cfg.keep 31) (sub (bodyOf Tryz.f31) [1, 1, 1, 1]) (tame_ret 31 Tryz.f31 H0)
def j31_3 (H0 : Hp) (x0 x1 x2 x3 x4 : AV) (H : Hp) : Res := CXf 31 55 (sub (bodyOf Tryz.f31) [1, 1, 1, 0, 1, 0, 0, 1, 1]) (seqL (fun k al H => LPf 31 55 (sub (bodyOf Tryz.f31) [1, 1, 1, 0, 1, 0, 0]) k (trimL (cfg.keep 31) (sub (bodyOf Tryz.f31) [1, 1, 1, 0, 1, 0, 0]) al) H) (blockL 0 (k31_1 H0))) [(0, x0), (1, x1), (2, x2), (3, x3), (4, x4)] H
def k31_2 (H0 : Hp) : KL := seqL (fun k al H => CXf 31 55 (sub (bodyOf Tryz.f31) [1, 1, 1, 0, 1, 0, 0, 1, 1]) k (trimL (cfg.keep 31) (sub (bodyOf Tryz.f31) [1, 1, 1, 0, 1, 0, 0, 1, 1]) al) H) (seqL (fun k al H => LPf 31 55 (sub (bodyOf Tryz.f31) [1, 1, 1, 0, 1, 0, 0]) k (trimL (cfg.keep 31) (sub (bodyOf Tryz.f31) [1, 1, 1, 0, 1, 0, 0]) al) H) (blockL 0 (k31_1 H0)))
def j31_5 (H0 : Hp) (x0 x1 x2 x3 x4 x5 x6 : AV) (H : Hp) : Res := CXf 31 55 (sub (bodyOf Tryz.f31) [1, 1, 1, 0, 1, 0, 0, 1, 0, 0, 1, 1, 1]) (blockL 1 (k31_2 H0)) [(0, x0), (1, x1), (2, x2), (3, x3), (4, x4), (5, x5), (6, x6)] H
def j31_4 (H0 : Hp) (x0 x1 x2 x3 x4 x5 x6 : AV) (H : Hp) : Res := CXf 31 55 (sub (bodyOf Tryz.f31) [1, 1, 1, 0, 1, 0, 0, 1, 0, 0, 1, 1]) (blockL 1 (k31_2 H0)) [(0, x0), (1, x1), (2, x2), (3, x3), (4, x4), (5, x5), (6, x6)] H
def j31_2 (H0 : Hp) (x0 x1 x2 x3 x4 : AV) (H : Hp) : Res := CXf 31 55 (sub (bodyOf Tryz.f31) [1, 1, 1, 0, 1, 0, 0, 1]) (seqL (fun k al H => LPf 31 55 (sub (bodyOf Tryz.f31) [1, 1, 1, 0, 1, 0, 0]) k (trimL (cfg.keep 31) (sub (bodyOf Tryz.f31) [1, 1, 1, 0, 1, 0, 0]) al) H) (blockL 0 (k31_1 H0))) [(0, x0), (1, x1), (2, x2), (3, x3), (4, x4)] H
def j31_l1 (H0 : Hp) (x0 x1 x2 x3 x4 : AV) (H : Hp) : Res := LPf 31 55 (sub (bodyOf Tryz.f31) [1, 1, 1, 0, 1, 0, 0]) (blockL 0 (k31_1 H0)) [(0, x0), (1, x1), (2, x2), (3, x3), (4, x4)] H
def b31_1 (x0 x1 x2 x3 : AV) (H : Hp) : Res :=
  bnd (cvRd x2 H) fun t49 =>
  bnd (afield 2 x1) fun t50 =>
  bnd (astoreU 1 t50 t49 H) fun r_7 =>
  bnd (cvRd x3 r_7.2) fun t52 =>
  bnd (afield 3 x1) fun t53 =>
  bnd (astoreU 1 t53 t52 r_7.2) fun r_10 =>
  bnd (aload true 6 x1 r_10.2) fun t54 =>
  bnd (astoreU 6 x0 t54 r_10.2) fun r_12 =>
  bnd (aload true 6 x0 r_12.2) fun v0 =>
  some (v0, r_12.2)
theorem e31_1 (H0 : Hp) (x0 x1 x2 x3 : AV) (H : Hp) : j31_1 H0 x0 x1 x2 x3 H = b31_1 x0 x1 x2 x3 H := (CXM_eq [5, 6, 9, 11, 14] _ _ _ _).trans (by kernel_rfl)
theorem m31_1 : L4 (b31_1) (b31_1) := fun _ _ _ _ _ =>
  bR fun _ => bR fun _ => bR fun _ => bR fun _ => bR fun _ => bR fun _ => bR fun _ => bR fun _ => bR fun _ => le_refl _
def b31_3 (j31_l1 : A5) (x0 x1 x2 x3 x4 : AV) (H : Hp) : Res :=
  bnd (ibin .add x4 (.int .i64 1)) fun t11 =>
  j31_l1 x0 x1 x2 x3 t11 H
theorem e31_3 (H0 : Hp) (x0 x1 x2 x3 x4 : AV) (H : Hp) : j31_3 H0 x0 x1 x2 x3 x4 H = b31_3 (j31_l1 H0) x0 x1 x2 x3 x4 H := (CXM_eq [5, 6, 9, 11, 14] _ _ _ _).trans (by kernel_rfl)
theorem m31_3 {j31_l1 dj31_l1 : A5} (hj31_l1 : L5 j31_l1 dj31_l1) : L5 (b31_3 j31_l1) (b31_3 dj31_l1) := fun _ _ _ _ _ _ =>
  bR fun _ => hj31_l1 _ _ _ _ _ _
def b31_5 (j31_3 : A5) (x0 x1 x2 x3 x4 x5 x6 : AV) (H : Hp) : Res :=
  bnd (afield 1 x1) fun t34 =>
  bnd (aload false 1 t34 H) fun t35 =>
  bnd ((setElems 1 [(0, x4)] [(.int .i64 0)]).map (.vs 1 .clip)) fun t37 =>
  bnd (aappE 1 8 t35 t37 H) fun r38 =>
  bnd (afield 1 x1) fun t39 =>
  bnd (astoreU 1 t39 r38.1 r38.2) fun r_22 =>
  bnd ((setElems 1 [(0, x5)] [(.int .u8 0)]).map (.vs 1 .clip)) fun t42 =>
  bnd (aappE 1 1 x2 t42 r_22.2) fun r43 =>
  bnd ((setElems 1 [(0, x6)] [(.int .u8 0)]).map (.vs 1 .clip)) fun t46 =>
  bnd (aappE 1 1 x3 t46 r43.2) fun r47 =>
  j31_3 x0 x1 r43.1 r47.1 x4 r47.2
theorem e31_5 (H0 : Hp) (x0 x1 x2 x3 x4 x5 x6 : AV) (H : Hp) : j31_5 H0 x0 x1 x2 x3 x4 x5 x6 H = b31_5 (j31_3 H0) x0 x1 x2 x3 x4 x5 x6 H := (CXM_eq [5, 6, 9, 11, 14] _ _ _ _).trans (by kernel_rfl)
theorem m31_5 {j31_3 dj31_3 : A5} (hj31_3 : L5 j31_3 dj31_3) : L7 (b31_5 j31_3) (b31_5 dj31_3) := fun _ _ _ _ _ _ _ _ =>
  bR fun _ => bR fun _ => bR fun _ => bR fun _ => bR fun _ => bR fun _ => bR fun _ => bR fun _ => bR fun _ => bR fun _ => hj31_3 _ _ _ _ _ _
def b31_4 (j31_5 : A7) (x0 x1 x2 x3 x4 x5 x6 : AV) (H : Hp) : Res :=
  bnd (ibin .geq x4 (.int .i64 97)) fun t26 =>
  bnd (gdv t26 true (.tuple []) (some x4)) fun t28 =>
  bnd (gdv t26 true (.tuple []) (ibin .leq t28 (.int .i64 122))) fun t29 =>
  bnd (apick t26 t29 (.bool false)) fun t30 =>
  cnd t30
    (bnd (ibin .sub x4 (.int .i64 32)) fun t32 =>
    bnd (cvInt .u8 t32) fun t33 =>
    j31_5 x0 x1 x2 x3 x4 x5 t33 H)
    (j31_5 x0 x1 x2 x3 x4 x5 x6 H)
theorem e31_4 (H0 : Hp) (x0 x1 x2 x3 x4 x5 x6 : AV) (H : Hp) : j31_4 H0 x0 x1 x2 x3 x4 x5 x6 H = b31_4 (j31_5 H0) x0 x1 x2 x3 x4 x5 x6 H := (CXM_eq [5, 6, 9, 11, 14] _ _ _ _).trans (by kernel_rfl)
theorem m31_4 {j31_5 dj31_5 : A7} (hj31_5 : L7 j31_5 dj31_5) : L7 (b31_4 j31_5) (b31_4 dj31_5) := fun _ _ _ _ _ _ _ _ =>
  bR fun _ => bR fun _ => bR fun _ => bR fun _ => bK (bR fun _ => bR fun _ => hj31_5 _ _ _ _ _ _ _ _) (hj31_5 _ _ _ _ _ _ _ _)
def b31_2 (j31_4 : A7) (x0 x1 x2 x3 x4 : AV) (H : Hp) : Res :=
  bnd (cvInt .u8 x4) fun t13 =>
  bnd (cvInt .u8 x4) fun t15 =>
  bnd (ibin .geq x4 (.int .i64 65)) fun t17 =>
  bnd (gdv t17 true (.tuple []) (some x4)) fun t19 =>
  bnd (gdv t17 true (.tuple []) (ibin .leq t19 (.int .i64 90))) fun t20 =>
  bnd (apick t17 t20 (.bool false)) fun t21 =>
  cnd t21
    (bnd (ibin .add x4 (.int .i64 32)) fun t23 =>
    bnd (cvInt .u8 t23) fun t24 =>
    j31_4 x0 x1 x2 x3 x4 t24 t15 H)
    (j31_4 x0 x1 x2 x3 x4 t13 t15 H)
theorem e31_2 (H0 : Hp) (x0 x1 x2 x3 x4 : AV) (H : Hp) : j31_2 H0 x0 x1 x2 x3 x4 H = b31_2 (j31_4 H0) x0 x1 x2 x3 x4 H := (CXM_eq [5, 6, 9, 11, 14] _ _ _ _).trans (by kernel_rfl)
theorem m31_2 {j31_4 dj31_4 : A7} (hj31_4 : L7 j31_4 dj31_4) : L5 (b31_2 j31_4) (b31_2 dj31_4) := fun _ _ _ _ _ _ =>
  bR fun _ => bR fun _ => bR fun _ => bR fun _ => bR fun _ => bR fun _ => bK (bR fun _ => bR fun _ => hj31_4 _ _ _ _ _ _ _ _) (hj31_4 _ _ _ _ _ _ _ _)
def b31_l1 (j31_1 : A4) (j31_2 : A5) (x0 x1 x2 x3 x4 : AV) (H : Hp) : Res :=
  bnd (ibin .lss x4 (.int .i64 256)) fun t9 =>
  cnd t9
    (j31_2 x0 x1 x2 x3 x4 H)
    (j31_1 x0 x1 x2 x3 H)
theorem e31_l1 (H0 : Hp) (x0 x1 x2 x3 x4 : AV) (H : Hp) : j31_l1 H0 x0 x1 x2 x3 x4 H = b31_l1 (j31_1 H0) (j31_2 H0) x0 x1 x2 x3 x4 H := (LPL_eqm (C := cfg) [5, 6, 9, 11, 14] (tame_block 0 (k31_1_tame H0)) _ _).trans (by kernel_rfl)
theorem m31_l1 {j31_1 dj31_1 : A4} (hj31_1 : L4 j31_1 dj31_1) {j31_2 dj31_2 : A5} (hj31_2 : L5 j31_2 dj31_2) : L5 (b31_l1 j31_1 j31_2) (b31_l1 dj31_1 dj31_2) := fun _ _ _ _ _ _ =>
  bR fun _ => bK (hj31_2 _ _ _ _ _ _) (hj31_1 _ _ _ _ _)
def rj31_1 : A4 := b31_1
theorem sj31_1 (H0 : Hp) : L4 (rj31_1) (j31_1 H0) := fun _ _ _ _ _ => le_eq (m31_1 _ _ _ _ _) (e31_1 H0 _ _ _ _ _)
def rj31_3 (j31_l1 : A5) : A5 := b31_3 j31_l1
theorem sj31_3 (H0 : Hp) {yj31_l1 : A5} (hj31_l1 : L5 yj31_l1 (j31_l1 H0)) : L5 (rj31_3 yj31_l1) (j31_3 H0) := fun _ _ _ _ _ _ => le_eq (m31_3 hj31_l1 _ _ _ _ _ _) (e31_3 H0 _ _ _ _ _ _)
def rj31_5 (j31_l1 : A5) : A7 := b31_5 (rj31_3 j31_l1)
theorem sj31_5 (H0 : Hp) {yj31_l1 : A5} (hj31_l1 : L5 yj31_l1 (j31_l1 H0)) : L7 (rj31_5 yj31_l1) (j31_5 H0) := fun _ _ _ _ _ _ _ _ => le_eq (m31_5 (sj31_3 H0 hj31_l1) _ _ _ _ _ _ _ _) (e31_5 H0 _ _ _ _ _ _ _ _)
def rj31_4 (j31_l1 : A5) : A7 := b31_4 (rj31_5 j31_l1)
theorem sj31_4 (H0 : Hp) {yj31_l1 : A5} (hj31_l1 : L5 yj31_l1 (j31_l1 H0)) : L7 (rj31_4 yj31_l1) (j31_4 H0) := fun _ _ _ _ _ _ _ _ => le_eq (m31_4 (sj31_5 H0 hj31_l1) _ _ _ _ _ _ _ _) (e31_4 H0 _ _ _ _ _ _ _ _)
def rj31_2 (j31_l1 : A5) : A5 := b31_2 (rj31_4 j31_l1)
theorem sj31_2 (H0 : Hp) {yj31_l1 : A5} (hj31_l1 : L5 yj31_l1 (j31_l1 H0)) : L5 (rj31_2 yj31_l1) (j31_2 H0) := fun _ _ _ _ _ _ => le_eq (m31_2 (sj31_4 H0 hj31_l1) _ _ _ _ _ _) (e31_2 H0 _ _ _ _ _ _)
def rj31_l1 (n : Nat) : A5 := @Nat.rec (fun _ => A5) (fun _ _ _ _ _ _ => none) (fun _ j31_l1 => b31_l1 (rj31_1) (rj31_2 j31_l1)) n
theorem sj31_l1 (H0 : Hp) (n : Nat) : L5 (rj31_l1 n) (j31_l1 H0) := by
  induction n with
  | zero => exact fun _ _ _ _ _ _ => le_none _
  | succ n hj31_l1 => exact fun _ _ _ _ _ _ => le_eq (m31_l1 (sj31_1 H0) (sj31_2 H0 hj31_l1) _ _ _ _ _ _) (e31_l1 H0 _ _ _ _ _ _)
def bc31 (j31_l1 : A5) (H : Hp) : Res :=
  bnd (some ((.ptr H.length 0), H ++ [.cells [(.str []), .nils, (.str []), (.str []), .nils, .nils]])) fun r0 =>
  bnd ((afill [(0, 1, (.str [112, 111, 115, 105, 120]))] [(.str []), .nils, (.str []), (.str []), .nils, .nils]).map .agg) fun t7 =>
  bnd (some ((.ptr r0.2.length 0), r0.2 ++ [.cells [(.str []), .nils, (.str []), (.str []), .nils, .nils]])) fun r1 =>
  bnd (astoreU 6 r1.1 t7 r1.2) fun r_4 =>
  j31_l1 r0.1 r1.1 .nils .nils (.int .i64 0) r_4.2
theorem ec31 (H : Hp) : c31 H = bc31 (j31_l1 H) H := (callw_cxm (C := cfg) (fn := Tryz.f31) (c := bodyOf Tryz.f31) (n := 55) [5, 6, 9, 11, 14] Tryz.func31 (by kernel_rfl) (by kernel_rfl) [] (by kernel_rfl) H).trans (by kernel_rfl)
theorem mc31 {j31_l1 dj31_l1 : A5} (hj31_l1 : L5 j31_l1 dj31_l1) : L0 (bc31 j31_l1) (bc31 dj31_l1) := fun _ =>
  bR fun _ => bR fun _ => bR fun _ => bR fun _ => hj31_l1 _ _ _ _ _ _
def rc31 : A0 := fun H => bc31 (rj31_l1 100000) H
theorem sc31 : L0 rc31 c31 := fun H => le_eq (mc31 (sj31_l1 H 100000) _) (ec31 _)
def q31 : A0 := fun H => flatC (callw cfg 31) [] H
def rq31 : A0 := fun H => flatC (ofL0 (rc31)) [] H
theorem sq31 : L0 rq31 q31 := fun _ => flat_le (ofL0_le (sc31)) _ _

def c64 (p0 : AV) (H : Hp) : Res := callw cfg 64 [p0] H
def j64_3 (H0 : Hp) (H : Hp) : Res := CXf 64 78 (sub (bodyOf Tryz.f64) [1, 1, 1, 1]) (retL cfg 78 64 Tryz.f64 H0) [] H
def k64_1 (H0 : Hp) : KL := seqL (fun k al H => CXf 64 78 (sub (bodyOf Tryz.f64) [1, 1, 1, 1]) k (trimL (cfg.keep 64) (sub (bodyOf Tryz.f64) [1, 1, 1, 1]) al) H) (retL cfg 78 64 Tryz.f64 H0)
theorem k64_1_tame (H0 : Hp) : Tame 78 (k64_1 H0) := tame_seq (C := cfg) (kp := cfg.keep 64) (sub (bodyOf Tryz.f64) [1, 1, 1, 1]) (tame_ret 64 Tryz.f64 H0)
def j64_5 (H0 : Hp) (x33 x34 x35 : AV) (H : Hp) : Res := CXf 64 78 (sub (bodyOf Tryz.f64) [1, 1, 1, 0, 1, 0, 0, 1, 1, 1]) (seqL (fun k al H => LPf 64 78 (sub (bodyOf Tryz.f64) [1, 1, 1, 0, 1, 0, 0]) k (trimL (cfg.keep 64) (sub (bodyOf Tryz.f64) [1, 1, 1, 0, 1, 0, 0]) al) H) (blockL 0 (k64_1 H0))) [(33, x33), (34, x34), (35, x35)] H
def j64_4 (H0 : Hp) (x33 x34 x35 x36 : AV) (H : Hp) : Res := CXf 64 78 (sub (bodyOf Tryz.f64) [1, 1, 1, 0, 1, 0, 0, 1, 1]) (seqL (fun k al H => LPf 64 78 (sub (bodyOf Tryz.f64) [1, 1, 1, 0, 1, 0, 0]) k (trimL (cfg.keep 64) (sub (bodyOf Tryz.f64) [1, 1, 1, 0, 1, 0, 0]) al) H) (blockL 0 (k64_1 H0))) [(33, x33), (34, x34), (35, x35), (36, x36)] H
def j64_l1 (H0 : Hp) (x33 x34 x35 : AV) (H : Hp) : Res := LPf 64 78 (sub (bodyOf Tryz.f64) [1, 1, 1, 0, 1, 0, 0]) (blockL 0 (k64_1 H0)) [(33, x33), (34, x34), (35, x35)] H
def j64_2 (H0 : Hp) (x1 : AV) (H : Hp) : Res := CXf 64 78 (sub (bodyOf Tryz.f64) [1, 1, 1]) (retL cfg 78 64 Tryz.f64 H0) [(1, x1)] H
def j64_1 (H0 : Hp) (x1 : AV) (H : Hp) : Res := CXf 64 78 (sub (bodyOf Tryz.f64) [1, 1]) (retL cfg 78 64 Tryz.f64 H0) [(1, x1)] H
def b64_3 (H : Hp) : Res :=
  some ((.int .i64 0), H)
theorem e64_3 (H0 : Hp) (H : Hp) : j64_3 H0 H = b64_3 H := (CXM_eq [3, 5, 7, 10, 11] _ _ _ _).trans (by kernel_rfl)
theorem m64_3 : L0 (b64_3) (b64_3) := fun _ =>
  le_refl _
def b64_5 (j64_l1 : A3) (x33 x34 x35 : AV) (H : Hp) : Res :=
  bnd (ibin .add x35 (.int .i64 1)) fun t77 =>
  j64_l1 x33 x34 t77 H
theorem e64_5 (H0 : Hp) (x33 x34 x35 : AV) (H : Hp) : j64_5 H0 x33 x34 x35 H = b64_5 (j64_l1 H0) x33 x34 x35 H := (CXM_eq [3, 5, 7, 10, 11] _ _ _ _).trans (by kernel_rfl)
theorem m64_5 {j64_l1 dj64_l1 : A3} (hj64_l1 : L3 j64_l1 dj64_l1) : L3 (b64_5 j64_l1) (b64_5 dj64_l1) := fun _ _ _ _ =>
  bR fun _ => hj64_l1 _ _ _ _
def b64_4 (j64_5 : A3) (x33 x34 x35 x36 : AV) (H : Hp) : Res :=
  bnd (aindexS 5 x33 x35) fun t37 =>
  bnd (aload true 5 t37 H) fun t38 =>
  bnd (some ((.ptr H.length 0), H ++ [.cells [(.int .i64 0), (.int .i64 0), (.int .i64 0), (.int .i64 0), (.int .i64 0)]])) fun r4 =>
  bnd (astoreU 5 r4.1 t38 r4.2) fun r_10 =>
  bnd (afield 0 r4.1) fun t39 =>
  bnd (aload false 1 t39 r_10.2) fun t40 =>
  bnd (ibin .lss t40 (.int .i64 1)) fun t41 =>
  bnd (gdv t41 false (.tuple []) (afield 1 r4.1)) fun t43 =>
  bnd (gdv t41 false (.tuple []) (aload false 1 t43 r_10.2)) fun t44 =>
  bnd (gdv t41 false (.tuple []) (ibin .lss t44 (.int .i64 1))) fun t45 =>
  bnd (apick t41 (.bool true) t45) fun t46 =>
  bnd (gdv t46 false (.tuple []) (afield 2 r4.1)) fun t48 =>
  bnd (gdv t46 false (.tuple []) (aload false 1 t48 r_10.2)) fun t49 =>
  bnd (gdv t46 false (.tuple []) (ibin .lss t49 (.int .i64 0))) fun t50 =>
  bnd (apick t46 (.bool true) t50) fun t51 =>
  bnd (gdv t51 false (.tuple []) (afield 3 r4.1)) fun t53 =>
  bnd (gdv t51 false (.tuple []) (aload false 1 t53 r_10.2)) fun t54 =>
  bnd (gdv t51 false (.tuple []) (ibin .lss t54 (.int .i64 0))) fun t55 =>
  bnd (apick t51 (.bool true) t55) fun t56 =>
  bnd (gdv t56 false (.tuple []) (afield 2 r4.1)) fun t58 =>
  bnd (gdv t56 false (.tuple []) (aload false 1 t58 r_10.2)) fun t59 =>
  bnd (gdv t56 false (.tuple []) (ibin .eql t59 (.int .i64 0))) fun t60 =>
  bnd (gdv t56 false (.tuple []) (some t60)) fun t61 =>
  bnd (gdv t61 true (.tuple []) (afield 3 r4.1)) fun t62 =>
  bnd (gdv t61 true (.tuple []) (aload false 1 t62 r_10.2)) fun t63 =>
  bnd (gdv t61 true (.tuple []) (ibin .neq t63 (.int .i64 0))) fun t64 =>
  bnd (gdv t56 false (.tuple []) (apick t61 t64 (.bool false))) fun t65 =>
  bnd (apick t56 (.bool true) t65) fun t66 =>
  bnd (gdv t66 false (.tuple []) (afield 4 r4.1)) fun t68 =>
  bnd (gdv t66 false (.tuple []) (aload false 1 t68 r_10.2)) fun t69 =>
  bnd (gdv t66 false (.tuple []) (ibin .lss t69 (.int .i64 0))) fun t70 =>
  bnd (apick t66 (.bool true) t70) fun t71 =>
  bnd (gdv t71 false (.tuple []) (afield 4 r4.1)) fun t73 =>
  bnd (gdv t71 false (.tuple []) (aload false 1 t73 r_10.2)) fun t74 =>
  bnd (gdv t71 false (.tuple []) (ibin .gtr t74 (.int .i64 31))) fun t75 =>
  bnd (apick t71 (.bool true) t75) fun t76 =>
  cnd t76
    (some ((.int .i64 2), r_10.2))
    (j64_5 x33 x34 x35 r_10.2)
theorem e64_4 (H0 : Hp) (x33 x34 x35 x36 : AV) (H : Hp) : j64_4 H0 x33 x34 x35 x36 H = b64_4 (j64_5 H0) x33 x34 x35 x36 H := (CXM_eq [3, 5, 7, 10, 11] _ _ _ _).trans (by kernel_rfl)
theorem m64_4 {j64_5 dj64_5 : A3} (hj64_5 : L3 j64_5 dj64_5) : L4 (b64_4 j64_5) (b64_4 dj64_5) := fun _ _ _ _ _ =>
  bR fun _ => bR fun _ => bR fun _ => bR fun _ => bR fun _ => bR fun _ => bR fun _ => bR fun _ => bR fun _ => bR fun _ => bR fun _ => bR fun _ => bR fun _ => bR fun _ => bR fun _ => bR fun _ => bR fun _ => bR fun _ => bR fun _ => bR fun _ => bR fun _ => bR fun _ => bR fun _ => bR fun _ => bR fun _ => bR fun _ => bR fun _ => bR fun _ => bR fun _ => bR fun _ => bR fun _ => bR fun _ => bR fun _ => bR fun _ => bR fun _ => bR fun _ => bK (le_refl _) (hj64_5 _ _ _ _)
def b64_l1 (j64_3 : A0) (j64_4 : A4) (x33 x34 x35 : AV) (H : Hp) : Res :=
  bnd (ibin .lss x35 x34) fun t36 =>
  cnd t36
    (j64_4 x33 x34 x35 t36 H)
    (j64_3 H)
theorem e64_l1 (H0 : Hp) (x33 x34 x35 : AV) (H : Hp) : j64_l1 H0 x33 x34 x35 H = b64_l1 (j64_3 H0) (j64_4 H0) x33 x34 x35 H := (LPL_eqm (C := cfg) [3, 5, 7, 10, 11] (tame_block 0 (k64_1_tame H0)) _ _).trans (by kernel_rfl)
theorem m64_l1 {j64_3 dj64_3 : A0} (hj64_3 : L0 j64_3 dj64_3) {j64_4 dj64_4 : A4} (hj64_4 : L4 j64_4 dj64_4) : L3 (b64_l1 j64_3 j64_4) (b64_l1 dj64_3 dj64_4) := fun _ _ _ _ =>
  bR fun _ => bK (hj64_4 _ _ _ _ _) (hj64_3 _)
def b64_2 (j64_l1 : A3) (x1 : AV) (H : Hp) : Res :=
  bnd (afield 0 x1) fun t32 =>
  bnd (aload false 1 t32 H) fun t33 =>
  bnd (alenD (.slice 149) t33) fun t34 =>
  j64_l1 t33 t34 (.int .i64 0) H
theorem e64_2 (H0 : Hp) (x1 : AV) (H : Hp) : j64_2 H0 x1 H = b64_2 (j64_l1 H0) x1 H := (CXM_eq [3, 5, 7, 10, 11] _ _ _ _).trans (by kernel_rfl)
theorem m64_2 {j64_l1 dj64_l1 : A3} (hj64_l1 : L3 j64_l1 dj64_l1) : L1 (b64_2 j64_l1) (b64_2 dj64_l1) := fun _ _ =>
  bR fun _ => bR fun _ => bR fun _ => hj64_l1 _ _ _ _
def b64_1 (j64_2 : A1) (x1 : AV) (H : Hp) : Res :=
  bnd (afield 1 x1) fun t9 =>
  bnd (aload false 1 t9 H) fun t10 =>
  bnd (ibin .lss t10 (.int .i64 (-1))) fun t11 =>
  bnd (gdv t11 false (.tuple []) (afield 1 x1)) fun t13 =>
  bnd (gdv t11 false (.tuple []) (aload false 1 t13 H)) fun t14 =>
  bnd (gdv t11 false (.tuple []) (ibin .gtr t14 (.int .i64 255))) fun t15 =>
  bnd (apick t11 (.bool true) t15) fun t16 =>
  bnd (gdv t16 false (.tuple []) (afield 1 x1)) fun t18 =>
  bnd (gdv t16 false (.tuple []) (aload false 1 t18 H)) fun t19 =>
  bnd (gdv t16 false (.tuple []) (ibin .eql t19 (.int .i64 10))) fun t20 =>
  bnd (apick t16 (.bool true) t20) fun t21 =>
  bnd (gdv t21 false (.tuple []) (afield 2 x1)) fun t23 =>
  bnd (gdv t21 false (.tuple []) (aload false 1 t23 H)) fun t24 =>
  bnd (gdv t21 false (.tuple []) (ibin .lss t24 (.int .i64 0))) fun t25 =>
  bnd (apick t21 (.bool true) t25) fun t26 =>
  bnd (gdv t26 false (.tuple []) (afield 2 x1)) fun t28 =>
  bnd (gdv t26 false (.tuple []) (aload false 1 t28 H)) fun t29 =>
  bnd (gdv t26 false (.tuple []) (ibin .gtr t29 (.int .i64 31))) fun t30 =>
  bnd (apick t26 (.bool true) t30) fun t31 =>
  cnd t31
    (some ((.int .i64 2), H))
    (j64_2 x1 H)
theorem e64_1 (H0 : Hp) (x1 : AV) (H : Hp) : j64_1 H0 x1 H = b64_1 (j64_2 H0) x1 H := (CXM_eq [3, 5, 7, 10, 11] _ _ _ _).trans (by kernel_rfl)
theorem m64_1 {j64_2 dj64_2 : A1} (hj64_2 : L1 j64_2 dj64_2) : L1 (b64_1 j64_2) (b64_1 dj64_2) := fun _ _ =>
  bR fun _ => bR fun _ => bR fun _ => bR fun _ => bR fun _ => bR fun _ => bR fun _ => bR fun _ => bR fun _ => bR fun _ => bR fun _ => bR fun _ => bR fun _ => bR fun _ => bR fun _ => bR fun _ => bR fun _ => bR fun _ => bR fun _ => bK (le_refl _) (hj64_2 _ _)
def rj64_3 : A0 := b64_3
theorem sj64_3 (H0 : Hp) : L0 (rj64_3) (j64_3 H0) := fun _ => le_eq (m64_3 _) (e64_3 H0 _)
def rj64_5 (j64_l1 : A3) : A3 := b64_5 j64_l1
theorem sj64_5 (H0 : Hp) {yj64_l1 : A3} (hj64_l1 : L3 yj64_l1 (j64_l1 H0)) : L3 (rj64_5 yj64_l1) (j64_5 H0) := fun _ _ _ _ => le_eq (m64_5 hj64_l1 _ _ _ _) (e64_5 H0 _ _ _ _)
def rj64_4 (j64_l1 : A3) : A4 := b64_4 (rj64_5 j64_l1)
theorem sj64_4 (H0 : Hp) {yj64_l1 : A3} (hj64_l1 : L3 yj64_l1 (j64_l1 H0)) : L4 (rj64_4 yj64_l1) (j64_4 H0) := fun _ _ _ _ _ => le_eq (m64_4 (sj64_5 H0 hj64_l1) _ _ _ _ _) (e64_4 H0 _ _ _ _ _)
def rj64_l1 (n : Nat) : A3 := @Nat.rec (fun _ => A3) (fun _ _ _ _ => none) (fun _ j64_l1 => b64_l1 (rj64_3) (rj64_4 j64_l1)) n
theorem sj64_l1 (H0 : Hp) (n : Nat) : L3 (rj64_l1 n) (j64_l1 H0) := by
  induction n with
  | zero => exact fun _ _ _ _ => le_none _
  | succ n hj64_l1 => exact fun _ _ _ _ => le_eq (m64_l1 (sj64_3 H0) (sj64_4 H0 hj64_l1) _ _ _ _) (e64_l1 H0 _ _ _ _)
def rj64_2 : A1 := b64_2 (rj64_l1 100000)
theorem sj64_2 (H0 : Hp) : L1 (rj64_2) (j64_2 H0) := fun _ _ => le_eq (m64_2 (sj64_l1 H0 100000) _ _) (e64_2 H0 _ _)
def rj64_1 : A1 := b64_1 (rj64_2)
theorem sj64_1 (H0 : Hp) : L1 (rj64_1) (j64_1 H0) := fun _ _ => le_eq (m64_1 (sj64_2 H0) _ _) (e64_1 H0 _ _)
def bc64 (j64_1 : A1) (p0 : AV) (H : Hp) : Res :=
  bnd (abox p0 H) fun r1 =>
  bnd (afield 0 r1.1) fun t5 =>
  bnd (aload false 1 t5 r1.2) fun t6 =>
  bnd (alenD (.slice 149) t6) fun t7 =>
  bnd (ibin .gtr t7 (.int .i64 8)) fun t8 =>
  cnd t8
    (some ((.int .i64 3), r1.2))
    (j64_1 r1.1 r1.2)
theorem ec64 (p0 : AV) (H : Hp) : c64 p0 H = bc64 (j64_1 H) p0 H := (callw_cxm (C := cfg) (fn := Tryz.f64) (c := bodyOf Tryz.f64) (n := 78) [3, 5, 7, 10, 11] Tryz.func64 (by kernel_rfl) (by kernel_rfl) [p0] (by kernel_rfl) H).trans (by kernel_rfl)
theorem mc64 {j64_1 dj64_1 : A1} (hj64_1 : L1 j64_1 dj64_1) : L1 (bc64 j64_1) (bc64 dj64_1) := fun _ _ =>
  bR fun _ => bR fun _ => bR fun _ => bR fun _ => bR fun _ => bK (le_refl _) (hj64_1 _ _)
def rc64 : A1 := fun p0 H => bc64 (rj64_1) p0 H
theorem sc64 : L1 rc64 c64 := fun _ H => le_eq (mc64 (sj64_1 H) _ _) (ec64 _ _)
def q64 : A1 := fun p0 H => flatC (callw cfg 64) [p0] H
def rq64 : A1 := fun p0 H => flatC (ofL1 (rc64)) [p0] H
theorem sq64 : L1 rq64 q64 := fun _ _ => flat_le (ofL1_le (sc64)) _ _

def c70 (p0 p1 : AV) (H : Hp) : Res := callw cfg 70 [p0, p1] H
def j70_1 (H0 : Hp) (x5 : AV) (H : Hp) : Res := CXf 70 35 (sub (bodyOf Tryz.f70) [1, 1, 1]) (retL cfg 35 70 Tryz.f70 H0) [(5, x5)] H
def k70_1 (H0 : Hp) : KL := seqL (fun k al H => CXf 70 35 (sub (bodyOf Tryz.f70) [1, 1, 1]) k (trimL (cfg.keep 70) (sub (bodyOf Tryz.f70) [1, 1, 1]) al) H) (retL cfg 35 70 Tryz.f70 H0)
theorem k70_1_tame (H0 : Hp) : Tame 35 (k70_1 H0) := tame_seq (C := cfg) (kp := cfg.keep 70) (sub (bodyOf Tryz.f70) [1, 1, 1]) (tame_ret 70 Tryz.f70 H0)
def j70_3 (H0 : Hp) (x1 x5 x8 x9 x10 : AV) (H : Hp) : Res := CXf 70 35 (sub (bodyOf Tryz.f70) [1, 1, 0, 1, 0, 0, 1, 1, 1]) (seqL (fun k al H => LPf 70 35 (sub (bodyOf Tryz.f70) [1, 1, 0, 1, 0, 0]) k (trimL (cfg.keep 70) (sub (bodyOf Tryz.f70) [1, 1, 0, 1, 0, 0]) al) H) (blockL 0 (k70_1 H0))) [(1, x1), (5, x5), (8, x8), (9, x9), (10, x10)] H
def j70_2 (H0 : Hp) (x1 x5 x8 x9 x10 x11 : AV) (H : Hp) : Res := CXf 70 35 (sub (bodyOf Tryz.f70) [1, 1, 0, 1, 0, 0, 1, 1]) (seqL (fun k al H => LPf 70 35 (sub (bodyOf Tryz.f70) [1, 1, 0, 1, 0, 0]) k (trimL (cfg.keep 70) (sub (bodyOf Tryz.f70) [1, 1, 0, 1, 0, 0]) al) H) (blockL 0 (k70_1 H0))) [(1, x1), (5, x5), (8, x8), (9, x9), (10, x10), (11, x11)] H
def j70_l1 (H0 : Hp) (x1 x5 x8 x9 x10 : AV) (H : Hp) : Res := LPf 70 35 (sub (bodyOf Tryz.f70) [1, 1, 0, 1, 0, 0]) (blockL 0 (k70_1 H0)) [(1, x1), (5, x5), (8, x8), (9, x9), (10, x10)] H
def b70_1 (x5 : AV) (H : Hp) : Res :=
  some (x5, H)
theorem e70_1 (H0 : Hp) (x5 : AV) (H : Hp) : j70_1 H0 x5 H = b70_1 x5 H := (CXM_eq [4, 7, 8] _ _ _ _).trans (by kernel_rfl)
theorem m70_1 : L1 (b70_1) (b70_1) := fun _ _ =>
  le_refl _
def b70_3 (j70_l1 : A5) (x1 x5 x8 x9 x10 : AV) (H : Hp) : Res :=
  bnd (ibin .add x10 (.int .i64 1)) fun t33 =>
  j70_l1 x1 x5 x8 x9 t33 H
theorem e70_3 (H0 : Hp) (x1 x5 x8 x9 x10 : AV) (H : Hp) : j70_3 H0 x1 x5 x8 x9 x10 H = b70_3 (j70_l1 H0) x1 x5 x8 x9 x10 H := (CXM_eq [4, 7, 8] _ _ _ _).trans (by kernel_rfl)
theorem m70_3 {j70_l1 dj70_l1 : A5} (hj70_l1 : L5 j70_l1 dj70_l1) : L5 (b70_3 j70_l1) (b70_3 dj70_l1) := fun _ _ _ _ _ _ =>
  bR fun _ => hj70_l1 _ _ _ _ _ _
def b70_2 (j70_3 : A5) (cV : AV → List AV → Hp → Res) (x1 x5 x8 x9 x10 x11 : AV) (H : Hp) : Res :=
  bnd (aindexS 1 x8 x10) fun t12 =>
  bnd (aload false 1 t12 H) fun t13 =>
  bnd (alenD (.slice 9) x5) fun t15 =>
  bnd (ibin .eql t15 (.int .i64 0)) fun t16 =>
  bnd (gdv t16 false (.tuple []) (some x1)) fun t18 =>
  bnd (gdv t16 false (.tuple []) (some x5)) fun t19 =>
  bnd (gdv t16 false (.tuple []) (some x5)) fun t20 =>
  bnd (gdv t16 false (.tuple []) (alenD (.slice 9) t20)) fun t21 =>
  bnd (gdv t16 false (.tuple []) (ibin .sub t21 (.int .i64 1))) fun t22 =>
  bnd (gdv t16 false (.tuple []) (aindexS 1 t19 t22)) fun t23 =>
  bnd (gdv t16 false (.tuple []) (aload false 1 t23 H)) fun t24 =>
  bnd (gdv t16 false (.tuple []) (some t13)) fun t25 =>
  bnd (gdv t16 false ((.tuple []), H) (cV t18 [t24, t25] H)) fun r26 =>
  bnd (gdv t16 false (.tuple []) (aun .not r26.1)) fun t27 =>
  bnd (apick t16 (.bool true) t27) fun t28 =>
  cnd t28
    (bnd ((setElems 1 [(0, t13)] [(.str [])]).map (.vs 1 .clip)) fun t31 =>
    bnd (aappE 1 16 x5 t31 r26.2) fun r32 =>
    j70_3 x1 r32.1 x8 x9 x10 r32.2)
    (j70_3 x1 x5 x8 x9 x10 r26.2)
theorem e70_2 (H0 : Hp) (x1 x5 x8 x9 x10 x11 : AV) (H : Hp) : j70_2 H0 x1 x5 x8 x9 x10 x11 H = b70_2 (j70_3 H0) (acall cfg (callw cfg)) x1 x5 x8 x9 x10 x11 H := (CXM_eq [4, 7, 8] _ _ _ _).trans (by kernel_rfl)
theorem m70_2 {j70_3 dj70_3 : A5} (hj70_3 : L5 j70_3 dj70_3) {cV dcV : AV → List AV → Hp → Res} (hcV : LV cV dcV) : L6 (b70_2 j70_3 cV) (b70_2 dj70_3 dcV) := fun _ _ _ _ _ _ _ =>
  bR fun _ => bR fun _ => bR fun _ => bR fun _ => bR fun _ => bR fun _ => bR fun _ => bR fun _ => bR fun _ => bR fun _ => bR fun _ => bR fun _ => bG (hcV _ _ _) fun _ => bR fun _ => bR fun _ => bK (bR fun _ => bR fun _ => hj70_3 _ _ _ _ _ _) (hj70_3 _ _ _ _ _ _)
def b70_l1 (j70_1 : A1) (j70_2 : A6) (x1 x5 x8 x9 x10 : AV) (H : Hp) : Res :=
  bnd (ibin .lss x10 x9) fun t11 =>
  cnd t11
    (j70_2 x1 x5 x8 x9 x10 t11 H)
    (j70_1 x5 H)
theorem e70_l1 (H0 : Hp) (x1 x5 x8 x9 x10 : AV) (H : Hp) : j70_l1 H0 x1 x5 x8 x9 x10 H = b70_l1 (j70_1 H0) (j70_2 H0) x1 x5 x8 x9 x10 H := (LPL_eqm (C := cfg) [4, 7, 8] (tame_block 0 (k70_1_tame H0)) _ _).trans (by kernel_rfl)
theorem m70_l1 {j70_1 dj70_1 : A1} (hj70_1 : L1 j70_1 dj70_1) {j70_2 dj70_2 : A6} (hj70_2 : L6 j70_2 dj70_2) : L5 (b70_l1 j70_1 j70_2) (b70_l1 dj70_1 dj70_2) := fun _ _ _ _ _ _ =>
  bR fun _ => bK (hj70_2 _ _ _ _ _ _ _) (hj70_1 _ _)
def rj70_1 (gV : AV → List AV → Hp → Res) : A1 := b70_1
theorem sj70_1 (H0 : Hp) {gV : AV → List AV → Hp → Res} (hV : LV gV (acall cfg (callw cfg))) : L1 (rj70_1 gV) (j70_1 H0) := fun _ _ => le_eq (m70_1 _ _) (e70_1 H0 _ _)
def rj70_3 (gV : AV → List AV → Hp → Res) (j70_l1 : A5) : A5 := b70_3 j70_l1
theorem sj70_3 (H0 : Hp) {gV : AV → List AV → Hp → Res} (hV : LV gV (acall cfg (callw cfg))) {yj70_l1 : A5} (hj70_l1 : L5 yj70_l1 (j70_l1 H0)) : L5 (rj70_3 gV yj70_l1) (j70_3 H0) := fun _ _ _ _ _ _ => le_eq (m70_3 hj70_l1 _ _ _ _ _ _) (e70_3 H0 _ _ _ _ _ _)
def rj70_2 (gV : AV → List AV → Hp → Res) (j70_l1 : A5) : A6 := b70_2 (rj70_3 gV j70_l1) gV
theorem sj70_2 (H0 : Hp) {gV : AV → List AV → Hp → Res} (hV : LV gV (acall cfg (callw cfg))) {yj70_l1 : A5} (hj70_l1 : L5 yj70_l1 (j70_l1 H0)) : L6 (rj70_2 gV yj70_l1) (j70_2 H0) := fun _ _ _ _ _ _ _ => le_eq (m70_2 (sj70_3 H0 hV hj70_l1) hV _ _ _ _ _ _ _) (e70_2 H0 _ _ _ _ _ _ _)
def rj70_l1 (gV : AV → List AV → Hp → Res) (n : Nat) : A5 := @Nat.rec (fun _ => A5) (fun _ _ _ _ _ _ => none) (fun _ j70_l1 => b70_l1 (rj70_1 gV) (rj70_2 gV j70_l1)) n
theorem sj70_l1 (H0 : Hp) {gV : AV → List AV → Hp → Res} (hV : LV gV (acall cfg (callw cfg))) (n : Nat) : L5 (rj70_l1 gV n) (j70_l1 H0) := by
  induction n with
  | zero => exact fun _ _ _ _ _ _ => le_none _
  | succ n hj70_l1 => exact fun _ _ _ _ _ _ => le_eq (m70_l1 (sj70_1 H0 hV) (sj70_2 H0 hV hj70_l1) _ _ _ _ _ _) (e70_l1 H0 _ _ _ _ _ _)
def bc70 (j70_l1 : A5) (p0 p1 : AV) (H : Hp) : Res :=
  bnd (alenD (.slice 9) p0) fun t9 =>
  j70_l1 p1 .nils p0 t9 (.int .i64 0) H
theorem ec70 (p0 p1 : AV) (H : Hp) : c70 p0 p1 H = bc70 (j70_l1 H) p0 p1 H := (callw_cxm (C := cfg) (fn := Tryz.f70) (c := bodyOf Tryz.f70) (n := 35) [4, 7, 8] Tryz.func70 (by kernel_rfl) (by kernel_rfl) [p0, p1] (by kernel_rfl) H).trans (by kernel_rfl)
theorem mc70 {j70_l1 dj70_l1 : A5} (hj70_l1 : L5 j70_l1 dj70_l1) : L2 (bc70 j70_l1) (bc70 dj70_l1) := fun _ _ _ =>
  bR fun _ => hj70_l1 _ _ _ _ _ _
def rc70 (gV : AV → List AV → Hp → Res) : A2 := fun p0 p1 H => bc70 (rj70_l1 gV 100000) p0 p1 H
theorem sc70 {gV : AV → List AV → Hp → Res} (hV : LV gV (acall cfg (callw cfg))) : L2 (rc70 gV) c70 := fun _ _ H => le_eq (mc70 (sj70_l1 H hV 100000) _ _ _) (ec70 _ _ _)
def q70 : A2 := fun p0 p1 H => flatC (callw cfg 70) [p0, p1] H
def rq70 (gV : AV → List AV → Hp → Res) : A2 := fun p0 p1 H => flatC (ofL2 (rc70 gV)) [p0, p1] H
theorem sq70 {gV : AV → List AV → Hp → Res} (hV : LV gV (acall cfg (callw cfg))) : L2 (rq70 gV) q70 := fun _ _ _ => flat_le (ofL2_le (sc70 hV)) _ _

def c76 (p0 : AV) (H : Hp) : Res := callw cfg 76 [p0] H
def j76_1 (H0 : Hp) (x0 : AV) (H : Hp) : Res := CXf 76 8 (sub (bodyOf Tryz.f76) [1, 1]) (retL cfg 8 76 Tryz.f76 H0) [(0, x0)] H
def b76_1 (x0 : AV) (H : Hp) : Res :=
  bnd ((setElems 1 [] []).map (.vs 1 .clip)) fun t5 =>
  bnd (aappE 1 16 t5 x0 H) fun r7 =>
  some (r7.1, r7.2)
theorem e76_1 (H0 : Hp) (x0 : AV) (H : Hp) : j76_1 H0 x0 H = b76_1 x0 H := (CXM_eq [3] _ _ _ _).trans (by kernel_rfl)
theorem m76_1 : L1 (b76_1) (b76_1) := fun _ _ =>
  bR fun _ => bR fun _ => le_refl _
def rj76_1 : A1 := b76_1
theorem sj76_1 (H0 : Hp) : L1 (rj76_1) (j76_1 H0) := fun _ _ => le_eq (m76_1 _ _) (e76_1 H0 _ _)
def bc76 (j76_1 : A1) (p0 : AV) (H : Hp) : Res :=
  bnd (ebin (.slice 9) .eql p0 .nils) fun t4 =>
  cnd t4
    (some (.nils, H))
    (j76_1 p0 H)
theorem ec76 (p0 : AV) (H : Hp) : c76 p0 H = bc76 (j76_1 H) p0 H := (callw_cxm (C := cfg) (fn := Tryz.f76) (c := bodyOf Tryz.f76) (n := 8) [3] Tryz.func76 (by kernel_rfl) (by kernel_rfl) [p0] (by kernel_rfl) H).trans (by kernel_rfl)
theorem mc76 {j76_1 dj76_1 : A1} (hj76_1 : L1 j76_1 dj76_1) : L1 (bc76 j76_1) (bc76 dj76_1) := fun _ _ =>
  bR fun _ => bK (le_refl _) (hj76_1 _ _)
def rc76 : A1 := fun p0 H => bc76 (rj76_1) p0 H
theorem sc76 : L1 rc76 c76 := fun _ H => le_eq (mc76 (sj76_1 H) _ _) (ec76 _ _)
def q76 : A1 := fun p0 H => flatC (callw cfg 76) [p0] H
def rq76 : A1 := fun p0 H => flatC (ofL1 (rc76)) [p0] H
theorem sq76 : L1 rq76 q76 := fun _ _ => flat_le (ofL1_le (sc76)) _ _

def c34 (p0 p1 p2 : AV) (H : Hp) : Res := callw cfg 34 [p0, p1, p2] H
def j34_2 (H0 : Hp) (x7 : AV) (H : Hp) : Res := CXf 34 22 (sub (bodyOf Tryz.f34) [1, 1, 1, 1]) (retL cfg 22 34 Tryz.f34 H0) [(7, x7)] H
def j34_1 (H0 : Hp) (x2 x3 x4 : AV) (H : Hp) : Res := CXf 34 22 (sub (bodyOf Tryz.f34) [1, 1]) (retL cfg 22 34 Tryz.f34 H0) [(2, x2), (3, x3), (4, x4)] H
def b34_2 (x7 : AV) (H : Hp) : Res :=
  some (x7, H)
theorem e34_2 (H0 : Hp) (x7 : AV) (H : Hp) : j34_2 H0 x7 H = b34_2 x7 H := (CXM_eq [3, 6] _ _ _ _).trans (by kernel_rfl)
theorem m34_2 : L1 (b34_2) (b34_2) := fun _ _ =>
  le_refl _
def b34_1 (q70 : A2) (j34_2 : A1) (cV : AV → List AV → Hp → Res) (x2 x3 x4 : AV) (H : Hp) : Res :=
  frzK x3 H fun z3 z3H =>
  frzK x4 z3H fun z4 z4H =>
  bnd (some (.fn (.func 84) [] [z3, z4])) fun t14 =>
  bnd (cV (.fn (.func 83) [] []) [x2, t14] z4H) fun r15 =>
  bnd (afield 3 z4) fun t16 =>
  bnd (aload false 1 t16 r15.2) fun t17 =>
  cnd t17
    (bnd (some (.fn (.func 85) [] [z3, z4])) fun t19 =>
    bnd (q70 r15.1 t19 r15.2) fun r20 =>
    j34_2 r20.1 r20.2)
    (j34_2 r15.1 r15.2)
theorem e34_1 (H0 : Hp) (x2 x3 x4 : AV) (H : Hp) : j34_1 H0 x2 x3 x4 H = b34_1 q70 (j34_2 H0) (acall cfg (callw cfg)) x2 x3 x4 H := (CXM_eq [3, 6] _ _ _ _).trans (by kernel_rfl)
theorem m34_1 {q70 dq70 : A2} (hq70 : L2 q70 dq70) {j34_2 dj34_2 : A1} (hj34_2 : L1 j34_2 dj34_2) {cV dcV : AV → List AV → Hp → Res} (hcV : LV cV dcV) : L3 (b34_1 q70 j34_2 cV) (b34_1 dq70 dj34_2 dcV) := fun _ _ _ _ =>
  bF fun _ _ => bF fun _ _ => bR fun _ => bC (hcV _ _ _) fun _ => bR fun _ => bR fun _ => bK (bR fun _ => bC (hq70 _ _ _) fun _ => hj34_2 _ _) (hj34_2 _ _)
def rj34_2 (gV : AV → List AV → Hp → Res) : A1 := b34_2
theorem sj34_2 (H0 : Hp) {gV : AV → List AV → Hp → Res} (hV : LV gV (acall cfg (callw cfg))) : L1 (rj34_2 gV) (j34_2 H0) := fun _ _ => le_eq (m34_2 _ _) (e34_2 H0 _ _)
def rj34_1 (gV : AV → List AV → Hp → Res) : A3 := b34_1 (rq70 gV) (rj34_2 gV) gV
theorem sj34_1 (H0 : Hp) {gV : AV → List AV → Hp → Res} (hV : LV gV (acall cfg (callw cfg))) : L3 (rj34_1 gV) (j34_1 H0) := fun _ _ _ _ => le_eq (m34_1 (sq70 hV) (sj34_2 H0 hV) hV _ _ _ _) (e34_1 H0 _ _ _ _)
def bc34 (q64 : A1) (q76 : A1) (j34_1 : A3) (p0 p1 p2 : AV) (H : Hp) : Res :=
  bnd (abox p0 H) fun r3 =>
  bnd (abox p1 r3.2) fun r4 =>
  bnd (aload true 5 r4.1 r4.2) fun t8 =>
  bnd (q64 t8 r4.2) fun r9 =>
  bnd (ibin .neq r9.1 (.int .i64 0)) fun t10 =>
  cnd t10
    (bnd (q76 p2 r9.2) fun r12 =>
    some (r12.1, r12.2))
    (j34_1 p2 r3.1 r4.1 r9.2)
theorem ec34 (p0 p1 p2 : AV) (H : Hp) : c34 p0 p1 p2 H = bc34 q64 q76 (j34_1 H) p0 p1 p2 H := (callw_cxm (C := cfg) (fn := Tryz.f34) (c := bodyOf Tryz.f34) (n := 22) [3, 6] Tryz.func34 (by kernel_rfl) (by kernel_rfl) [p0, p1, p2] (by kernel_rfl) H).trans (by kernel_rfl)
theorem mc34 {q64 dq64 : A1} (hq64 : L1 q64 dq64) {q76 dq76 : A1} (hq76 : L1 q76 dq76) {j34_1 dj34_1 : A3} (hj34_1 : L3 j34_1 dj34_1) : L3 (bc34 q64 q76 j34_1) (bc34 dq64 dq76 dj34_1) := fun _ _ _ _ =>
  bR fun _ => bR fun _ => bR fun _ => bC (hq64 _ _) fun _ => bR fun _ => bK (bC (hq76 _ _) fun _ => le_refl _) (hj34_1 _ _ _ _)
def rc34 (gV : AV → List AV → Hp → Res) : A3 := fun p0 p1 p2 H => bc34 rq64 rq76 (rj34_1 gV) p0 p1 p2 H
theorem sc34 {gV : AV → List AV → Hp → Res} (hV : LV gV (acall cfg (callw cfg))) : L3 (rc34 gV) c34 := fun _ _ _ H => le_eq (mc34 sq64 sq76 (sj34_1 H hV) _ _ _ _) (ec34 _ _ _ _)
def q34 : A3 := fun p0 p1 p2 H => flatC (callw cfg 34) [p0, p1, p2] H
def rq34 (gV : AV → List AV → Hp → Res) : A3 := fun p0 p1 p2 H => flatC (ofL3 (rc34 gV)) [p0, p1, p2] H
theorem sq34 {gV : AV → List AV → Hp → Res} (hV : LV gV (acall cfg (callw cfg))) : L3 (rq34 gV) q34 := fun _ _ _ _ => flat_le (ofL3_le (sc34 hV)) _ _

def c105 (p0 : AV) (H : Hp) : Res := callw cfg 105 [p0] H
def j105_1 (H0 : Hp) (x1 x2 : AV) (H : Hp) : Res := CXf 105 8 (sub (bodyOf Tryz.f105) [1, 1]) (retL cfg 8 105 Tryz.f105 H0) [(1, x1), (2, x2)] H
def b105_1 (x1 x2 : AV) (H : Hp) : Res :=
  bnd (aload true 5 x1 H) fun t7 =>
  bnd (astoreU 5 x2 t7 H) fun r_4 =>
  bnd (aload true 5 x2 r_4.2) fun v2 =>
  some (v2, r_4.2)
theorem e105_1 (H0 : Hp) (x1 x2 : AV) (H : Hp) : j105_1 H0 x1 x2 H = b105_1 x1 x2 H := (CXM_eq [3] _ _ _ _).trans (by kernel_rfl)
theorem m105_1 : L2 (b105_1) (b105_1) := fun _ _ _ =>
  bR fun _ => bR fun _ => bR fun _ => le_refl _
def rj105_1 : A2 := b105_1
theorem sj105_1 (H0 : Hp) : L2 (rj105_1) (j105_1 H0) := fun _ _ _ => le_eq (m105_1 _ _ _) (e105_1 H0 _ _ _)
def bc105 (q64 : A1) (j105_1 : A2) (p0 : AV) (H : Hp) : Res :=
  bnd (abox p0 H) fun r1 =>
  bnd (some ((.ptr r1.2.length 0), r1.2 ++ [.cells [.nils, (.int .i64 0), (.int .i64 0), (.bool false), (.bool false)]])) fun r2 =>
  bnd (aload true 5 r1.1 r2.2) fun t3 =>
  bnd (q64 t3 r2.2) fun r4 =>
  bnd (ibin .neq r4.1 (.int .i64 0)) fun t5 =>
  cnd t5
    (bnd ((afill [(1, 1, (.int .i64 (-1)))] [.nils, (.int .i64 0), (.int .i64 0), (.bool false), (.bool false)]).map .agg) fun t6 =>
    bnd (astoreU 5 r2.1 t6 r4.2) fun r_10 =>
    bnd (aload true 5 r2.1 r_10.2) fun v2 =>
    some (v2, r_10.2))
    (j105_1 r1.1 r2.1 r4.2)
theorem ec105 (p0 : AV) (H : Hp) : c105 p0 H = bc105 q64 (j105_1 H) p0 H := (callw_cxm (C := cfg) (fn := Tryz.f105) (c := bodyOf Tryz.f105) (n := 8) [3] Tryz.func105 (by kernel_rfl) (by kernel_rfl) [p0] (by kernel_rfl) H).trans (by kernel_rfl)
theorem mc105 {q64 dq64 : A1} (hq64 : L1 q64 dq64) {j105_1 dj105_1 : A2} (hj105_1 : L2 j105_1 dj105_1) : L1 (bc105 q64 j105_1) (bc105 dq64 dj105_1) := fun _ _ =>
  bR fun _ => bR fun _ => bR fun _ => bC (hq64 _ _) fun _ => bR fun _ => bK (bR fun _ => bR fun _ => bR fun _ => le_refl _) (hj105_1 _ _ _)
def rc105 : A1 := fun p0 H => bc105 rq64 (rj105_1) p0 H
theorem sc105 : L1 rc105 c105 := fun _ H => le_eq (mc105 sq64 (sj105_1 H) _ _) (ec105 _ _)
def q105 : A1 := fun p0 H => flatC (callw cfg 105) [p0] H
def rq105 : A1 := fun p0 H => flatC (ofL1 (rc105)) [p0] H
theorem sq105 : L1 rq105 q105 := fun _ _ => flat_le (ofL1_le (sc105)) _ _

def c221 (p0 : AV) (H : Hp) : Res := callw cfg 221 [p0] H
def j221_1 (H0 : Hp) (x0 : AV) (H : Hp) : Res := CXf 221 54 (sub (bodyOf Tryz.f221) [1, 1]) (retL cfg 54 221 Tryz.f221 H0) [(0, x0)] H
def k221_1 (H0 : Hp) : KL := seqL (fun k al H => CXf 221 54 (sub (bodyOf Tryz.f221) [1, 1]) k (trimL (cfg.keep 221) (sub (bodyOf Tryz.f221) [1, 1]) al) H) (retL cfg 54 221 Tryz.f221 H0)
theorem k221_1_tame (H0 : Hp) : Tame 54 (k221_1 H0) := tame_seq (C := cfg) (kp := cfg.keep 221) (sub (bodyOf Tryz.f221) [1, 1]) (tame_ret 221 Tryz.f221 H0)
def j221_3 (H0 : Hp) (x0 x7 x8 : AV) (H : Hp) : Res := CXf 221 54 (sub (bodyOf Tryz.f221) [1, 0, 1, 0, 0, 1, 1, 1]) (seqL (fun k al H => LPf 221 54 (sub (bodyOf Tryz.f221) [1, 0, 1, 0, 0]) k (trimL (cfg.keep 221) (sub (bodyOf Tryz.f221) [1, 0, 1, 0, 0]) al) H) (blockL 0 (k221_1 H0))) [(0, x0), (7, x7), (8, x8)] H
def j221_2 (H0 : Hp) (x0 x7 x8 x9 : AV) (H : Hp) : Res := CXf 221 54 (sub (bodyOf Tryz.f221) [1, 0, 1, 0, 0, 1, 1]) (seqL (fun k al H => LPf 221 54 (sub (bodyOf Tryz.f221) [1, 0, 1, 0, 0]) k (trimL (cfg.keep 221) (sub (bodyOf Tryz.f221) [1, 0, 1, 0, 0]) al) H) (blockL 0 (k221_1 H0))) [(0, x0), (7, x7), (8, x8), (9, x9)] H
def j221_l1 (H0 : Hp) (x0 x7 x8 : AV) (H : Hp) : Res := LPf 221 54 (sub (bodyOf Tryz.f221) [1, 0, 1, 0, 0]) (blockL 0 (k221_1 H0)) [(0, x0), (7, x7), (8, x8)] H
def b221_1 (x0 : AV) (H : Hp) : Res :=
  bnd (sbin .neq x0 (.str [])) fun t48 =>
  bnd (gdv t48 true (.tuple []) (some x0)) fun t50 =>
  bnd (gdv t48 true (.tuple []) (alenD .string t50)) fun t51 =>
  bnd (gdv t48 true (.tuple []) (ibin .leq t51 (.int .i64 32))) fun t52 =>
  bnd (apick t48 t52 (.bool false)) fun t53 =>
  some (t53, H)
theorem e221_1 (H0 : Hp) (x0 : AV) (H : Hp) : j221_1 H0 x0 H = b221_1 x0 H := (CXM_eq [3, 8, 9] _ _ _ _).trans (by kernel_rfl)
theorem m221_1 : L1 (b221_1) (b221_1) := fun _ _ =>
  bR fun _ => bR fun _ => bR fun _ => bR fun _ => bR fun _ => le_refl _
def b221_3 (j221_l1 : A3) (x0 x7 x8 : AV) (H : Hp) : Res :=
  bnd (ibin .add x8 (.int .i64 1)) fun t46 =>
  j221_l1 x0 x7 t46 H
theorem e221_3 (H0 : Hp) (x0 x7 x8 : AV) (H : Hp) : j221_3 H0 x0 x7 x8 H = b221_3 (j221_l1 H0) x0 x7 x8 H := (CXM_eq [3, 8, 9] _ _ _ _).trans (by kernel_rfl)
theorem m221_3 {j221_l1 dj221_l1 : A3} (hj221_l1 : L3 j221_l1 dj221_l1) : L3 (b221_3 j221_l1) (b221_3 dj221_l1) := fun _ _ _ _ =>
  bR fun _ => hj221_l1 _ _ _ _
def b221_2 (j221_3 : A3) (x0 x7 x8 x9 : AV) (H : Hp) : Res :=
  bnd (aindexStr x0 x8) fun t13 =>
  bnd (ibin .eql t13 (.int .u8 95)) fun t15 =>
  bnd (gdv t15 false (.tuple []) (some t13)) fun t17 =>
  bnd (gdv t15 false (.tuple []) (ibin .geq t17 (.int .u8 97))) fun t18 =>
  bnd (gdv t15 false (.tuple []) (some t18)) fun t19 =>
  bnd (gdv t19 true (.tuple []) (some t13)) fun t20 =>
  bnd (gdv t19 true (.tuple []) (ibin .leq t20 (.int .u8 122))) fun t21 =>
  bnd (gdv t15 false (.tuple []) (apick t19 t21 (.bool false))) fun t22 =>
  bnd (apick t15 (.bool true) t22) fun t23 =>
  bnd (gdv t23 false (.tuple []) (some t13)) fun t25 =>
  bnd (gdv t23 false (.tuple []) (ibin .geq t25 (.int .u8 65))) fun t26 =>
  bnd (gdv t23 false (.tuple []) (some t26)) fun t27 =>
  bnd (gdv t27 true (.tuple []) (some t13)) fun t28 =>
  bnd (gdv t27 true (.tuple []) (ibin .leq t28 (.int .u8 90))) fun t29 =>
  bnd (gdv t23 false (.tuple []) (apick t27 t29 (.bool false))) fun t30 =>
  bnd (apick t23 (.bool true) t30) fun t31 =>
  bnd (aun .not t31) fun t33 =>
  bnd (gdv t33 true (.tuple []) (some x8)) fun t35 =>
  bnd (gdv t33 true (.tuple []) (ibin .eql t35 (.int .i64 0))) fun t36 =>
  bnd (gdv t33 true (.tuple []) (some t36)) fun t37 =>
  bnd (gdv t37 false (.tuple []) (some t13)) fun t38 =>
  bnd (gdv t37 false (.tuple []) (ibin .lss t38 (.int .u8 48))) fun t39 =>
  bnd (gdv t33 true (.tuple []) (apick t37 (.bool true) t39)) fun t40 =>
  bnd (gdv t33 true (.tuple []) (some t40)) fun t41 =>
  bnd (gdv t41 false (.tuple []) (some t13)) fun t42 =>
  bnd (gdv t41 false (.tuple []) (ibin .gtr t42 (.int .u8 57))) fun t43 =>
  bnd (gdv t33 true (.tuple []) (apick t41 (.bool true) t43)) fun t44 =>
  bnd (apick t33 t44 (.bool false)) fun t45 =>
  cnd t45
    (some ((.bool false), H))
    (j221_3 x0 x7 x8 H)
theorem e221_2 (H0 : Hp) (x0 x7 x8 x9 : AV) (H : Hp) : j221_2 H0 x0 x7 x8 x9 H = b221_2 (j221_3 H0) x0 x7 x8 x9 H := (CXM_eq [3, 8, 9] _ _ _ _).trans (by kernel_rfl)
theorem m221_2 {j221_3 dj221_3 : A3} (hj221_3 : L3 j221_3 dj221_3) : L4 (b221_2 j221_3) (b221_2 dj221_3) := fun _ _ _ _ _ =>
  bR fun _ => bR fun _ => bR fun _ => bR fun _ => bR fun _ => bR fun _ => bR fun _ => bR fun _ => bR fun _ => bR fun _ => bR fun _ => bR fun _ => bR fun _ => bR fun _ => bR fun _ => bR fun _ => bR fun _ => bR fun _ => bR fun _ => bR fun _ => bR fun _ => bR fun _ => bR fun _ => bR fun _ => bR fun _ => bR fun _ => bR fun _ => bR fun _ => bK (le_refl _) (hj221_3 _ _ _ _)
def b221_l1 (j221_1 : A1) (j221_2 : A4) (x0 x7 x8 : AV) (H : Hp) : Res :=
  bnd (ibin .lss x8 x7) fun t9 =>
  cnd t9
    (j221_2 x0 x7 x8 t9 H)
    (j221_1 x0 H)
theorem e221_l1 (H0 : Hp) (x0 x7 x8 : AV) (H : Hp) : j221_l1 H0 x0 x7 x8 H = b221_l1 (j221_1 H0) (j221_2 H0) x0 x7 x8 H := (LPL_eqm (C := cfg) [3, 8, 9] (tame_block 0 (k221_1_tame H0)) _ _).trans (by kernel_rfl)
theorem m221_l1 {j221_1 dj221_1 : A1} (hj221_1 : L1 j221_1 dj221_1) {j221_2 dj221_2 : A4} (hj221_2 : L4 j221_2 dj221_2) : L3 (b221_l1 j221_1 j221_2) (b221_l1 dj221_1 dj221_2) := fun _ _ _ _ =>
  bR fun _ => bK (hj221_2 _ _ _ _ _) (hj221_1 _ _)
def rj221_1 : A1 := b221_1
theorem sj221_1 (H0 : Hp) : L1 (rj221_1) (j221_1 H0) := fun _ _ => le_eq (m221_1 _ _) (e221_1 H0 _ _)
def rj221_3 (j221_l1 : A3) : A3 := b221_3 j221_l1
theorem sj221_3 (H0 : Hp) {yj221_l1 : A3} (hj221_l1 : L3 yj221_l1 (j221_l1 H0)) : L3 (rj221_3 yj221_l1) (j221_3 H0) := fun _ _ _ _ => le_eq (m221_3 hj221_l1 _ _ _ _) (e221_3 H0 _ _ _ _)
def rj221_2 (j221_l1 : A3) : A4 := b221_2 (rj221_3 j221_l1)
theorem sj221_2 (H0 : Hp) {yj221_l1 : A3} (hj221_l1 : L3 yj221_l1 (j221_l1 H0)) : L4 (rj221_2 yj221_l1) (j221_2 H0) := fun _ _ _ _ _ => le_eq (m221_2 (sj221_3 H0 hj221_l1) _ _ _ _ _) (e221_2 H0 _ _ _ _ _)
def rj221_l1 (n : Nat) : A3 := @Nat.rec (fun _ => A3) (fun _ _ _ _ => none) (fun _ j221_l1 => b221_l1 (rj221_1) (rj221_2 j221_l1)) n
theorem sj221_l1 (H0 : Hp) (n : Nat) : L3 (rj221_l1 n) (j221_l1 H0) := by
  induction n with
  | zero => exact fun _ _ _ _ => le_none _
  | succ n hj221_l1 => exact fun _ _ _ _ => le_eq (m221_l1 (sj221_1 H0) (sj221_2 H0 hj221_l1) _ _ _ _) (e221_l1 H0 _ _ _ _)
def bc221 (j221_l1 : A3) (p0 : AV) (H : Hp) : Res :=
  bnd (alenD .string p0) fun t7 =>
  j221_l1 p0 t7 (.int .i64 0) H
theorem ec221 (p0 : AV) (H : Hp) : c221 p0 H = bc221 (j221_l1 H) p0 H := (callw_cxm (C := cfg) (fn := Tryz.f221) (c := bodyOf Tryz.f221) (n := 54) [3, 8, 9] Tryz.func221 (by kernel_rfl) (by kernel_rfl) [p0] (by kernel_rfl) H).trans (by kernel_rfl)
theorem mc221 {j221_l1 dj221_l1 : A3} (hj221_l1 : L3 j221_l1 dj221_l1) : L1 (bc221 j221_l1) (bc221 dj221_l1) := fun _ _ =>
  bR fun _ => hj221_l1 _ _ _ _
def rc221 : A1 := fun p0 H => bc221 (rj221_l1 100000) p0 H
theorem sc221 : L1 rc221 c221 := fun _ H => le_eq (mc221 (sj221_l1 H 100000) _ _) (ec221 _ _)
def q221 : A1 := fun p0 H => flatC (callw cfg 221) [p0] H
def rq221 : A1 := fun p0 H => flatC (ofL1 (rc221)) [p0] H
theorem sq221 : L1 rq221 q221 := fun _ _ => flat_le (ofL1_le (sc221)) _ _

def c222 (p0 : AV) (H : Hp) : Res := callw cfg 222 [p0] H
def j222_2 (H0 : Hp) (H : Hp) : Res := CXf 222 28 (sub (bodyOf Tryz.f222) [1, 1, 1, 1]) (retL cfg 28 222 Tryz.f222 H0) [] H
def k222_1 (H0 : Hp) : KL := seqL (fun k al H => CXf 222 28 (sub (bodyOf Tryz.f222) [1, 1, 1, 1]) k (trimL (cfg.keep 222) (sub (bodyOf Tryz.f222) [1, 1, 1, 1]) al) H) (retL cfg 28 222 Tryz.f222 H0)
theorem k222_1_tame (H0 : Hp) : Tame 28 (k222_1 H0) := tame_seq (C := cfg) (kp := cfg.keep 222) (sub (bodyOf Tryz.f222) [1, 1, 1, 1]) (tame_ret 222 Tryz.f222 H0)
def j222_4 (H0 : Hp) (x3 x10 x11 x12 : AV) (H : Hp) : Res := CXf 222 28 (sub (bodyOf Tryz.f222) [1, 1, 1, 0, 1, 0, 0, 1, 1, 1]) (seqL (fun k al H => LPf 222 28 (sub (bodyOf Tryz.f222) [1, 1, 1, 0, 1, 0, 0]) k (trimL (cfg.keep 222) (sub (bodyOf Tryz.f222) [1, 1, 1, 0, 1, 0, 0]) al) H) (blockL 0 (k222_1 H0))) [(3, x3), (10, x10), (11, x11), (12, x12)] H
def k222_2 (H0 : Hp) : KL := seqL (fun k al H => CXf 222 28 (sub (bodyOf Tryz.f222) [1, 1, 1, 0, 1, 0, 0, 1, 1, 1]) k (trimL (cfg.keep 222) (sub (bodyOf Tryz.f222) [1, 1, 1, 0, 1, 0, 0, 1, 1, 1]) al) H) (seqL (fun k al H => LPf 222 28 (sub (bodyOf Tryz.f222) [1, 1, 1, 0, 1, 0, 0]) k (trimL (cfg.keep 222) (sub (bodyOf Tryz.f222) [1, 1, 1, 0, 1, 0, 0]) al) H) (blockL 0 (k222_1 H0)))
def j222_6 (H0 : Hp) (x3 x5 x10 x11 x12 : AV) (H : Hp) : Res := CXf 222 28 (sub (bodyOf Tryz.f222) [1, 1, 1, 0, 1, 0, 0, 1, 1, 0, 0, 1, 1, 1]) (blockL 1 (k222_2 H0)) [(3, x3), (5, x5), (10, x10), (11, x11), (12, x12)] H
def j222_5 (H0 : Hp) (x3 x5 x10 x11 x12 : AV) (H : Hp) : Res := CXf 222 28 (sub (bodyOf Tryz.f222) [1, 1, 1, 0, 1, 0, 0, 1, 1, 0, 0, 1, 1]) (blockL 1 (k222_2 H0)) [(3, x3), (5, x5), (10, x10), (11, x11), (12, x12)] H
def j222_3 (H0 : Hp) (x3 x10 x11 x12 x13 : AV) (H : Hp) : Res := CXf 222 28 (sub (bodyOf Tryz.f222) [1, 1, 1, 0, 1, 0, 0, 1, 1]) (seqL (fun k al H => LPf 222 28 (sub (bodyOf Tryz.f222) [1, 1, 1, 0, 1, 0, 0]) k (trimL (cfg.keep 222) (sub (bodyOf Tryz.f222) [1, 1, 1, 0, 1, 0, 0]) al) H) (blockL 0 (k222_1 H0))) [(3, x3), (10, x10), (11, x11), (12, x12), (13, x13)] H
def j222_l1 (H0 : Hp) (x3 x10 x11 x12 : AV) (H : Hp) : Res := LPf 222 28 (sub (bodyOf Tryz.f222) [1, 1, 1, 0, 1, 0, 0]) (blockL 0 (k222_1 H0)) [(3, x3), (10, x10), (11, x11), (12, x12)] H
def j222_1 (H0 : Hp) (x0 : AV) (H : Hp) : Res := CXf 222 28 (sub (bodyOf Tryz.f222) [1, 1]) (retL cfg 28 222 Tryz.f222 H0) [(0, x0)] H
def b222_2 (H : Hp) : Res :=
  some ((.int .i64 0), H)
theorem e222_2 (H0 : Hp) (H : Hp) : j222_2 H0 H = b222_2 H := (CXM_eq [3, 6, 9, 11, 12, 13] _ _ _ _).trans (by kernel_rfl)
theorem m222_2 : L0 (b222_2) (b222_2) := fun _ =>
  le_refl _
def b222_4 (j222_l1 : A4) (x3 x10 x11 x12 : AV) (H : Hp) : Res :=
  bnd (ibin .add x12 (.int .i64 1)) fun t27 =>
  j222_l1 x3 x10 x11 t27 H
theorem e222_4 (H0 : Hp) (x3 x10 x11 x12 : AV) (H : Hp) : j222_4 H0 x3 x10 x11 x12 H = b222_4 (j222_l1 H0) x3 x10 x11 x12 H := (CXM_eq [3, 6, 9, 11, 12, 13] _ _ _ _).trans (by kernel_rfl)
theorem m222_4 {j222_l1 dj222_l1 : A4} (hj222_l1 : L4 j222_l1 dj222_l1) : L4 (b222_4 j222_l1) (b222_4 dj222_l1) := fun _ _ _ _ _ =>
  bR fun _ => hj222_l1 _ _ _ _ _
def b222_6 (j222_4 : A4) (x3 x5 x10 x11 x12 : AV) (H : Hp) : Res :=
  bnd (afield 0 x5) fun t25 =>
  bnd (aload false 1 t25 H) fun t26 =>
  bnd (amapSet .string x3 t26 (.bool true) H) fun r_11 =>
  j222_4 x3 x10 x11 x12 r_11.2
theorem e222_6 (H0 : Hp) (x3 x5 x10 x11 x12 : AV) (H : Hp) : j222_6 H0 x3 x5 x10 x11 x12 H = b222_6 (j222_4 H0) x3 x5 x10 x11 x12 H := (CXM_eq [3, 6, 9, 11, 12, 13] _ _ _ _).trans (by kernel_rfl)
theorem m222_6 {j222_4 dj222_4 : A4} (hj222_4 : L4 j222_4 dj222_4) : L5 (b222_6 j222_4) (b222_6 dj222_4) := fun _ _ _ _ _ _ =>
  bR fun _ => bR fun _ => bR fun _ => hj222_4 _ _ _ _ _
def b222_5 (j222_6 : A5) (x3 x5 x10 x11 x12 : AV) (H : Hp) : Res :=
  bnd (afield 0 x5) fun t21 =>
  bnd (aload false 1 t21 H) fun t22 =>
  bnd (alookup .string (.bool false) false x3 t22 H) fun t23 =>
  cnd t23
    (some ((.int .i64 6), H))
    (j222_6 x3 x5 x10 x11 x12 H)
theorem e222_5 (H0 : Hp) (x3 x5 x10 x11 x12 : AV) (H : Hp) : j222_5 H0 x3 x5 x10 x11 x12 H = b222_5 (j222_6 H0) x3 x5 x10 x11 x12 H := (CXM_eq [3, 6, 9, 11, 12, 13] _ _ _ _).trans (by kernel_rfl)
theorem m222_5 {j222_6 dj222_6 : A5} (hj222_6 : L5 j222_6 dj222_6) : L5 (b222_5 j222_6) (b222_5 dj222_6) := fun _ _ _ _ _ _ =>
  bR fun _ => bR fun _ => bR fun _ => bK (le_refl _) (hj222_6 _ _ _ _ _ _)
def b222_3 (q221 : A1) (j222_5 : A5) (x3 x10 x11 x12 x13 : AV) (H : Hp) : Res :=
  bnd (aindexS 5 x10 x12) fun t14 =>
  bnd (aload true 5 t14 H) fun t15 =>
  bnd (some ((.ptr H.length 0), H ++ [.cells [(.str []), (.int .u64 0), (.int .u64 0), (.int .u64 0), (.int .u64 0)]])) fun r5 =>
  bnd (astoreU 5 r5.1 t15 r5.2) fun r_8 =>
  bnd (afield 0 r5.1) fun t16 =>
  bnd (aload false 1 t16 r_8.2) fun t17 =>
  bnd (q221 t17 r_8.2) fun r18 =>
  bnd (aun .not r18.1) fun t19 =>
  cnd t19
    (some ((.int .i64 4), r18.2))
    (j222_5 x3 r5.1 x10 x11 x12 r18.2)
theorem e222_3 (H0 : Hp) (x3 x10 x11 x12 x13 : AV) (H : Hp) : j222_3 H0 x3 x10 x11 x12 x13 H = b222_3 q221 (j222_5 H0) x3 x10 x11 x12 x13 H := (CXM_eq [3, 6, 9, 11, 12, 13] _ _ _ _).trans (by kernel_rfl)
theorem m222_3 {q221 dq221 : A1} (hq221 : L1 q221 dq221) {j222_5 dj222_5 : A5} (hj222_5 : L5 j222_5 dj222_5) : L5 (b222_3 q221 j222_5) (b222_3 dq221 dj222_5) := fun _ _ _ _ _ _ =>
  bR fun _ => bR fun _ => bR fun _ => bR fun _ => bR fun _ => bR fun _ => bC (hq221 _ _) fun _ => bR fun _ => bK (le_refl _) (hj222_5 _ _ _ _ _ _)
def b222_l1 (j222_2 : A0) (j222_3 : A5) (x3 x10 x11 x12 : AV) (H : Hp) : Res :=
  bnd (ibin .lss x12 x11) fun t13 =>
  cnd t13
    (j222_3 x3 x10 x11 x12 t13 H)
    (j222_2 H)
theorem e222_l1 (H0 : Hp) (x3 x10 x11 x12 : AV) (H : Hp) : j222_l1 H0 x3 x10 x11 x12 H = b222_l1 (j222_2 H0) (j222_3 H0) x3 x10 x11 x12 H := (LPL_eqm (C := cfg) [3, 6, 9, 11, 12, 13] (tame_block 0 (k222_1_tame H0)) _ _).trans (by kernel_rfl)
theorem m222_l1 {j222_2 dj222_2 : A0} (hj222_2 : L0 j222_2 dj222_2) {j222_3 dj222_3 : A5} (hj222_3 : L5 j222_3 dj222_3) : L4 (b222_l1 j222_2 j222_3) (b222_l1 dj222_2 dj222_3) := fun _ _ _ _ _ =>
  bR fun _ => bK (hj222_3 _ _ _ _ _ _) (hj222_2 _)
def b222_1 (j222_l1 : A4) (x0 : AV) (H : Hp) : Res :=
  bnd (some ((.map H.length), H ++ [.map [] 0])) fun r9 =>
  bnd (alenD (.slice 264) x0) fun t11 =>
  j222_l1 r9.1 x0 t11 (.int .i64 0) r9.2
theorem e222_1 (H0 : Hp) (x0 : AV) (H : Hp) : j222_1 H0 x0 H = b222_1 (j222_l1 H0) x0 H := (CXM_eq [3, 6, 9, 11, 12, 13] _ _ _ _).trans (by kernel_rfl)
theorem m222_1 {j222_l1 dj222_l1 : A4} (hj222_l1 : L4 j222_l1 dj222_l1) : L1 (b222_1 j222_l1) (b222_1 dj222_l1) := fun _ _ =>
  bR fun _ => bR fun _ => hj222_l1 _ _ _ _ _
def rj222_2 : A0 := b222_2
theorem sj222_2 (H0 : Hp) : L0 (rj222_2) (j222_2 H0) := fun _ => le_eq (m222_2 _) (e222_2 H0 _)
def rj222_4 (j222_l1 : A4) : A4 := b222_4 j222_l1
theorem sj222_4 (H0 : Hp) {yj222_l1 : A4} (hj222_l1 : L4 yj222_l1 (j222_l1 H0)) : L4 (rj222_4 yj222_l1) (j222_4 H0) := fun _ _ _ _ _ => le_eq (m222_4 hj222_l1 _ _ _ _ _) (e222_4 H0 _ _ _ _ _)
def rj222_6 (j222_l1 : A4) : A5 := b222_6 (rj222_4 j222_l1)
theorem sj222_6 (H0 : Hp) {yj222_l1 : A4} (hj222_l1 : L4 yj222_l1 (j222_l1 H0)) : L5 (rj222_6 yj222_l1) (j222_6 H0) := fun _ _ _ _ _ _ => le_eq (m222_6 (sj222_4 H0 hj222_l1) _ _ _ _ _ _) (e222_6 H0 _ _ _ _ _ _)
def rj222_5 (j222_l1 : A4) : A5 := b222_5 (rj222_6 j222_l1)
theorem sj222_5 (H0 : Hp) {yj222_l1 : A4} (hj222_l1 : L4 yj222_l1 (j222_l1 H0)) : L5 (rj222_5 yj222_l1) (j222_5 H0) := fun _ _ _ _ _ _ => le_eq (m222_5 (sj222_6 H0 hj222_l1) _ _ _ _ _ _) (e222_5 H0 _ _ _ _ _ _)
def rj222_3 (j222_l1 : A4) : A5 := b222_3 rq221 (rj222_5 j222_l1)
theorem sj222_3 (H0 : Hp) {yj222_l1 : A4} (hj222_l1 : L4 yj222_l1 (j222_l1 H0)) : L5 (rj222_3 yj222_l1) (j222_3 H0) := fun _ _ _ _ _ _ => le_eq (m222_3 sq221 (sj222_5 H0 hj222_l1) _ _ _ _ _ _) (e222_3 H0 _ _ _ _ _ _)
def rj222_l1 (n : Nat) : A4 := @Nat.rec (fun _ => A4) (fun _ _ _ _ _ => none) (fun _ j222_l1 => b222_l1 (rj222_2) (rj222_3 j222_l1)) n
theorem sj222_l1 (H0 : Hp) (n : Nat) : L4 (rj222_l1 n) (j222_l1 H0) := by
  induction n with
  | zero => exact fun _ _ _ _ _ => le_none _
  | succ n hj222_l1 => exact fun _ _ _ _ _ => le_eq (m222_l1 (sj222_2 H0) (sj222_3 H0 hj222_l1) _ _ _ _ _) (e222_l1 H0 _ _ _ _ _)
def rj222_1 : A1 := b222_1 (rj222_l1 100000)
theorem sj222_1 (H0 : Hp) : L1 (rj222_1) (j222_1 H0) := fun _ _ => le_eq (m222_1 (sj222_l1 H0 100000) _ _) (e222_1 H0 _ _)
def bc222 (j222_1 : A1) (p0 : AV) (H : Hp) : Res :=
  bnd (alenD (.slice 264) p0) fun t7 =>
  bnd (ibin .gtr t7 (.int .i64 24)) fun t8 =>
  cnd t8
    (some ((.int .i64 3), H))
    (j222_1 p0 H)
theorem ec222 (p0 : AV) (H : Hp) : c222 p0 H = bc222 (j222_1 H) p0 H := (callw_cxm (C := cfg) (fn := Tryz.f222) (c := bodyOf Tryz.f222) (n := 28) [3, 6, 9, 11, 12, 13] Tryz.func222 (by kernel_rfl) (by kernel_rfl) [p0] (by kernel_rfl) H).trans (by kernel_rfl)
theorem mc222 {j222_1 dj222_1 : A1} (hj222_1 : L1 j222_1 dj222_1) : L1 (bc222 j222_1) (bc222 dj222_1) := fun _ _ =>
  bR fun _ => bR fun _ => bK (le_refl _) (hj222_1 _ _)
def rc222 : A1 := fun p0 H => bc222 (rj222_1) p0 H
theorem sc222 : L1 rc222 c222 := fun _ H => le_eq (mc222 (sj222_1 H) _ _) (ec222 _ _)
def q222 : A1 := fun p0 H => flatC (callw cfg 222) [p0] H
def rq222 : A1 := fun p0 H => flatC (ofL1 (rc222)) [p0] H
theorem sq222 : L1 rq222 q222 := fun _ _ => flat_le (ofL1_le (sc222)) _ _

def c223 (p0 : AV) (H : Hp) : Res := callw cfg 223 [p0] H
def j223_2 (H0 : Hp) (H : Hp) : Res := CXf 223 38 (sub (bodyOf Tryz.f223) [1, 1, 1, 1]) (retL cfg 38 223 Tryz.f223 H0) [] H
def k223_1 (H0 : Hp) : KL := seqL (fun k al H => CXf 223 38 (sub (bodyOf Tryz.f223) [1, 1, 1, 1]) k (trimL (cfg.keep 223) (sub (bodyOf Tryz.f223) [1, 1, 1, 1]) al) H) (retL cfg 38 223 Tryz.f223 H0)
theorem k223_1_tame (H0 : Hp) : Tame 38 (k223_1 H0) := tame_seq (C := cfg) (kp := cfg.keep 223) (sub (bodyOf Tryz.f223) [1, 1, 1, 1]) (tame_ret 223 Tryz.f223 H0)
def j223_4 (H0 : Hp) (x3 x10 x11 x12 : AV) (H : Hp) : Res := CXf 223 38 (sub (bodyOf Tryz.f223) [1, 1, 1, 0, 1, 0, 0, 1, 1, 1]) (seqL (fun k al H => LPf 223 38 (sub (bodyOf Tryz.f223) [1, 1, 1, 0, 1, 0, 0]) k (trimL (cfg.keep 223) (sub (bodyOf Tryz.f223) [1, 1, 1, 0, 1, 0, 0]) al) H) (blockL 0 (k223_1 H0))) [(3, x3), (10, x10), (11, x11), (12, x12)] H
def k223_2 (H0 : Hp) : KL := seqL (fun k al H => CXf 223 38 (sub (bodyOf Tryz.f223) [1, 1, 1, 0, 1, 0, 0, 1, 1, 1]) k (trimL (cfg.keep 223) (sub (bodyOf Tryz.f223) [1, 1, 1, 0, 1, 0, 0, 1, 1, 1]) al) H) (seqL (fun k al H => LPf 223 38 (sub (bodyOf Tryz.f223) [1, 1, 1, 0, 1, 0, 0]) k (trimL (cfg.keep 223) (sub (bodyOf Tryz.f223) [1, 1, 1, 0, 1, 0, 0]) al) H) (blockL 0 (k223_1 H0)))
def j223_6 (H0 : Hp) (x3 x5 x10 x11 x12 : AV) (H : Hp) : Res := CXf 223 38 (sub (bodyOf Tryz.f223) [1, 1, 1, 0, 1, 0, 0, 1, 1, 0, 0, 1, 1, 1]) (blockL 1 (k223_2 H0)) [(3, x3), (5, x5), (10, x10), (11, x11), (12, x12)] H
def j223_5 (H0 : Hp) (x3 x5 x10 x11 x12 : AV) (H : Hp) : Res := CXf 223 38 (sub (bodyOf Tryz.f223) [1, 1, 1, 0, 1, 0, 0, 1, 1, 0, 0, 1, 1]) (blockL 1 (k223_2 H0)) [(3, x3), (5, x5), (10, x10), (11, x11), (12, x12)] H
def j223_3 (H0 : Hp) (x3 x10 x11 x12 x13 : AV) (H : Hp) : Res := CXf 223 38 (sub (bodyOf Tryz.f223) [1, 1, 1, 0, 1, 0, 0, 1, 1]) (seqL (fun k al H => LPf 223 38 (sub (bodyOf Tryz.f223) [1, 1, 1, 0, 1, 0, 0]) k (trimL (cfg.keep 223) (sub (bodyOf Tryz.f223) [1, 1, 1, 0, 1, 0, 0]) al) H) (blockL 0 (k223_1 H0))) [(3, x3), (10, x10), (11, x11), (12, x12), (13, x13)] H
def j223_l1 (H0 : Hp) (x3 x10 x11 x12 : AV) (H : Hp) : Res := LPf 223 38 (sub (bodyOf Tryz.f223) [1, 1, 1, 0, 1, 0, 0]) (blockL 0 (k223_1 H0)) [(3, x3), (10, x10), (11, x11), (12, x12)] H
def j223_1 (H0 : Hp) (x0 : AV) (H : Hp) : Res := CXf 223 38 (sub (bodyOf Tryz.f223) [1, 1]) (retL cfg 38 223 Tryz.f223 H0) [(0, x0)] H
def b223_2 (H : Hp) : Res :=
  some ((.int .i64 0), H)
theorem e223_2 (H0 : Hp) (H : Hp) : j223_2 H0 H = b223_2 H := (CXM_eq [3, 6, 9, 11, 12, 13] _ _ _ _).trans (by kernel_rfl)
theorem m223_2 : L0 (b223_2) (b223_2) := fun _ =>
  le_refl _
def b223_4 (j223_l1 : A4) (x3 x10 x11 x12 : AV) (H : Hp) : Res :=
  bnd (ibin .add x12 (.int .i64 1)) fun t37 =>
  j223_l1 x3 x10 x11 t37 H
theorem e223_4 (H0 : Hp) (x3 x10 x11 x12 : AV) (H : Hp) : j223_4 H0 x3 x10 x11 x12 H = b223_4 (j223_l1 H0) x3 x10 x11 x12 H := (CXM_eq [3, 6, 9, 11, 12, 13] _ _ _ _).trans (by kernel_rfl)
theorem m223_4 {j223_l1 dj223_l1 : A4} (hj223_l1 : L4 j223_l1 dj223_l1) : L4 (b223_4 j223_l1) (b223_4 dj223_l1) := fun _ _ _ _ _ =>
  bR fun _ => hj223_l1 _ _ _ _ _
def b223_6 (j223_4 : A4) (x3 x5 x10 x11 x12 : AV) (H : Hp) : Res :=
  bnd (afield 0 x5) fun t35 =>
  bnd (aload false 1 t35 H) fun t36 =>
  bnd (amapSet .string x3 t36 (.bool true) H) fun r_11 =>
  j223_4 x3 x10 x11 x12 r_11.2
theorem e223_6 (H0 : Hp) (x3 x5 x10 x11 x12 : AV) (H : Hp) : j223_6 H0 x3 x5 x10 x11 x12 H = b223_6 (j223_4 H0) x3 x5 x10 x11 x12 H := (CXM_eq [3, 6, 9, 11, 12, 13] _ _ _ _).trans (by kernel_rfl)
theorem m223_6 {j223_4 dj223_4 : A4} (hj223_4 : L4 j223_4 dj223_4) : L5 (b223_6 j223_4) (b223_6 dj223_4) := fun _ _ _ _ _ _ =>
  bR fun _ => bR fun _ => bR fun _ => hj223_4 _ _ _ _ _
def b223_5 (j223_6 : A5) (x3 x5 x10 x11 x12 : AV) (H : Hp) : Res :=
  bnd (afield 0 x5) fun t31 =>
  bnd (aload false 1 t31 H) fun t32 =>
  bnd (alookup .string (.bool false) false x3 t32 H) fun t33 =>
  cnd t33
    (some ((.int .i64 6), H))
    (j223_6 x3 x5 x10 x11 x12 H)
theorem e223_5 (H0 : Hp) (x3 x5 x10 x11 x12 : AV) (H : Hp) : j223_5 H0 x3 x5 x10 x11 x12 H = b223_5 (j223_6 H0) x3 x5 x10 x11 x12 H := (CXM_eq [3, 6, 9, 11, 12, 13] _ _ _ _).trans (by kernel_rfl)
theorem m223_5 {j223_6 dj223_6 : A5} (hj223_6 : L5 j223_6 dj223_6) : L5 (b223_5 j223_6) (b223_5 dj223_6) := fun _ _ _ _ _ _ =>
  bR fun _ => bR fun _ => bR fun _ => bK (le_refl _) (hj223_6 _ _ _ _ _ _)
def b223_3 (j223_5 : A5) (x3 x10 x11 x12 x13 : AV) (H : Hp) : Res :=
  bnd (aindexS 2 x10 x12) fun t14 =>
  bnd (aload true 2 t14 H) fun t15 =>
  bnd (some ((.ptr H.length 0), H ++ [.cells [(.str []), (.int .i64 0)]])) fun r5 =>
  bnd (astoreU 2 r5.1 t15 r5.2) fun r_8 =>
  bnd (afield 0 r5.1) fun t16 =>
  bnd (aload false 1 t16 r_8.2) fun t17 =>
  bnd (alenD .string t17) fun t18 =>
  bnd (ibin .neq t18 (.int .i64 2)) fun t19 =>
  bnd (gdv t19 false (.tuple []) (afield 1 r5.1)) fun t21 =>
  bnd (gdv t19 false (.tuple []) (aload false 1 t21 r_8.2)) fun t22 =>
  bnd (gdv t19 false (.tuple []) (ibin .lss t22 (.int .i64 0))) fun t23 =>
  bnd (apick t19 (.bool true) t23) fun t24 =>
  bnd (gdv t24 false (.tuple []) (afield 1 r5.1)) fun t26 =>
  bnd (gdv t24 false (.tuple []) (aload false 1 t26 r_8.2)) fun t27 =>
  bnd (gdv t24 false (.tuple []) (ibin .gtr t27 (.int .i64 65535))) fun t28 =>
  bnd (apick t24 (.bool true) t28) fun t29 =>
  cnd t29
    (some ((.int .i64 2), r_8.2))
    (j223_5 x3 r5.1 x10 x11 x12 r_8.2)
theorem e223_3 (H0 : Hp) (x3 x10 x11 x12 x13 : AV) (H : Hp) : j223_3 H0 x3 x10 x11 x12 x13 H = b223_3 (j223_5 H0) x3 x10 x11 x12 x13 H := (CXM_eq [3, 6, 9, 11, 12, 13] _ _ _ _).trans (by kernel_rfl)
theorem m223_3 {j223_5 dj223_5 : A5} (hj223_5 : L5 j223_5 dj223_5) : L5 (b223_3 j223_5) (b223_3 dj223_5) := fun _ _ _ _ _ _ =>
  bR fun _ => bR fun _ => bR fun _ => bR fun _ => bR fun _ => bR fun _ => bR fun _ => bR fun _ => bR fun _ => bR fun _ => bR fun _ => bR fun _ => bR fun _ => bR fun _ => bR fun _ => bR fun _ => bK (le_refl _) (hj223_5 _ _ _ _ _ _)
def b223_l1 (j223_2 : A0) (j223_3 : A5) (x3 x10 x11 x12 : AV) (H : Hp) : Res :=
  bnd (ibin .lss x12 x11) fun t13 =>
  cnd t13
    (j223_3 x3 x10 x11 x12 t13 H)
    (j223_2 H)
theorem e223_l1 (H0 : Hp) (x3 x10 x11 x12 : AV) (H : Hp) : j223_l1 H0 x3 x10 x11 x12 H = b223_l1 (j223_2 H0) (j223_3 H0) x3 x10 x11 x12 H := (LPL_eqm (C := cfg) [3, 6, 9, 11, 12, 13] (tame_block 0 (k223_1_tame H0)) _ _).trans (by kernel_rfl)
theorem m223_l1 {j223_2 dj223_2 : A0} (hj223_2 : L0 j223_2 dj223_2) {j223_3 dj223_3 : A5} (hj223_3 : L5 j223_3 dj223_3) : L4 (b223_l1 j223_2 j223_3) (b223_l1 dj223_2 dj223_3) := fun _ _ _ _ _ =>
  bR fun _ => bK (hj223_3 _ _ _ _ _ _) (hj223_2 _)
def b223_1 (j223_l1 : A4) (x0 : AV) (H : Hp) : Res :=
  bnd (some ((.map H.length), H ++ [.map [] 0])) fun r9 =>
  bnd (alenD (.slice 210) x0) fun t11 =>
  j223_l1 r9.1 x0 t11 (.int .i64 0) r9.2
theorem e223_1 (H0 : Hp) (x0 : AV) (H : Hp) : j223_1 H0 x0 H = b223_1 (j223_l1 H0) x0 H := (CXM_eq [3, 6, 9, 11, 12, 13] _ _ _ _).trans (by kernel_rfl)
theorem m223_1 {j223_l1 dj223_l1 : A4} (hj223_l1 : L4 j223_l1 dj223_l1) : L1 (b223_1 j223_l1) (b223_1 dj223_l1) := fun _ _ =>
  bR fun _ => bR fun _ => hj223_l1 _ _ _ _ _
def rj223_2 : A0 := b223_2
theorem sj223_2 (H0 : Hp) : L0 (rj223_2) (j223_2 H0) := fun _ => le_eq (m223_2 _) (e223_2 H0 _)
def rj223_4 (j223_l1 : A4) : A4 := b223_4 j223_l1
theorem sj223_4 (H0 : Hp) {yj223_l1 : A4} (hj223_l1 : L4 yj223_l1 (j223_l1 H0)) : L4 (rj223_4 yj223_l1) (j223_4 H0) := fun _ _ _ _ _ => le_eq (m223_4 hj223_l1 _ _ _ _ _) (e223_4 H0 _ _ _ _ _)
def rj223_6 (j223_l1 : A4) : A5 := b223_6 (rj223_4 j223_l1)
theorem sj223_6 (H0 : Hp) {yj223_l1 : A4} (hj223_l1 : L4 yj223_l1 (j223_l1 H0)) : L5 (rj223_6 yj223_l1) (j223_6 H0) := fun _ _ _ _ _ _ => le_eq (m223_6 (sj223_4 H0 hj223_l1) _ _ _ _ _ _) (e223_6 H0 _ _ _ _ _ _)
def rj223_5 (j223_l1 : A4) : A5 := b223_5 (rj223_6 j223_l1)
theorem sj223_5 (H0 : Hp) {yj223_l1 : A4} (hj223_l1 : L4 yj223_l1 (j223_l1 H0)) : L5 (rj223_5 yj223_l1) (j223_5 H0) := fun _ _ _ _ _ _ => le_eq (m223_5 (sj223_6 H0 hj223_l1) _ _ _ _ _ _) (e223_5 H0 _ _ _ _ _ _)
def rj223_3 (j223_l1 : A4) : A5 := b223_3 (rj223_5 j223_l1)
theorem sj223_3 (H0 : Hp) {yj223_l1 : A4} (hj223_l1 : L4 yj223_l1 (j223_l1 H0)) : L5 (rj223_3 yj223_l1) (j223_3 H0) := fun _ _ _ _ _ _ => le_eq (m223_3 (sj223_5 H0 hj223_l1) _ _ _ _ _ _) (e223_3 H0 _ _ _ _ _ _)
def rj223_l1 (n : Nat) : A4 := @Nat.rec (fun _ => A4) (fun _ _ _ _ _ => none) (fun _ j223_l1 => b223_l1 (rj223_2) (rj223_3 j223_l1)) n
theorem sj223_l1 (H0 : Hp) (n : Nat) : L4 (rj223_l1 n) (j223_l1 H0) := by
  induction n with
  | zero => exact fun _ _ _ _ _ => le_none _
  | succ n hj223_l1 => exact fun _ _ _ _ _ => le_eq (m223_l1 (sj223_2 H0) (sj223_3 H0 hj223_l1) _ _ _ _ _) (e223_l1 H0 _ _ _ _ _)
def rj223_1 : A1 := b223_1 (rj223_l1 100000)
theorem sj223_1 (H0 : Hp) : L1 (rj223_1) (j223_1 H0) := fun _ _ => le_eq (m223_1 (sj223_l1 H0 100000) _ _) (e223_1 H0 _ _)
def bc223 (j223_1 : A1) (p0 : AV) (H : Hp) : Res :=
  bnd (alenD (.slice 210) p0) fun t7 =>
  bnd (ibin .gtr t7 (.int .i64 64)) fun t8 =>
  cnd t8
    (some ((.int .i64 3), H))
    (j223_1 p0 H)
theorem ec223 (p0 : AV) (H : Hp) : c223 p0 H = bc223 (j223_1 H) p0 H := (callw_cxm (C := cfg) (fn := Tryz.f223) (c := bodyOf Tryz.f223) (n := 38) [3, 6, 9, 11, 12, 13] Tryz.func223 (by kernel_rfl) (by kernel_rfl) [p0] (by kernel_rfl) H).trans (by kernel_rfl)
theorem mc223 {j223_1 dj223_1 : A1} (hj223_1 : L1 j223_1 dj223_1) : L1 (bc223 j223_1) (bc223 dj223_1) := fun _ _ =>
  bR fun _ => bR fun _ => bK (le_refl _) (hj223_1 _ _)
def rc223 : A1 := fun p0 H => bc223 (rj223_1) p0 H
theorem sc223 : L1 rc223 c223 := fun _ H => le_eq (mc223 (sj223_1 H) _ _) (ec223 _ _)
def q223 : A1 := fun p0 H => flatC (callw cfg 223) [p0] H
def rq223 : A1 := fun p0 H => flatC (ofL1 (rc223)) [p0] H
theorem sq223 : L1 rq223 q223 := fun _ _ => flat_le (ofL1_le (sc223)) _ _

def c186 (p0 : AV) (H : Hp) : Res := callw cfg 186 [p0] H
def j186_4 (H0 : Hp) (x1 : AV) (H : Hp) : Res := CXf 186 49 (sub (bodyOf Tryz.f186) [1, 1, 1, 1, 1]) (retL cfg 49 186 Tryz.f186 H0) [(1, x1)] H
def j186_3 (H0 : Hp) (x1 : AV) (H : Hp) : Res := CXf 186 49 (sub (bodyOf Tryz.f186) [1, 1, 1, 1]) (retL cfg 49 186 Tryz.f186 H0) [(1, x1)] H
def k186_1 (H0 : Hp) : KL := seqL (fun k al H => CXf 186 49 (sub (bodyOf Tryz.f186) [1, 1, 1, 1]) k (trimL (cfg.keep 186) (sub (bodyOf Tryz.f186) [1, 1, 1, 1]) al) H) (retL cfg 49 186 Tryz.f186 H0)
theorem k186_1_tame (H0 : Hp) : Tame 49 (k186_1 H0) := tame_seq (C := cfg) (kp := cfg.keep 186) (sub (bodyOf Tryz.f186) [1, 1, 1, 1]) (tame_ret 186 Tryz.f186 H0)
def j186_6 (H0 : Hp) (x1 x27 x28 x29 : AV) (H : Hp) : Res := CXf 186 49 (sub (bodyOf Tryz.f186) [1, 1, 1, 0, 1, 0, 0, 1, 1, 1]) (seqL (fun k al H => LPf 186 49 (sub (bodyOf Tryz.f186) [1, 1, 1, 0, 1, 0, 0]) k (trimL (cfg.keep 186) (sub (bodyOf Tryz.f186) [1, 1, 1, 0, 1, 0, 0]) al) H) (blockL 0 (k186_1 H0))) [(1, x1), (27, x27), (28, x28), (29, x29)] H
def j186_5 (H0 : Hp) (x1 x27 x28 x29 x30 : AV) (H : Hp) : Res := CXf 186 49 (sub (bodyOf Tryz.f186) [1, 1, 1, 0, 1, 0, 0, 1, 1]) (seqL (fun k al H => LPf 186 49 (sub (bodyOf Tryz.f186) [1, 1, 1, 0, 1, 0, 0]) k (trimL (cfg.keep 186) (sub (bodyOf Tryz.f186) [1, 1, 1, 0, 1, 0, 0]) al) H) (blockL 0 (k186_1 H0))) [(1, x1), (27, x27), (28, x28), (29, x29), (30, x30)] H
def j186_l1 (H0 : Hp) (x1 x27 x28 x29 : AV) (H : Hp) : Res := LPf 186 49 (sub (bodyOf Tryz.f186) [1, 1, 1, 0, 1, 0, 0]) (blockL 0 (k186_1 H0)) [(1, x1), (27, x27), (28, x28), (29, x29)] H
def j186_2 (H0 : Hp) (x1 : AV) (H : Hp) : Res := CXf 186 49 (sub (bodyOf Tryz.f186) [1, 1, 1]) (retL cfg 49 186 Tryz.f186 H0) [(1, x1)] H
def j186_1 (H0 : Hp) (x1 : AV) (H : Hp) : Res := CXf 186 49 (sub (bodyOf Tryz.f186) [1, 1]) (retL cfg 49 186 Tryz.f186 H0) [(1, x1)] H
def b186_4 (q223 : A1) (x1 : AV) (H : Hp) : Res :=
  bnd (afield 5 x1) fun t46 =>
  bnd (aload false 1 t46 H) fun t47 =>
  bnd (q223 t47 H) fun r48 =>
  some (r48.1, r48.2)
theorem e186_4 (H0 : Hp) (x1 : AV) (H : Hp) : j186_4 H0 x1 H = b186_4 q223 x1 H := (CXM_eq [3, 5, 7, 10, 11, 14] _ _ _ _).trans (by kernel_rfl)
theorem m186_4 {q223 dq223 : A1} (hq223 : L1 q223 dq223) : L1 (b186_4 q223) (b186_4 dq223) := fun _ _ =>
  bR fun _ => bR fun _ => bC (hq223 _ _) fun _ => le_refl _
def b186_3 (q222 : A1) (j186_4 : A1) (x1 : AV) (H : Hp) : Res :=
  bnd (afield 4 x1) fun t40 =>
  bnd (aload false 1 t40 H) fun t41 =>
  bnd (q222 t41 H) fun r42 =>
  bnd (ibin .neq r42.1 (.int .i64 0)) fun t44 =>
  cnd t44
    (some (r42.1, r42.2))
    (j186_4 x1 r42.2)
theorem e186_3 (H0 : Hp) (x1 : AV) (H : Hp) : j186_3 H0 x1 H = b186_3 q222 (j186_4 H0) x1 H := (CXM_eq [3, 5, 7, 10, 11, 14] _ _ _ _).trans (by kernel_rfl)
theorem m186_3 {q222 dq222 : A1} (hq222 : L1 q222 dq222) {j186_4 dj186_4 : A1} (hj186_4 : L1 j186_4 dj186_4) : L1 (b186_3 q222 j186_4) (b186_3 dq222 dj186_4) := fun _ _ =>
  bR fun _ => bR fun _ => bC (hq222 _ _) fun _ => bR fun _ => bK (le_refl _) (hj186_4 _ _)
def b186_6 (j186_l1 : A4) (x1 x27 x28 x29 : AV) (H : Hp) : Res :=
  bnd (ibin .add x29 (.int .i64 1)) fun t39 =>
  j186_l1 x1 x27 x28 t39 H
theorem e186_6 (H0 : Hp) (x1 x27 x28 x29 : AV) (H : Hp) : j186_6 H0 x1 x27 x28 x29 H = b186_6 (j186_l1 H0) x1 x27 x28 x29 H := (CXM_eq [3, 5, 7, 10, 11, 14] _ _ _ _).trans (by kernel_rfl)
theorem m186_6 {j186_l1 dj186_l1 : A4} (hj186_l1 : L4 j186_l1 dj186_l1) : L4 (b186_6 j186_l1) (b186_6 dj186_l1) := fun _ _ _ _ _ =>
  bR fun _ => hj186_l1 _ _ _ _ _
def b186_5 (j186_6 : A4) (x1 x27 x28 x29 x30 : AV) (H : Hp) : Res :=
  bnd (aindexS 1 x27 x29) fun t31 =>
  bnd (aload false 1 t31 H) fun t32 =>
  bnd (ibin .lss t32 (.int .i64 0)) fun t34 =>
  bnd (gdv t34 false (.tuple []) (some t32)) fun t36 =>
  bnd (gdv t34 false (.tuple []) (ibin .gtr t36 (.int .i64 65535))) fun t37 =>
  bnd (apick t34 (.bool true) t37) fun t38 =>
  cnd t38
    (some ((.int .i64 2), H))
    (j186_6 x1 x27 x28 x29 H)
theorem e186_5 (H0 : Hp) (x1 x27 x28 x29 x30 : AV) (H : Hp) : j186_5 H0 x1 x27 x28 x29 x30 H = b186_5 (j186_6 H0) x1 x27 x28 x29 x30 H := (CXM_eq [3, 5, 7, 10, 11, 14] _ _ _ _).trans (by kernel_rfl)
theorem m186_5 {j186_6 dj186_6 : A4} (hj186_6 : L4 j186_6 dj186_6) : L5 (b186_5 j186_6) (b186_5 dj186_6) := fun _ _ _ _ _ _ =>
  bR fun _ => bR fun _ => bR fun _ => bR fun _ => bR fun _ => bR fun _ => bK (le_refl _) (hj186_6 _ _ _ _ _)
def b186_l1 (j186_3 : A1) (j186_5 : A5) (x1 x27 x28 x29 : AV) (H : Hp) : Res :=
  bnd (ibin .lss x29 x28) fun t30 =>
  cnd t30
    (j186_5 x1 x27 x28 x29 t30 H)
    (j186_3 x1 H)
theorem e186_l1 (H0 : Hp) (x1 x27 x28 x29 : AV) (H : Hp) : j186_l1 H0 x1 x27 x28 x29 H = b186_l1 (j186_3 H0) (j186_5 H0) x1 x27 x28 x29 H := (LPL_eqm (C := cfg) [3, 5, 7, 10, 11, 14] (tame_block 0 (k186_1_tame H0)) _ _).trans (by kernel_rfl)
theorem m186_l1 {j186_3 dj186_3 : A1} (hj186_3 : L1 j186_3 dj186_3) {j186_5 dj186_5 : A5} (hj186_5 : L5 j186_5 dj186_5) : L4 (b186_l1 j186_3 j186_5) (b186_l1 dj186_3 dj186_5) := fun _ _ _ _ _ =>
  bR fun _ => bK (hj186_5 _ _ _ _ _ _) (hj186_3 _ _)
def b186_2 (j186_l1 : A4) (x1 : AV) (H : Hp) : Res :=
  bnd (afield 1 x1) fun t26 =>
  bnd (aload false 1 t26 H) fun t27 =>
  bnd (alenD (.slice 3) t27) fun t28 =>
  j186_l1 x1 t27 t28 (.int .i64 0) H
theorem e186_2 (H0 : Hp) (x1 : AV) (H : Hp) : j186_2 H0 x1 H = b186_2 (j186_l1 H0) x1 H := (CXM_eq [3, 5, 7, 10, 11, 14] _ _ _ _).trans (by kernel_rfl)
theorem m186_2 {j186_l1 dj186_l1 : A4} (hj186_l1 : L4 j186_l1 dj186_l1) : L1 (b186_2 j186_l1) (b186_2 dj186_l1) := fun _ _ =>
  bR fun _ => bR fun _ => bR fun _ => hj186_l1 _ _ _ _ _
def b186_1 (j186_2 : A1) (x1 : AV) (H : Hp) : Res :=
  bnd (afield 1 x1) fun t10 =>
  bnd (aload false 1 t10 H) fun t11 =>
  bnd (alenD (.slice 3) t11) fun t12 =>
  bnd (ibin .neq t12 (.int .i64 256)) fun t13 =>
  bnd (gdv t13 false (.tuple []) (afield 2 x1)) fun t15 =>
  bnd (gdv t13 false (.tuple []) (aload false 1 t15 H)) fun t16 =>
  bnd (gdv t13 false (.tuple []) (alenD .string t16)) fun t17 =>
  bnd (gdv t13 false (.tuple []) (ibin .neq t17 (.int .i64 256))) fun t18 =>
  bnd (apick t13 (.bool true) t18) fun t19 =>
  bnd (gdv t19 false (.tuple []) (afield 3 x1)) fun t21 =>
  bnd (gdv t19 false (.tuple []) (aload false 1 t21 H)) fun t22 =>
  bnd (gdv t19 false (.tuple []) (alenD .string t22)) fun t23 =>
  bnd (gdv t19 false (.tuple []) (ibin .neq t23 (.int .i64 256))) fun t24 =>
  bnd (apick t19 (.bool true) t24) fun t25 =>
  cnd t25
    (some ((.int .i64 2), H))
    (j186_2 x1 H)
theorem e186_1 (H0 : Hp) (x1 : AV) (H : Hp) : j186_1 H0 x1 H = b186_1 (j186_2 H0) x1 H := (CXM_eq [3, 5, 7, 10, 11, 14] _ _ _ _).trans (by kernel_rfl)
theorem m186_1 {j186_2 dj186_2 : A1} (hj186_2 : L1 j186_2 dj186_2) : L1 (b186_1 j186_2) (b186_1 dj186_2) := fun _ _ =>
  bR fun _ => bR fun _ => bR fun _ => bR fun _ => bR fun _ => bR fun _ => bR fun _ => bR fun _ => bR fun _ => bR fun _ => bR fun _ => bR fun _ => bR fun _ => bR fun _ => bK (le_refl _) (hj186_2 _ _)
def rj186_4 : A1 := b186_4 rq223
theorem sj186_4 (H0 : Hp) : L1 (rj186_4) (j186_4 H0) := fun _ _ => le_eq (m186_4 sq223 _ _) (e186_4 H0 _ _)
def rj186_3 : A1 := b186_3 rq222 (rj186_4)
theorem sj186_3 (H0 : Hp) : L1 (rj186_3) (j186_3 H0) := fun _ _ => le_eq (m186_3 sq222 (sj186_4 H0) _ _) (e186_3 H0 _ _)
def rj186_6 (j186_l1 : A4) : A4 := b186_6 j186_l1
theorem sj186_6 (H0 : Hp) {yj186_l1 : A4} (hj186_l1 : L4 yj186_l1 (j186_l1 H0)) : L4 (rj186_6 yj186_l1) (j186_6 H0) := fun _ _ _ _ _ => le_eq (m186_6 hj186_l1 _ _ _ _ _) (e186_6 H0 _ _ _ _ _)
def rj186_5 (j186_l1 : A4) : A5 := b186_5 (rj186_6 j186_l1)
theorem sj186_5 (H0 : Hp) {yj186_l1 : A4} (hj186_l1 : L4 yj186_l1 (j186_l1 H0)) : L5 (rj186_5 yj186_l1) (j186_5 H0) := fun _ _ _ _ _ _ => le_eq (m186_5 (sj186_6 H0 hj186_l1) _ _ _ _ _ _) (e186_5 H0 _ _ _ _ _ _)
def rj186_l1 (n : Nat) : A4 := @Nat.rec (fun _ => A4) (fun _ _ _ _ _ => none) (fun _ j186_l1 => b186_l1 (rj186_3) (rj186_5 j186_l1)) n
theorem sj186_l1 (H0 : Hp) (n : Nat) : L4 (rj186_l1 n) (j186_l1 H0) := by
  induction n with
  | zero => exact fun _ _ _ _ _ => le_none _
  | succ n hj186_l1 => exact fun _ _ _ _ _ => le_eq (m186_l1 (sj186_3 H0) (sj186_5 H0 hj186_l1) _ _ _ _ _) (e186_l1 H0 _ _ _ _ _)
def rj186_2 : A1 := b186_2 (rj186_l1 100000)
theorem sj186_2 (H0 : Hp) : L1 (rj186_2) (j186_2 H0) := fun _ _ => le_eq (m186_2 (sj186_l1 H0 100000) _ _) (e186_2 H0 _ _)
def rj186_1 : A1 := b186_1 (rj186_2)
theorem sj186_1 (H0 : Hp) : L1 (rj186_1) (j186_1 H0) := fun _ _ => le_eq (m186_1 (sj186_2 H0) _ _) (e186_1 H0 _ _)
def bc186 (q221 : A1) (j186_1 : A1) (p0 : AV) (H : Hp) : Res :=
  bnd (abox p0 H) fun r1 =>
  bnd (afield 0 r1.1) fun t6 =>
  bnd (aload false 1 t6 r1.2) fun t7 =>
  bnd (q221 t7 r1.2) fun r8 =>
  bnd (aun .not r8.1) fun t9 =>
  cnd t9
    (some ((.int .i64 4), r8.2))
    (j186_1 r1.1 r8.2)
theorem ec186 (p0 : AV) (H : Hp) : c186 p0 H = bc186 q221 (j186_1 H) p0 H := (callw_cxm (C := cfg) (fn := Tryz.f186) (c := bodyOf Tryz.f186) (n := 49) [3, 5, 7, 10, 11, 14] Tryz.func186 (by kernel_rfl) (by kernel_rfl) [p0] (by kernel_rfl) H).trans (by kernel_rfl)
theorem mc186 {q221 dq221 : A1} (hq221 : L1 q221 dq221) {j186_1 dj186_1 : A1} (hj186_1 : L1 j186_1 dj186_1) : L1 (bc186 q221 j186_1) (bc186 dq221 dj186_1) := fun _ _ =>
  bR fun _ => bR fun _ => bR fun _ => bC (hq221 _ _) fun _ => bR fun _ => bK (le_refl _) (hj186_1 _ _)
def rc186 : A1 := fun p0 H => bc186 rq221 (rj186_1) p0 H
theorem sc186 : L1 rc186 c186 := fun _ H => le_eq (mc186 sq221 (sj186_1 H) _ _) (ec186 _ _)
def q186 : A1 := fun p0 H => flatC (callw cfg 186) [p0] H
def rq186 : A1 := fun p0 H => flatC (ofL1 (rc186)) [p0] H
theorem sq186 : L1 rq186 q186 := fun _ _ => flat_le (ofL1_le (sc186)) _ _

def c224 (p0 p1 p2 : AV) (H : Hp) : Res := callw cfg 224 [p0, p1, p2] H
def j224_1 (H0 : Hp) (x7 : AV) (H : Hp) : Res := CXf 224 40 (sub (bodyOf Tryz.f224) [1, 1, 1]) (retL cfg 40 224 Tryz.f224 H0) [(7, x7)] H
def k224_1 (H0 : Hp) : KL := seqL (fun k al H => CXf 224 40 (sub (bodyOf Tryz.f224) [1, 1, 1]) k (trimL (cfg.keep 224) (sub (bodyOf Tryz.f224) [1, 1, 1]) al) H) (retL cfg 40 224 Tryz.f224 H0)
theorem k224_1_tame (H0 : Hp) : Tame 40 (k224_1 H0) := tame_seq (C := cfg) (kp := cfg.keep 224) (sub (bodyOf Tryz.f224) [1, 1, 1]) (tame_ret 224 Tryz.f224 H0)
def j224_3 (H0 : Hp) (x0 x1 x2 x7 x11 x12 : AV) (H : Hp) : Res := CXf 224 40 (sub (bodyOf Tryz.f224) [1, 1, 0, 1, 0, 0, 1, 1, 1]) (seqL (fun k al H => LPf 224 40 (sub (bodyOf Tryz.f224) [1, 1, 0, 1, 0, 0]) k (trimL (cfg.keep 224) (sub (bodyOf Tryz.f224) [1, 1, 0, 1, 0, 0]) al) H) (blockL 0 (k224_1 H0))) [(0, x0), (1, x1), (2, x2), (7, x7), (11, x11), (12, x12)] H
def j224_2 (H0 : Hp) (x0 x1 x2 x7 x11 x12 x13 : AV) (H : Hp) : Res := CXf 224 40 (sub (bodyOf Tryz.f224) [1, 1, 0, 1, 0, 0, 1, 1]) (seqL (fun k al H => LPf 224 40 (sub (bodyOf Tryz.f224) [1, 1, 0, 1, 0, 0]) k (trimL (cfg.keep 224) (sub (bodyOf Tryz.f224) [1, 1, 0, 1, 0, 0]) al) H) (blockL 0 (k224_1 H0))) [(0, x0), (1, x1), (2, x2), (7, x7), (11, x11), (12, x12), (13, x13)] H
def j224_l1 (H0 : Hp) (x0 x1 x2 x7 x11 x12 : AV) (H : Hp) : Res := LPf 224 40 (sub (bodyOf Tryz.f224) [1, 1, 0, 1, 0, 0]) (blockL 0 (k224_1 H0)) [(0, x0), (1, x1), (2, x2), (7, x7), (11, x11), (12, x12)] H
def b224_1 (x7 : AV) (H : Hp) : Res :=
  bnd (cvRd x7 H) fun t39 =>
  some (t39, H)
theorem e224_1 (H0 : Hp) (x7 : AV) (H : Hp) : j224_1 H0 x7 H = b224_1 x7 H := (CXM_eq [4, 8, 9] _ _ _ _).trans (by kernel_rfl)
theorem m224_1 : L1 (b224_1) (b224_1) := fun _ _ =>
  bR fun _ => le_refl _
def b224_3 (j224_l1 : A6) (x0 x1 x2 x7 x11 x12 : AV) (H : Hp) : Res :=
  bnd (ibin .add x12 (.int .i64 1)) fun t37 =>
  j224_l1 x0 x1 x2 x7 x11 t37 H
theorem e224_3 (H0 : Hp) (x0 x1 x2 x7 x11 x12 : AV) (H : Hp) : j224_3 H0 x0 x1 x2 x7 x11 x12 H = b224_3 (j224_l1 H0) x0 x1 x2 x7 x11 x12 H := (CXM_eq [4, 8, 9] _ _ _ _).trans (by kernel_rfl)
theorem m224_3 {j224_l1 dj224_l1 : A6} (hj224_l1 : L6 j224_l1 dj224_l1) : L6 (b224_3 j224_l1) (b224_3 dj224_l1) := fun _ _ _ _ _ _ _ =>
  bR fun _ => hj224_l1 _ _ _ _ _ _ _
def b224_2 (j224_3 : A6) (x0 x1 x2 x7 x11 x12 x13 : AV) (H : Hp) : Res :=
  bnd (cvInt .u8 x12) fun t18 =>
  bnd (aindexS 1 x7 x12) fun t19 =>
  bnd (astoreU 1 t19 t18 H) fun r_8 =>
  bnd (cvInt .u8 x12) fun t21 =>
  bnd (ibin .geq t21 x0) fun t23 =>
  bnd (gdv t23 true (.tuple []) (some x12)) fun t25 =>
  bnd (gdv t23 true (.tuple []) (cvInt .u8 t25)) fun t26 =>
  bnd (gdv t23 true (.tuple []) (some x1)) fun t27 =>
  bnd (gdv t23 true (.tuple []) (ibin .leq t26 t27)) fun t28 =>
  bnd (apick t23 t28 (.bool false)) fun t29 =>
  cnd t29
    (bnd (ibin .add x12 x2) fun t34 =>
    bnd (cvInt .u8 t34) fun t35 =>
    bnd (aindexS 1 x7 x12) fun t36 =>
    bnd (astoreU 1 t36 t35 r_8.2) fun r_19 =>
    j224_3 x0 x1 x2 x7 x11 x12 r_19.2)
    (j224_3 x0 x1 x2 x7 x11 x12 r_8.2)
theorem e224_2 (H0 : Hp) (x0 x1 x2 x7 x11 x12 x13 : AV) (H : Hp) : j224_2 H0 x0 x1 x2 x7 x11 x12 x13 H = b224_2 (j224_3 H0) x0 x1 x2 x7 x11 x12 x13 H := (CXM_eq [4, 8, 9] _ _ _ _).trans (by kernel_rfl)
theorem m224_2 {j224_3 dj224_3 : A6} (hj224_3 : L6 j224_3 dj224_3) : L7 (b224_2 j224_3) (b224_2 dj224_3) := fun _ _ _ _ _ _ _ _ =>
  bR fun _ => bR fun _ => bR fun _ => bR fun _ => bR fun _ => bR fun _ => bR fun _ => bR fun _ => bR fun _ => bR fun _ => bK (bR fun _ => bR fun _ => bR fun _ => bR fun _ => hj224_3 _ _ _ _ _ _ _) (hj224_3 _ _ _ _ _ _ _)
def b224_l1 (j224_1 : A1) (j224_2 : A7) (x0 x1 x2 x7 x11 x12 : AV) (H : Hp) : Res :=
  bnd (ibin .lss x12 x11) fun t13 =>
  cnd t13
    (j224_2 x0 x1 x2 x7 x11 x12 t13 H)
    (j224_1 x7 H)
theorem e224_l1 (H0 : Hp) (x0 x1 x2 x7 x11 x12 : AV) (H : Hp) : j224_l1 H0 x0 x1 x2 x7 x11 x12 H = b224_l1 (j224_1 H0) (j224_2 H0) x0 x1 x2 x7 x11 x12 H := (LPL_eqm (C := cfg) [4, 8, 9] (tame_block 0 (k224_1_tame H0)) _ _).trans (by kernel_rfl)
theorem m224_l1 {j224_1 dj224_1 : A1} (hj224_1 : L1 j224_1 dj224_1) {j224_2 dj224_2 : A7} (hj224_2 : L7 j224_2 dj224_2) : L6 (b224_l1 j224_1 j224_2) (b224_l1 dj224_1 dj224_2) := fun _ _ _ _ _ _ _ =>
  bR fun _ => bK (hj224_2 _ _ _ _ _ _ _ _) (hj224_1 _ _)
def rj224_1 : A1 := b224_1
theorem sj224_1 (H0 : Hp) : L1 (rj224_1) (j224_1 H0) := fun _ _ => le_eq (m224_1 _ _) (e224_1 H0 _ _)
def rj224_3 (j224_l1 : A6) : A6 := b224_3 j224_l1
theorem sj224_3 (H0 : Hp) {yj224_l1 : A6} (hj224_l1 : L6 yj224_l1 (j224_l1 H0)) : L6 (rj224_3 yj224_l1) (j224_3 H0) := fun _ _ _ _ _ _ _ => le_eq (m224_3 hj224_l1 _ _ _ _ _ _ _) (e224_3 H0 _ _ _ _ _ _ _)
def rj224_2 (j224_l1 : A6) : A7 := b224_2 (rj224_3 j224_l1)
theorem sj224_2 (H0 : Hp) {yj224_l1 : A6} (hj224_l1 : L6 yj224_l1 (j224_l1 H0)) : L7 (rj224_2 yj224_l1) (j224_2 H0) := fun _ _ _ _ _ _ _ _ => le_eq (m224_2 (sj224_3 H0 hj224_l1) _ _ _ _ _ _ _ _) (e224_2 H0 _ _ _ _ _ _ _ _)
def rj224_l1 (n : Nat) : A6 := @Nat.rec (fun _ => A6) (fun _ _ _ _ _ _ _ => none) (fun _ j224_l1 => b224_l1 (rj224_1) (rj224_2 j224_l1)) n
theorem sj224_l1 (H0 : Hp) (n : Nat) : L6 (rj224_l1 n) (j224_l1 H0) := by
  induction n with
  | zero => exact fun _ _ _ _ _ _ _ => le_none _
  | succ n hj224_l1 => exact fun _ _ _ _ _ _ _ => le_eq (m224_l1 (sj224_1 H0) (sj224_2 H0 hj224_l1) _ _ _ _ _ _ _) (e224_l1 H0 _ _ _ _ _ _ _)
def bc224 (j224_l1 : A6) (p0 p1 p2 : AV) (H : Hp) : Res :=
  bnd (amake 1 1 false (.int .u8 0) (.int .i64 256) (.int .i64 256) H) fun r9 =>
  bnd (alenD (.slice 5) r9.1) fun t11 =>
  j224_l1 p0 p1 p2 r9.1 t11 (.int .i64 0) r9.2
theorem ec224 (p0 p1 p2 : AV) (H : Hp) : c224 p0 p1 p2 H = bc224 (j224_l1 H) p0 p1 p2 H := (callw_cxm (C := cfg) (fn := Tryz.f224) (c := bodyOf Tryz.f224) (n := 40) [4, 8, 9] Tryz.func224 (by kernel_rfl) (by kernel_rfl) [p0, p1, p2] (by kernel_rfl) H).trans (by kernel_rfl)
theorem mc224 {j224_l1 dj224_l1 : A6} (hj224_l1 : L6 j224_l1 dj224_l1) : L3 (bc224 j224_l1) (bc224 dj224_l1) := fun _ _ _ _ =>
  bR fun _ => bR fun _ => hj224_l1 _ _ _ _ _ _ _
def rc224 : A3 := fun p0 p1 p2 H => bc224 (rj224_l1 100000) p0 p1 p2 H
theorem sc224 : L3 rc224 c224 := fun _ _ _ H => le_eq (mc224 (sj224_l1 H 100000) _ _ _ _) (ec224 _ _ _ _)
def q224 : A3 := fun p0 p1 p2 H => flatC (callw cfg 224) [p0, p1, p2] H
def rq224 : A3 := fun p0 p1 p2 H => flatC (ofL3 (rc224)) [p0, p1, p2] H
theorem sq224 : L3 rq224 q224 := fun _ _ _ _ => flat_le (ofL3_le (sc224)) _ _

def c187 (H : Hp) : Res := callw cfg 187 [] H
def j187_1 (H0 : Hp) (x0 x1 : AV) (H : Hp) : Res := CXf 187 18 (sub (bodyOf Tryz.f187) [1, 1, 1]) (retL cfg 18 187 Tryz.f187 H0) [(0, x0), (1, x1)] H
def k187_1 (H0 : Hp) : KL := seqL (fun k al H => CXf 187 18 (sub (bodyOf Tryz.f187) [1, 1, 1]) k (trimL (cfg.keep 187) (sub (bodyOf Tryz.f187) [1, 1, 1]) al) H) (retL cfg 18 187 Tryz.f187 H0)
theorem k187_1_tame (H0 : Hp) : Tame 18 (k187_1 H0) := tame_seq (C := cfg) (kp := cfg.keep 187) (sub (bodyOf Tryz.f187) [1, 1, 1]) (tame_ret 187 Tryz.f187 H0)
def j187_3 (H0 : Hp) (x0 x1 x5 x6 : AV) (H : Hp) : Res := CXf 187 18 (sub (bodyOf Tryz.f187) [1, 1, 0, 1, 0, 0, 1, 1, 1]) (seqL (fun k al H => LPf 187 18 (sub (bodyOf Tryz.f187) [1, 1, 0, 1, 0, 0]) k (trimL (cfg.keep 187) (sub (bodyOf Tryz.f187) [1, 1, 0, 1, 0, 0]) al) H) (blockL 0 (k187_1 H0))) [(0, x0), (1, x1), (5, x5), (6, x6)] H
def j187_2 (H0 : Hp) (x0 x1 x5 x6 x7 : AV) (H : Hp) : Res := CXf 187 18 (sub (bodyOf Tryz.f187) [1, 1, 0, 1, 0, 0, 1, 1]) (seqL (fun k al H => LPf 187 18 (sub (bodyOf Tryz.f187) [1, 1, 0, 1, 0, 0]) k (trimL (cfg.keep 187) (sub (bodyOf Tryz.f187) [1, 1, 0, 1, 0, 0]) al) H) (blockL 0 (k187_1 H0))) [(0, x0), (1, x1), (5, x5), (6, x6), (7, x7)] H
def j187_l1 (H0 : Hp) (x0 x1 x5 x6 : AV) (H : Hp) : Res := LPf 187 18 (sub (bodyOf Tryz.f187) [1, 1, 0, 1, 0, 0]) (blockL 0 (k187_1 H0)) [(0, x0), (1, x1), (5, x5), (6, x6)] H
def b187_1 (q224 : A3) (x0 x1 : AV) (H : Hp) : Res :=
  bnd (q224 (.int .u8 65) (.int .u8 90) (.int .i64 32) H) fun r15 =>
  bnd (q224 (.int .u8 97) (.int .u8 122) (.int .i64 (-32)) r15.2) fun r16 =>
  bnd ((afill [(0, 1, (.str [112, 111, 115, 105, 120])), (1, 1, x1), (2, 1, r15.1), (3, 1, r16.1)] [(.str []), .nils, (.str []), (.str []), .nils, .nils]).map .agg) fun t17 =>
  bnd (astoreU 6 x0 t17 r16.2) fun r_6 =>
  bnd (aload true 6 x0 r_6.2) fun v0 =>
  some (v0, r_6.2)
theorem e187_1 (H0 : Hp) (x0 x1 : AV) (H : Hp) : j187_1 H0 x0 x1 H = b187_1 q224 x0 x1 H := (CXM_eq [4, 6, 7] _ _ _ _).trans (by kernel_rfl)
theorem m187_1 {q224 dq224 : A3} (hq224 : L3 q224 dq224) : L2 (b187_1 q224) (b187_1 dq224) := fun _ _ _ =>
  bC (hq224 _ _ _ _) fun _ => bC (hq224 _ _ _ _) fun _ => bR fun _ => bR fun _ => bR fun _ => le_refl _
def b187_3 (j187_l1 : A4) (x0 x1 x5 x6 : AV) (H : Hp) : Res :=
  bnd (ibin .add x6 (.int .i64 1)) fun t13 =>
  j187_l1 x0 x1 x5 t13 H
theorem e187_3 (H0 : Hp) (x0 x1 x5 x6 : AV) (H : Hp) : j187_3 H0 x0 x1 x5 x6 H = b187_3 (j187_l1 H0) x0 x1 x5 x6 H := (CXM_eq [4, 6, 7] _ _ _ _).trans (by kernel_rfl)
theorem m187_3 {j187_l1 dj187_l1 : A4} (hj187_l1 : L4 j187_l1 dj187_l1) : L4 (b187_3 j187_l1) (b187_3 dj187_l1) := fun _ _ _ _ _ =>
  bR fun _ => hj187_l1 _ _ _ _ _
def b187_2 (j187_3 : A4) (x0 x1 x5 x6 x7 : AV) (H : Hp) : Res :=
  bnd (aindexS 1 x1 x6) fun t12 =>
  bnd (astoreU 1 t12 x6 H) fun r_12 =>
  j187_3 x0 x1 x5 x6 r_12.2
theorem e187_2 (H0 : Hp) (x0 x1 x5 x6 x7 : AV) (H : Hp) : j187_2 H0 x0 x1 x5 x6 x7 H = b187_2 (j187_3 H0) x0 x1 x5 x6 x7 H := (CXM_eq [4, 6, 7] _ _ _ _).trans (by kernel_rfl)
theorem m187_2 {j187_3 dj187_3 : A4} (hj187_3 : L4 j187_3 dj187_3) : L5 (b187_2 j187_3) (b187_2 dj187_3) := fun _ _ _ _ _ _ =>
  bR fun _ => bR fun _ => hj187_3 _ _ _ _ _
def b187_l1 (j187_1 : A2) (j187_2 : A5) (x0 x1 x5 x6 : AV) (H : Hp) : Res :=
  bnd (ibin .lss x6 x5) fun t7 =>
  cnd t7
    (j187_2 x0 x1 x5 x6 t7 H)
    (j187_1 x0 x1 H)
theorem e187_l1 (H0 : Hp) (x0 x1 x5 x6 : AV) (H : Hp) : j187_l1 H0 x0 x1 x5 x6 H = b187_l1 (j187_1 H0) (j187_2 H0) x0 x1 x5 x6 H := (LPL_eqm (C := cfg) [4, 6, 7] (tame_block 0 (k187_1_tame H0)) _ _).trans (by kernel_rfl)
theorem m187_l1 {j187_1 dj187_1 : A2} (hj187_1 : L2 j187_1 dj187_1) {j187_2 dj187_2 : A5} (hj187_2 : L5 j187_2 dj187_2) : L4 (b187_l1 j187_1 j187_2) (b187_l1 dj187_1 dj187_2) := fun _ _ _ _ _ =>
  bR fun _ => bK (hj187_2 _ _ _ _ _ _) (hj187_1 _ _ _)
def rj187_1 : A2 := b187_1 rq224
theorem sj187_1 (H0 : Hp) : L2 (rj187_1) (j187_1 H0) := fun _ _ _ => le_eq (m187_1 sq224 _ _ _) (e187_1 H0 _ _ _)
def rj187_3 (j187_l1 : A4) : A4 := b187_3 j187_l1
theorem sj187_3 (H0 : Hp) {yj187_l1 : A4} (hj187_l1 : L4 yj187_l1 (j187_l1 H0)) : L4 (rj187_3 yj187_l1) (j187_3 H0) := fun _ _ _ _ _ => le_eq (m187_3 hj187_l1 _ _ _ _ _) (e187_3 H0 _ _ _ _ _)
def rj187_2 (j187_l1 : A4) : A5 := b187_2 (rj187_3 j187_l1)
theorem sj187_2 (H0 : Hp) {yj187_l1 : A4} (hj187_l1 : L4 yj187_l1 (j187_l1 H0)) : L5 (rj187_2 yj187_l1) (j187_2 H0) := fun _ _ _ _ _ _ => le_eq (m187_2 (sj187_3 H0 hj187_l1) _ _ _ _ _ _) (e187_2 H0 _ _ _ _ _ _)
def rj187_l1 (n : Nat) : A4 := @Nat.rec (fun _ => A4) (fun _ _ _ _ _ => none) (fun _ j187_l1 => b187_l1 (rj187_1) (rj187_2 j187_l1)) n
theorem sj187_l1 (H0 : Hp) (n : Nat) : L4 (rj187_l1 n) (j187_l1 H0) := by
  induction n with
  | zero => exact fun _ _ _ _ _ => le_none _
  | succ n hj187_l1 => exact fun _ _ _ _ _ => le_eq (m187_l1 (sj187_1 H0) (sj187_2 H0 hj187_l1) _ _ _ _ _) (e187_l1 H0 _ _ _ _ _)
def bc187 (j187_l1 : A4) (H : Hp) : Res :=
  bnd (some ((.ptr H.length 0), H ++ [.cells [(.str []), .nils, (.str []), (.str []), .nils, .nils]])) fun r0 =>
  bnd (amake 1 8 false (.int .i64 0) (.int .i64 256) (.int .i64 256) r0.2) fun r3 =>
  bnd (alenD (.slice 3) r3.1) fun t5 =>
  j187_l1 r0.1 r3.1 t5 (.int .i64 0) r3.2
theorem ec187 (H : Hp) : c187 H = bc187 (j187_l1 H) H := (callw_cxm (C := cfg) (fn := Tryz.f187) (c := bodyOf Tryz.f187) (n := 18) [4, 6, 7] Tryz.func187 (by kernel_rfl) (by kernel_rfl) [] (by kernel_rfl) H).trans (by kernel_rfl)
theorem mc187 {j187_l1 dj187_l1 : A4} (hj187_l1 : L4 j187_l1 dj187_l1) : L0 (bc187 j187_l1) (bc187 dj187_l1) := fun _ =>
  bR fun _ => bR fun _ => bR fun _ => hj187_l1 _ _ _ _ _
def rc187 : A0 := fun H => bc187 (rj187_l1 100000) H
theorem sc187 : L0 rc187 c187 := fun H => le_eq (mc187 (sj187_l1 H 100000) _) (ec187 _)
def q187 : A0 := fun H => flatC (callw cfg 187) [] H
def rq187 : A0 := fun H => flatC (ofL0 (rc187)) [] H
theorem sq187 : L0 rq187 q187 := fun _ => flat_le (ofL0_le (sc187)) _ _

def c147 (p0 : AV) (H : Hp) : Res := callw cfg 147 [p0] H
def j147_1 (H0 : Hp) (x1 x2 : AV) (H : Hp) : Res := CXf 147 16 (sub (bodyOf Tryz.f147) [1, 1]) (retL cfg 16 147 Tryz.f147 H0) [(1, x1), (2, x2)] H
def b147_1 (x1 x2 : AV) (H : Hp) : Res :=
  bnd (amake 1 8 false (.int .i64 0) (.int .i64 256) (.int .i64 256) H) fun r8 =>
  bnd (afield 1 x1) fun t10 =>
  bnd (aload false 1 t10 r8.2) fun t11 =>
  bnd (acopy 1 r8.1 t11 r8.2) fun r12 =>
  bnd (afield 1 x1) fun t14 =>
  bnd (astoreU 1 t14 r8.1 r12.2) fun r_8 =>
  bnd (aload true 6 x1 r_8.2) fun t15 =>
  bnd (astoreU 6 x2 t15 r_8.2) fun r_10 =>
  bnd (aload true 6 x2 r_10.2) fun v2 =>
  some (v2, r_10.2)
theorem e147_1 (H0 : Hp) (x1 x2 : AV) (H : Hp) : j147_1 H0 x1 x2 H = b147_1 x1 x2 H := (CXM_eq [3] _ _ _ _).trans (by kernel_rfl)
theorem m147_1 : L2 (b147_1) (b147_1) := fun _ _ _ =>
  bR fun _ => bR fun _ => bR fun _ => bR fun _ => bR fun _ => bR fun _ => bR fun _ => bR fun _ => bR fun _ => le_refl _
def rj147_1 : A2 := b147_1
theorem sj147_1 (H0 : Hp) : L2 (rj147_1) (j147_1 H0) := fun _ _ _ => le_eq (m147_1 _ _ _) (e147_1 H0 _ _ _)
def bc147 (q186 : A1) (q187 : A0) (j147_1 : A2) (p0 : AV) (H : Hp) : Res :=
  bnd (abox p0 H) fun r1 =>
  bnd (some ((.ptr r1.2.length 0), r1.2 ++ [.cells [(.str []), .nils, (.str []), (.str []), .nils, .nils]])) fun r2 =>
  bnd (aload true 6 r1.1 r2.2) fun t4 =>
  bnd (q186 t4 r2.2) fun r5 =>
  bnd (ibin .neq r5.1 (.int .i64 0)) fun t6 =>
  cnd t6
    (bnd (q187 r5.2) fun r7 =>
    bnd (astoreU 6 r2.1 r7.1 r7.2) fun r_16 =>
    bnd (aload true 6 r2.1 r_16.2) fun v2 =>
    some (v2, r_16.2))
    (j147_1 r1.1 r2.1 r5.2)
theorem ec147 (p0 : AV) (H : Hp) : c147 p0 H = bc147 q186 q187 (j147_1 H) p0 H := (callw_cxm (C := cfg) (fn := Tryz.f147) (c := bodyOf Tryz.f147) (n := 16) [3] Tryz.func147 (by kernel_rfl) (by kernel_rfl) [p0] (by kernel_rfl) H).trans (by kernel_rfl)
theorem mc147 {q186 dq186 : A1} (hq186 : L1 q186 dq186) {q187 dq187 : A0} (hq187 : L0 q187 dq187) {j147_1 dj147_1 : A2} (hj147_1 : L2 j147_1 dj147_1) : L1 (bc147 q186 q187 j147_1) (bc147 dq186 dq187 dj147_1) := fun _ _ =>
  bR fun _ => bR fun _ => bR fun _ => bC (hq186 _ _) fun _ => bR fun _ => bK (bC (hq187 _) fun _ => bR fun _ => bR fun _ => le_refl _) (hj147_1 _ _ _)
def rc147 : A1 := fun p0 H => bc147 rq186 rq187 (rj147_1) p0 H
theorem sc147 : L1 rc147 c147 := fun _ H => le_eq (mc147 sq186 sq187 (sj147_1 H) _ _) (ec147 _ _)
def q147 : A1 := fun p0 H => flatC (callw cfg 147) [p0] H
def rq147 : A1 := fun p0 H => flatC (ofL1 (rc147)) [p0] H
theorem sq147 : L1 rq147 q147 := fun _ _ => flat_le (ofL1_le (sc147)) _ _

def c188 (p0 p1 : AV) (H : Hp) : Res := callw cfg 188 [p0, p1] H
def bc188 (p0 p1 : AV) (H : Hp) : Res :=
  bnd (extC .cmp [p0, p1] H) fun r7 =>
  some (r7.1, r7.2)
theorem ec188 (p0 p1 : AV) (H : Hp) : c188 p0 p1 H = bc188 p0 p1 H := (callw_cxm (C := cfg) (fn := Tryz.f188) (c := bodyOf Tryz.f188) (n := 8) [] Tryz.func188 (by kernel_rfl) (by kernel_rfl) [p0, p1] (by kernel_rfl) H).trans (by kernel_rfl)
theorem mc188 : L2 (bc188) (bc188) := fun _ _ _ =>
  bR fun _ => le_refl _
def rc188 : A2 := fun p0 p1 H => bc188 p0 p1 H
theorem sc188 : L2 rc188 c188 := fun _ _ H => le_eq (mc188 _ _ _) (ec188 _ _ _)
def q188 : A2 := fun p0 p1 H => flatC (callw cfg 188) [p0, p1] H
def rq188 : A2 := fun p0 p1 H => flatC (ofL2 (rc188)) [p0, p1] H
theorem sq188 : L2 rq188 q188 := fun _ _ _ => flat_le (ofL2_le (sc188)) _ _

def c151 (p0 p1 : AV) (H : Hp) : Res := callw cfg 151 [p0, p1] H
def bc151 (q188 : A2) (p0 p1 : AV) (H : Hp) : Res :=
  bnd (q188 p0 p1 H) fun r7 =>
  some (r7.1, r7.2)
theorem ec151 (p0 p1 : AV) (H : Hp) : c151 p0 p1 H = bc151 q188 p0 p1 H := (callw_cxm (C := cfg) (fn := Tryz.f151) (c := bodyOf Tryz.f151) (n := 8) [] Tryz.func151 (by kernel_rfl) (by kernel_rfl) [p0, p1] (by kernel_rfl) H).trans (by kernel_rfl)
theorem mc151 {q188 dq188 : A2} (hq188 : L2 q188 dq188) : L2 (bc151 q188) (bc151 dq188) := fun _ _ _ =>
  bC (hq188 _ _ _) fun _ => le_refl _
def rc151 : A2 := fun p0 p1 H => bc151 rq188 p0 p1 H
theorem sc151 : L2 rc151 c151 := fun _ _ H => le_eq (mc151 sq188 _ _ _) (ec151 _ _ _)
def q151 : A2 := fun p0 p1 H => flatC (callw cfg 151) [p0, p1] H
def rq151 : A2 := fun p0 p1 H => flatC (ofL2 (rc151)) [p0, p1] H
theorem sq151 : L2 rq151 q151 := fun _ _ _ => flat_le (ofL2_le (sc151)) _ _

def c106 (p0 p1 p2 : AV) (H : Hp) : Res := callw cfg 106 [p0, p1, p2] H
def j106_3 (H0 : Hp) (x1 x2 : AV) (H : Hp) : Res := CXf 106 60 (sub (bodyOf Tryz.f106) [1, 1, 1, 1, 1, 1, 1]) (retL cfg 60 106 Tryz.f106 H0) [(1, x1), (2, x2)] H
def j106_2 (H0 : Hp) (x1 x2 x8 x9 : AV) (H : Hp) : Res := CXf 106 60 (sub (bodyOf Tryz.f106) [1, 1, 1, 1, 1, 1]) (retL cfg 60 106 Tryz.f106 H0) [(1, x1), (2, x2), (8, x8), (9, x9)] H
def j106_1 (H0 : Hp) (x1 x2 x8 x9 : AV) (H : Hp) : Res := CXf 106 60 (sub (bodyOf Tryz.f106) [1, 1, 1, 1, 1]) (retL cfg 60 106 Tryz.f106 H0) [(1, x1), (2, x2), (8, x8), (9, x9)] H
def k106_1 (H0 : Hp) : KL := seqL (fun k al H => CXf 106 60 (sub (bodyOf Tryz.f106) [1, 1, 1, 1, 1]) k (trimL (cfg.keep 106) (sub (bodyOf Tryz.f106) [1, 1, 1, 1, 1]) al) H) (retL cfg 60 106 Tryz.f106 H0)
theorem k106_1_tame (H0 : Hp) : Tame 60 (k106_1 H0) := tame_seq (C := cfg) (kp := cfg.keep 106) (sub (bodyOf Tryz.f106) [1, 1, 1, 1, 1]) (tame_ret 106 Tryz.f106 H0)
def j106_5 (H0 : Hp) (x1 x2 x8 x9 x24 x25 : AV) (H : Hp) : Res := CXf 106 60 (sub (bodyOf Tryz.f106) [1, 1, 1, 1, 0, 1, 0, 0, 1, 1, 1]) (seqL (fun k al H => LPf 106 60 (sub (bodyOf Tryz.f106) [1, 1, 1, 1, 0, 1, 0, 0]) k (trimL (cfg.keep 106) (sub (bodyOf Tryz.f106) [1, 1, 1, 1, 0, 1, 0, 0]) al) H) (blockL 0 (k106_1 H0))) [(1, x1), (2, x2), (8, x8), (9, x9), (24, x24), (25, x25)] H
def k106_2 (H0 : Hp) : KL := seqL (fun k al H => CXf 106 60 (sub (bodyOf Tryz.f106) [1, 1, 1, 1, 0, 1, 0, 0, 1, 1, 1]) k (trimL (cfg.keep 106) (sub (bodyOf Tryz.f106) [1, 1, 1, 1, 0, 1, 0, 0, 1, 1, 1]) al) H) (seqL (fun k al H => LPf 106 60 (sub (bodyOf Tryz.f106) [1, 1, 1, 1, 0, 1, 0, 0]) k (trimL (cfg.keep 106) (sub (bodyOf Tryz.f106) [1, 1, 1, 1, 0, 1, 0, 0]) al) H) (blockL 0 (k106_1 H0)))
def j106_6 (H0 : Hp) (x1 x2 x8 x9 x10 x24 x25 : AV) (H : Hp) : Res := CXf 106 60 (sub (bodyOf Tryz.f106) [1, 1, 1, 1, 0, 1, 0, 0, 1, 1, 0, 0, 1, 1]) (blockL 1 (k106_2 H0)) [(1, x1), (2, x2), (8, x8), (9, x9), (10, x10), (24, x24), (25, x25)] H
def j106_4 (H0 : Hp) (x1 x2 x8 x9 x24 x25 x26 : AV) (H : Hp) : Res := CXf 106 60 (sub (bodyOf Tryz.f106) [1, 1, 1, 1, 0, 1, 0, 0, 1, 1]) (seqL (fun k al H => LPf 106 60 (sub (bodyOf Tryz.f106) [1, 1, 1, 1, 0, 1, 0, 0]) k (trimL (cfg.keep 106) (sub (bodyOf Tryz.f106) [1, 1, 1, 1, 0, 1, 0, 0]) al) H) (blockL 0 (k106_1 H0))) [(1, x1), (2, x2), (8, x8), (9, x9), (24, x24), (25, x25), (26, x26)] H
def j106_l1 (H0 : Hp) (x1 x2 x8 x9 x24 x25 : AV) (H : Hp) : Res := LPf 106 60 (sub (bodyOf Tryz.f106) [1, 1, 1, 1, 0, 1, 0, 0]) (blockL 0 (k106_1 H0)) [(1, x1), (2, x2), (8, x8), (9, x9), (24, x24), (25, x25)] H
def b106_3 (q151 : A2) (x1 x2 : AV) (H : Hp) : Res :=
  bnd (q151 x1 x2 H) fun r59 =>
  some (r59.1, r59.2)
theorem e106_3 (H0 : Hp) (x1 x2 : AV) (H : Hp) : j106_3 H0 x1 x2 H = b106_3 q151 x1 x2 H := (CXM_eq [6, 9, 11, 12, 14, 16] _ _ _ _).trans (by kernel_rfl)
theorem m106_3 {q151 dq151 : A2} (hq151 : L2 q151 dq151) : L2 (b106_3 q151) (b106_3 dq151) := fun _ _ _ =>
  bC (hq151 _ _ _) fun _ => le_refl _
def b106_2 (j106_3 : A2) (x1 x2 x8 x9 : AV) (H : Hp) : Res :=
  bnd (alenD (.slice 3) x8) fun t53 =>
  bnd (alenD (.slice 3) x9) fun t55 =>
  bnd (ibin .gtr t53 t55) fun t56 =>
  cnd t56
    (some ((.int .i64 1), H))
    (j106_3 x1 x2 H)
theorem e106_2 (H0 : Hp) (x1 x2 x8 x9 : AV) (H : Hp) : j106_2 H0 x1 x2 x8 x9 H = b106_2 (j106_3 H0) x1 x2 x8 x9 H := (CXM_eq [6, 9, 11, 12, 14, 16] _ _ _ _).trans (by kernel_rfl)
theorem m106_2 {j106_3 dj106_3 : A2} (hj106_3 : L2 j106_3 dj106_3) : L4 (b106_2 j106_3) (b106_2 dj106_3) := fun _ _ _ _ _ =>
  bR fun _ => bR fun _ => bR fun _ => bK (le_refl _) (hj106_3 _ _ _)
def b106_1 (j106_2 : A4) (x1 x2 x8 x9 : AV) (H : Hp) : Res :=
  bnd (alenD (.slice 3) x8) fun t48 =>
  bnd (alenD (.slice 3) x9) fun t50 =>
  bnd (ibin .lss t48 t50) fun t51 =>
  cnd t51
    (some ((.int .i64 (-1)), H))
    (j106_2 x1 x2 x8 x9 H)
theorem e106_1 (H0 : Hp) (x1 x2 x8 x9 : AV) (H : Hp) : j106_1 H0 x1 x2 x8 x9 H = b106_1 (j106_2 H0) x1 x2 x8 x9 H := (CXM_eq [6, 9, 11, 12, 14, 16] _ _ _ _).trans (by kernel_rfl)
theorem m106_1 {j106_2 dj106_2 : A4} (hj106_2 : L4 j106_2 dj106_2) : L4 (b106_1 j106_2) (b106_1 dj106_2) := fun _ _ _ _ _ =>
  bR fun _ => bR fun _ => bR fun _ => bK (le_refl _) (hj106_2 _ _ _ _ _)
def b106_5 (j106_l1 : A6) (x1 x2 x8 x9 x24 x25 : AV) (H : Hp) : Res :=
  bnd (ibin .add x25 (.int .i64 1)) fun t46 =>
  j106_l1 x1 x2 x8 x9 x24 t46 H
theorem e106_5 (H0 : Hp) (x1 x2 x8 x9 x24 x25 : AV) (H : Hp) : j106_5 H0 x1 x2 x8 x9 x24 x25 H = b106_5 (j106_l1 H0) x1 x2 x8 x9 x24 x25 H := (CXM_eq [6, 9, 11, 12, 14, 16] _ _ _ _).trans (by kernel_rfl)
theorem m106_5 {j106_l1 dj106_l1 : A6} (hj106_l1 : L6 j106_l1 dj106_l1) : L6 (b106_5 j106_l1) (b106_5 dj106_l1) := fun _ _ _ _ _ _ _ =>
  bR fun _ => hj106_l1 _ _ _ _ _ _ _
def b106_6 (j106_5 : A6) (x1 x2 x8 x9 x10 x24 x25 : AV) (H : Hp) : Res :=
  bnd (aindexS 1 x8 x10) fun t39 =>
  bnd (aload false 1 t39 H) fun t40 =>
  bnd (aindexS 1 x9 x10) fun t43 =>
  bnd (aload false 1 t43 H) fun t44 =>
  bnd (ibin .gtr t40 t44) fun t45 =>
  cnd t45
    (some ((.int .i64 1), H))
    (j106_5 x1 x2 x8 x9 x24 x25 H)
theorem e106_6 (H0 : Hp) (x1 x2 x8 x9 x10 x24 x25 : AV) (H : Hp) : j106_6 H0 x1 x2 x8 x9 x10 x24 x25 H = b106_6 (j106_5 H0) x1 x2 x8 x9 x10 x24 x25 H := (CXM_eq [6, 9, 11, 12, 14, 16] _ _ _ _).trans (by kernel_rfl)
theorem m106_6 {j106_5 dj106_5 : A6} (hj106_5 : L6 j106_5 dj106_5) : L7 (b106_6 j106_5) (b106_6 dj106_5) := fun _ _ _ _ _ _ _ _ =>
  bR fun _ => bR fun _ => bR fun _ => bR fun _ => bR fun _ => bK (le_refl _) (hj106_5 _ _ _ _ _ _ _)
def b106_4 (j106_6 : A7) (x1 x2 x8 x9 x24 x25 x26 : AV) (H : Hp) : Res :=
  bnd (aindexS 1 x8 x25) fun t30 =>
  bnd (aload false 1 t30 H) fun t31 =>
  bnd (aindexS 1 x9 x25) fun t34 =>
  bnd (aload false 1 t34 H) fun t35 =>
  bnd (ibin .lss t31 t35) fun t36 =>
  cnd t36
    (some ((.int .i64 (-1)), H))
    (j106_6 x1 x2 x8 x9 x25 x24 x25 H)
theorem e106_4 (H0 : Hp) (x1 x2 x8 x9 x24 x25 x26 : AV) (H : Hp) : j106_4 H0 x1 x2 x8 x9 x24 x25 x26 H = b106_4 (j106_6 H0) x1 x2 x8 x9 x24 x25 x26 H := (CXM_eq [6, 9, 11, 12, 14, 16] _ _ _ _).trans (by kernel_rfl)
theorem m106_4 {j106_6 dj106_6 : A7} (hj106_6 : L7 j106_6 dj106_6) : L7 (b106_4 j106_6) (b106_4 dj106_6) := fun _ _ _ _ _ _ _ _ =>
  bR fun _ => bR fun _ => bR fun _ => bR fun _ => bR fun _ => bK (le_refl _) (hj106_6 _ _ _ _ _ _ _ _)
def b106_l1 (j106_1 : A4) (j106_4 : A7) (x1 x2 x8 x9 x24 x25 : AV) (H : Hp) : Res :=
  bnd (ibin .lss x25 x24) fun t26 =>
  cnd t26
    (j106_4 x1 x2 x8 x9 x24 x25 t26 H)
    (j106_1 x1 x2 x8 x9 H)
theorem e106_l1 (H0 : Hp) (x1 x2 x8 x9 x24 x25 : AV) (H : Hp) : j106_l1 H0 x1 x2 x8 x9 x24 x25 H = b106_l1 (j106_1 H0) (j106_4 H0) x1 x2 x8 x9 x24 x25 H := (LPL_eqm (C := cfg) [6, 9, 11, 12, 14, 16] (tame_block 0 (k106_1_tame H0)) _ _).trans (by kernel_rfl)
theorem m106_l1 {j106_1 dj106_1 : A4} (hj106_1 : L4 j106_1 dj106_1) {j106_4 dj106_4 : A7} (hj106_4 : L7 j106_4 dj106_4) : L6 (b106_l1 j106_1 j106_4) (b106_l1 dj106_1 dj106_4) := fun _ _ _ _ _ _ _ =>
  bR fun _ => bK (hj106_4 _ _ _ _ _ _ _ _) (hj106_1 _ _ _ _ _)
def rj106_3 (gV : AV → List AV → Hp → Res) : A2 := b106_3 rq151
theorem sj106_3 (H0 : Hp) {gV : AV → List AV → Hp → Res} (hV : LV gV (acall cfg (callw cfg))) : L2 (rj106_3 gV) (j106_3 H0) := fun _ _ _ => le_eq (m106_3 sq151 _ _ _) (e106_3 H0 _ _ _)
def rj106_2 (gV : AV → List AV → Hp → Res) : A4 := b106_2 (rj106_3 gV)
theorem sj106_2 (H0 : Hp) {gV : AV → List AV → Hp → Res} (hV : LV gV (acall cfg (callw cfg))) : L4 (rj106_2 gV) (j106_2 H0) := fun _ _ _ _ _ => le_eq (m106_2 (sj106_3 H0 hV) _ _ _ _ _) (e106_2 H0 _ _ _ _ _)
def rj106_1 (gV : AV → List AV → Hp → Res) : A4 := b106_1 (rj106_2 gV)
theorem sj106_1 (H0 : Hp) {gV : AV → List AV → Hp → Res} (hV : LV gV (acall cfg (callw cfg))) : L4 (rj106_1 gV) (j106_1 H0) := fun _ _ _ _ _ => le_eq (m106_1 (sj106_2 H0 hV) _ _ _ _ _) (e106_1 H0 _ _ _ _ _)
def rj106_5 (gV : AV → List AV → Hp → Res) (j106_l1 : A6) : A6 := b106_5 j106_l1
theorem sj106_5 (H0 : Hp) {gV : AV → List AV → Hp → Res} (hV : LV gV (acall cfg (callw cfg))) {yj106_l1 : A6} (hj106_l1 : L6 yj106_l1 (j106_l1 H0)) : L6 (rj106_5 gV yj106_l1) (j106_5 H0) := fun _ _ _ _ _ _ _ => le_eq (m106_5 hj106_l1 _ _ _ _ _ _ _) (e106_5 H0 _ _ _ _ _ _ _)
def rj106_6 (gV : AV → List AV → Hp → Res) (j106_l1 : A6) : A7 := b106_6 (rj106_5 gV j106_l1)
theorem sj106_6 (H0 : Hp) {gV : AV → List AV → Hp → Res} (hV : LV gV (acall cfg (callw cfg))) {yj106_l1 : A6} (hj106_l1 : L6 yj106_l1 (j106_l1 H0)) : L7 (rj106_6 gV yj106_l1) (j106_6 H0) := fun _ _ _ _ _ _ _ _ => le_eq (m106_6 (sj106_5 H0 hV hj106_l1) _ _ _ _ _ _ _ _) (e106_6 H0 _ _ _ _ _ _ _ _)
def rj106_4 (gV : AV → List AV → Hp → Res) (j106_l1 : A6) : A7 := b106_4 (rj106_6 gV j106_l1)
theorem sj106_4 (H0 : Hp) {gV : AV → List AV → Hp → Res} (hV : LV gV (acall cfg (callw cfg))) {yj106_l1 : A6} (hj106_l1 : L6 yj106_l1 (j106_l1 H0)) : L7 (rj106_4 gV yj106_l1) (j106_4 H0) := fun _ _ _ _ _ _ _ _ => le_eq (m106_4 (sj106_6 H0 hV hj106_l1) _ _ _ _ _ _ _ _) (e106_4 H0 _ _ _ _ _ _ _ _)
def rj106_l1 (gV : AV → List AV → Hp → Res) (n : Nat) : A6 := @Nat.rec (fun _ => A6) (fun _ _ _ _ _ _ _ => none) (fun _ j106_l1 => b106_l1 (rj106_1 gV) (rj106_4 gV j106_l1)) n
theorem sj106_l1 (H0 : Hp) {gV : AV → List AV → Hp → Res} (hV : LV gV (acall cfg (callw cfg))) (n : Nat) : L6 (rj106_l1 gV n) (j106_l1 H0) := by
  induction n with
  | zero => exact fun _ _ _ _ _ _ _ => le_none _
  | succ n hj106_l1 => exact fun _ _ _ _ _ _ _ => le_eq (m106_l1 (sj106_1 H0 hV) (sj106_4 H0 hV hj106_l1) _ _ _ _ _ _ _) (e106_l1 H0 _ _ _ _ _ _ _)
def bc106 (q147 : A1) (j106_l1 : A6) (cV : AV → List AV → Hp → Res) (p0 p1 p2 : AV) (H : Hp) : Res :=
  bnd (abox p0 H) fun r3 =>
  bnd (aload true 6 r3.1 r3.2) fun t11 =>
  bnd (q147 t11 r3.2) fun r12 =>
  bnd (astoreU 6 r3.1 r12.1 r12.2) fun r_4 =>
  frzK r3.1 r_4.2 fun z3 z3H =>
  bnd (some (.fn (.func 148) [] [z3])) fun t13 =>
  bnd (qC cfg cV t13 [p1] z3H) fun r16 =>
  bnd (cV t13 [p2] r16.2) fun r19 =>
  bnd (alenD (.slice 3) r16.1) fun t21 =>
  bnd (alenD (.slice 3) r19.1) fun t23 =>
  bnd (amin2 t21 t23) fun t24 =>
  j106_l1 p1 p2 r16.1 r19.1 t24 (.int .i64 0) r19.2
theorem ec106 (p0 p1 p2 : AV) (H : Hp) : c106 p0 p1 p2 H = bc106 q147 (j106_l1 H) (acall cfg (callw cfg)) p0 p1 p2 H := (callw_cxm (C := cfg) (fn := Tryz.f106) (c := bodyOf Tryz.f106) (n := 60) [6, 9, 11, 12, 14, 16] Tryz.func106 (by kernel_rfl) (by kernel_rfl) [p0, p1, p2] (by kernel_rfl) H).trans (by kernel_rfl)
theorem mc106 {q147 dq147 : A1} (hq147 : L1 q147 dq147) {j106_l1 dj106_l1 : A6} (hj106_l1 : L6 j106_l1 dj106_l1) {cV dcV : AV → List AV → Hp → Res} (hcV : LV cV dcV) : L3 (bc106 q147 j106_l1 cV) (bc106 dq147 dj106_l1 dcV) := fun _ _ _ _ =>
  bR fun _ => bR fun _ => bC (hq147 _ _) fun _ => bR fun _ => bF fun _ _ => bR fun _ => bC (qC_le hcV _ _ _) fun _ => bC (hcV _ _ _) fun _ => bR fun _ => bR fun _ => bR fun _ => hj106_l1 _ _ _ _ _ _ _
def rc106 (gV : AV → List AV → Hp → Res) : A3 := fun p0 p1 p2 H => bc106 rq147 (rj106_l1 gV 100000) gV p0 p1 p2 H
theorem sc106 {gV : AV → List AV → Hp → Res} (hV : LV gV (acall cfg (callw cfg))) : L3 (rc106 gV) c106 := fun _ _ _ H => le_eq (mc106 sq147 (sj106_l1 H hV 100000) hV _ _ _ _) (ec106 _ _ _ _)
def q106 : A3 := fun p0 p1 p2 H => flatC (callw cfg 106) [p0, p1, p2] H
def rq106 (gV : AV → List AV → Hp → Res) : A3 := fun p0 p1 p2 H => flatC (ofL3 (rc106 gV)) [p0, p1, p2] H
theorem sq106 {gV : AV → List AV → Hp → Res} (hV : LV gV (acall cfg (callw cfg))) : L3 (rq106 gV) q106 := fun _ _ _ _ => flat_le (ofL3_le (sc106 hV)) _ _

def c189 (p0 : AV) (H : Hp) : Res := callw cfg 189 [p0] H
def j189_1 (H0 : Hp) (x3 : AV) (H : Hp) : Res := CXf 189 23 (sub (bodyOf Tryz.f189) [1, 1, 1]) (retL cfg 23 189 Tryz.f189 H0) [(3, x3)] H
def k189_1 (H0 : Hp) : KL := seqL (fun k al H => CXf 189 23 (sub (bodyOf Tryz.f189) [1, 1, 1]) k (trimL (cfg.keep 189) (sub (bodyOf Tryz.f189) [1, 1, 1]) al) H) (retL cfg 23 189 Tryz.f189 H0)
theorem k189_1_tame (H0 : Hp) : Tame 23 (k189_1 H0) := tame_seq (C := cfg) (kp := cfg.keep 189) (sub (bodyOf Tryz.f189) [1, 1, 1]) (tame_ret 189 Tryz.f189 H0)
def j189_2 (H0 : Hp) (x0 x3 : AV) (H : Hp) : Res := CXf 189 23 (sub (bodyOf Tryz.f189) [1, 1, 0, 0, 0, 1]) (seqL (fun k al H => LPf 189 23 (sub (bodyOf Tryz.f189) [1, 1, 0, 0, 0]) k (trimL (cfg.keep 189) (sub (bodyOf Tryz.f189) [1, 1, 0, 0, 0]) al) H) (blockL 0 (k189_1 H0))) [(0, x0), (3, x3)] H
def j189_l1 (H0 : Hp) (x0 x3 : AV) (H : Hp) : Res := LPf 189 23 (sub (bodyOf Tryz.f189) [1, 1, 0, 0, 0]) (blockL 0 (k189_1 H0)) [(0, x0), (3, x3)] H
def b189_1 (x3 : AV) (H : Hp) : Res :=
  some (x3, H)
theorem e189_1 (H0 : Hp) (x3 : AV) (H : Hp) : j189_1 H0 x3 H = b189_1 x3 H := (CXM_eq [3, 4] _ _ _ _).trans (by kernel_rfl)
theorem m189_1 : L1 (b189_1) (b189_1) := fun _ _ =>
  le_refl _
def b189_2 (j189_l1 : A2) (x0 x3 : AV) (H : Hp) : Res :=
  bnd (ibin .add x3 (.int .i64 1)) fun t21 =>
  j189_l1 x0 t21 H
theorem e189_2 (H0 : Hp) (x0 x3 : AV) (H : Hp) : j189_2 H0 x0 x3 H = b189_2 (j189_l1 H0) x0 x3 H := (CXM_eq [3, 4] _ _ _ _).trans (by kernel_rfl)
theorem m189_2 {j189_l1 dj189_l1 : A2} (hj189_l1 : L2 j189_l1 dj189_l1) : L2 (b189_2 j189_l1) (b189_2 dj189_l1) := fun _ _ _ =>
  bR fun _ => hj189_l1 _ _ _
def b189_l1 (j189_1 : A1) (j189_2 : A2) (x0 x3 : AV) (H : Hp) : Res :=
  bnd (alenD .string x0) fun t6 =>
  bnd (ibin .lss x3 t6) fun t7 =>
  bnd (gdv t7 true (.tuple []) (some x0)) fun t9 =>
  bnd (gdv t7 true (.tuple []) (some x3)) fun t10 =>
  bnd (gdv t7 true (.tuple []) (aindexStr t9 t10)) fun t11 =>
  bnd (gdv t7 true (.tuple []) (ibin .geq t11 (.int .u8 48))) fun t12 =>
  bnd (apick t7 t12 (.bool false)) fun t13 =>
  bnd (gdv t13 true (.tuple []) (some x0)) fun t15 =>
  bnd (gdv t13 true (.tuple []) (some x3)) fun t16 =>
  bnd (gdv t13 true (.tuple []) (aindexStr t15 t16)) fun t17 =>
  bnd (gdv t13 true (.tuple []) (ibin .leq t17 (.int .u8 57))) fun t18 =>
  bnd (apick t13 t18 (.bool false)) fun t19 =>
  cnd t19
    (j189_2 x0 x3 H)
    (j189_1 x3 H)
theorem e189_l1 (H0 : Hp) (x0 x3 : AV) (H : Hp) : j189_l1 H0 x0 x3 H = b189_l1 (j189_1 H0) (j189_2 H0) x0 x3 H := (LPL_eqm (C := cfg) [3, 4] (tame_block 0 (k189_1_tame H0)) _ _).trans (by kernel_rfl)
theorem m189_l1 {j189_1 dj189_1 : A1} (hj189_1 : L1 j189_1 dj189_1) {j189_2 dj189_2 : A2} (hj189_2 : L2 j189_2 dj189_2) : L2 (b189_l1 j189_1 j189_2) (b189_l1 dj189_1 dj189_2) := fun _ _ _ =>
  bR fun _ => bR fun _ => bR fun _ => bR fun _ => bR fun _ => bR fun _ => bR fun _ => bR fun _ => bR fun _ => bR fun _ => bR fun _ => bR fun _ => bK (hj189_2 _ _ _) (hj189_1 _ _)
def rj189_1 : A1 := b189_1
theorem sj189_1 (H0 : Hp) : L1 (rj189_1) (j189_1 H0) := fun _ _ => le_eq (m189_1 _ _) (e189_1 H0 _ _)
def rj189_2 (j189_l1 : A2) : A2 := b189_2 j189_l1
theorem sj189_2 (H0 : Hp) {yj189_l1 : A2} (hj189_l1 : L2 yj189_l1 (j189_l1 H0)) : L2 (rj189_2 yj189_l1) (j189_2 H0) := fun _ _ _ => le_eq (m189_2 hj189_l1 _ _ _) (e189_2 H0 _ _ _)
def rj189_l1 (n : Nat) : A2 := @Nat.rec (fun _ => A2) (fun _ _ _ => none) (fun _ j189_l1 => b189_l1 (rj189_1) (rj189_2 j189_l1)) n
theorem sj189_l1 (H0 : Hp) (n : Nat) : L2 (rj189_l1 n) (j189_l1 H0) := by
  induction n with
  | zero => exact fun _ _ _ => le_none _
  | succ n hj189_l1 => exact fun _ _ _ => le_eq (m189_l1 (sj189_1 H0) (sj189_2 H0 hj189_l1) _ _ _) (e189_l1 H0 _ _ _)
def bc189 (j189_l1 : A2) (p0 : AV) (H : Hp) : Res :=
  j189_l1 p0 (.int .i64 0) H
theorem ec189 (p0 : AV) (H : Hp) : c189 p0 H = bc189 (j189_l1 H) p0 H := (callw_cxm (C := cfg) (fn := Tryz.f189) (c := bodyOf Tryz.f189) (n := 23) [3, 4] Tryz.func189 (by kernel_rfl) (by kernel_rfl) [p0] (by kernel_rfl) H).trans (by kernel_rfl)
theorem mc189 {j189_l1 dj189_l1 : A2} (hj189_l1 : L2 j189_l1 dj189_l1) : L1 (bc189 j189_l1) (bc189 dj189_l1) := fun _ _ =>
  hj189_l1 _ _ _
def rc189 : A1 := fun p0 H => bc189 (rj189_l1 100000) p0 H
theorem sc189 : L1 rc189 c189 := fun _ H => le_eq (mc189 (sj189_l1 H 100000) _ _) (ec189 _ _)
def q189 : A1 := fun p0 H => flatC (callw cfg 189) [p0] H
def rq189 : A1 := fun p0 H => flatC (ofL1 (rc189)) [p0] H
theorem sq189 : L1 rq189 q189 := fun _ _ => flat_le (ofL1_le (sc189)) _ _

def c226 (p0 : AV) (H : Hp) : Res := callw cfg 226 [p0] H
def j226_1 (H0 : Hp) (x3 : AV) (H : Hp) : Res := CXf 226 23 (sub (bodyOf Tryz.f226) [1, 1, 1]) (retL cfg 23 226 Tryz.f226 H0) [(3, x3)] H
def k226_1 (H0 : Hp) : KL := seqL (fun k al H => CXf 226 23 (sub (bodyOf Tryz.f226) [1, 1, 1]) k (trimL (cfg.keep 226) (sub (bodyOf Tryz.f226) [1, 1, 1]) al) H) (retL cfg 23 226 Tryz.f226 H0)
theorem k226_1_tame (H0 : Hp) : Tame 23 (k226_1 H0) := tame_seq (C := cfg) (kp := cfg.keep 226) (sub (bodyOf Tryz.f226) [1, 1, 1]) (tame_ret 226 Tryz.f226 H0)
def j226_3 (H0 : Hp) (x0 x3 x5 : AV) (H : Hp) : Res := CXf 226 23 (sub (bodyOf Tryz.f226) [1, 1, 0, 1, 0, 0, 1, 1, 1]) (seqL (fun k al H => LPf 226 23 (sub (bodyOf Tryz.f226) [1, 1, 0, 1, 0, 0]) k (trimL (cfg.keep 226) (sub (bodyOf Tryz.f226) [1, 1, 0, 1, 0, 0]) al) H) (blockL 0 (k226_1 H0))) [(0, x0), (3, x3), (5, x5)] H
def j226_2 (H0 : Hp) (x0 x3 x5 x6 : AV) (H : Hp) : Res := CXf 226 23 (sub (bodyOf Tryz.f226) [1, 1, 0, 1, 0, 0, 1, 1]) (seqL (fun k al H => LPf 226 23 (sub (bodyOf Tryz.f226) [1, 1, 0, 1, 0, 0]) k (trimL (cfg.keep 226) (sub (bodyOf Tryz.f226) [1, 1, 0, 1, 0, 0]) al) H) (blockL 0 (k226_1 H0))) [(0, x0), (3, x3), (5, x5), (6, x6)] H
def j226_l1 (H0 : Hp) (x0 x3 x5 : AV) (H : Hp) : Res := LPf 226 23 (sub (bodyOf Tryz.f226) [1, 1, 0, 1, 0, 0]) (blockL 0 (k226_1 H0)) [(0, x0), (3, x3), (5, x5)] H
def b226_1 (x3 : AV) (H : Hp) : Res :=
  some (x3, H)
theorem e226_1 (H0 : Hp) (x3 : AV) (H : Hp) : j226_1 H0 x3 H = b226_1 x3 H := (CXM_eq [4, 8, 9] _ _ _ _).trans (by kernel_rfl)
theorem m226_1 : L1 (b226_1) (b226_1) := fun _ _ =>
  le_refl _
def b226_3 (j226_l1 : A3) (x0 x3 x5 : AV) (H : Hp) : Res :=
  bnd (ibin .add x5 (.int .i64 1)) fun t21 =>
  j226_l1 x0 x3 t21 H
theorem e226_3 (H0 : Hp) (x0 x3 x5 : AV) (H : Hp) : j226_3 H0 x0 x3 x5 H = b226_3 (j226_l1 H0) x0 x3 x5 H := (CXM_eq [4, 8, 9] _ _ _ _).trans (by kernel_rfl)
theorem m226_3 {j226_l1 dj226_l1 : A3} (hj226_l1 : L3 j226_l1 dj226_l1) : L3 (b226_3 j226_l1) (b226_3 dj226_l1) := fun _ _ _ _ =>
  bR fun _ => hj226_l1 _ _ _ _
def b226_2 (j226_3 : A3) (x0 x3 x5 x6 : AV) (H : Hp) : Res :=
  bnd (ibin .mul x3 (.int .i64 10)) fun t9 =>
  bnd (alenD .string x0) fun t12 =>
  bnd (ibin .lss x5 t12) fun t13 =>
  cnd t13
    (bnd (aindexStr x0 x5) fun t17 =>
    bnd (ibin .sub t17 (.int .u8 48)) fun t18 =>
    bnd (cvInt .i64 t18) fun t19 =>
    bnd (ibin .add t9 t19) fun t20 =>
    j226_3 x0 t20 x5 H)
    (j226_3 x0 t9 x5 H)
theorem e226_2 (H0 : Hp) (x0 x3 x5 x6 : AV) (H : Hp) : j226_2 H0 x0 x3 x5 x6 H = b226_2 (j226_3 H0) x0 x3 x5 x6 H := (CXM_eq [4, 8, 9] _ _ _ _).trans (by kernel_rfl)
theorem m226_2 {j226_3 dj226_3 : A3} (hj226_3 : L3 j226_3 dj226_3) : L4 (b226_2 j226_3) (b226_2 dj226_3) := fun _ _ _ _ _ =>
  bR fun _ => bR fun _ => bR fun _ => bK (bR fun _ => bR fun _ => bR fun _ => bR fun _ => hj226_3 _ _ _ _) (hj226_3 _ _ _ _)
def b226_l1 (j226_1 : A1) (j226_2 : A4) (x0 x3 x5 : AV) (H : Hp) : Res :=
  bnd (ibin .lss x5 (.int .i64 4)) fun t6 =>
  cnd t6
    (j226_2 x0 x3 x5 t6 H)
    (j226_1 x3 H)
theorem e226_l1 (H0 : Hp) (x0 x3 x5 : AV) (H : Hp) : j226_l1 H0 x0 x3 x5 H = b226_l1 (j226_1 H0) (j226_2 H0) x0 x3 x5 H := (LPL_eqm (C := cfg) [4, 8, 9] (tame_block 0 (k226_1_tame H0)) _ _).trans (by kernel_rfl)
theorem m226_l1 {j226_1 dj226_1 : A1} (hj226_1 : L1 j226_1 dj226_1) {j226_2 dj226_2 : A4} (hj226_2 : L4 j226_2 dj226_2) : L3 (b226_l1 j226_1 j226_2) (b226_l1 dj226_1 dj226_2) := fun _ _ _ _ =>
  bR fun _ => bK (hj226_2 _ _ _ _ _) (hj226_1 _ _)
def rj226_1 : A1 := b226_1
theorem sj226_1 (H0 : Hp) : L1 (rj226_1) (j226_1 H0) := fun _ _ => le_eq (m226_1 _ _) (e226_1 H0 _ _)
def rj226_3 (j226_l1 : A3) : A3 := b226_3 j226_l1
theorem sj226_3 (H0 : Hp) {yj226_l1 : A3} (hj226_l1 : L3 yj226_l1 (j226_l1 H0)) : L3 (rj226_3 yj226_l1) (j226_3 H0) := fun _ _ _ _ => le_eq (m226_3 hj226_l1 _ _ _ _) (e226_3 H0 _ _ _ _)
def rj226_2 (j226_l1 : A3) : A4 := b226_2 (rj226_3 j226_l1)
theorem sj226_2 (H0 : Hp) {yj226_l1 : A3} (hj226_l1 : L3 yj226_l1 (j226_l1 H0)) : L4 (rj226_2 yj226_l1) (j226_2 H0) := fun _ _ _ _ _ => le_eq (m226_2 (sj226_3 H0 hj226_l1) _ _ _ _ _) (e226_2 H0 _ _ _ _ _)
def rj226_l1 (n : Nat) : A3 := @Nat.rec (fun _ => A3) (fun _ _ _ _ => none) (fun _ j226_l1 => b226_l1 (rj226_1) (rj226_2 j226_l1)) n
theorem sj226_l1 (H0 : Hp) (n : Nat) : L3 (rj226_l1 n) (j226_l1 H0) := by
  induction n with
  | zero => exact fun _ _ _ _ => le_none _
  | succ n hj226_l1 => exact fun _ _ _ _ => le_eq (m226_l1 (sj226_1 H0) (sj226_2 H0 hj226_l1) _ _ _ _) (e226_l1 H0 _ _ _ _)
def bc226 (j226_l1 : A3) (p0 : AV) (H : Hp) : Res :=
  j226_l1 p0 (.int .i64 0) (.int .i64 0) H
theorem ec226 (p0 : AV) (H : Hp) : c226 p0 H = bc226 (j226_l1 H) p0 H := (callw_cxm (C := cfg) (fn := Tryz.f226) (c := bodyOf Tryz.f226) (n := 23) [4, 8, 9] Tryz.func226 (by kernel_rfl) (by kernel_rfl) [p0] (by kernel_rfl) H).trans (by kernel_rfl)
theorem mc226 {j226_l1 dj226_l1 : A3} (hj226_l1 : L3 j226_l1 dj226_l1) : L1 (bc226 j226_l1) (bc226 dj226_l1) := fun _ _ =>
  hj226_l1 _ _ _ _
def rc226 : A1 := fun p0 H => bc226 (rj226_l1 100000) p0 H
theorem sc226 : L1 rc226 c226 := fun _ H => le_eq (mc226 (sj226_l1 H 100000) _ _) (ec226 _ _)
def q226 : A1 := fun p0 H => flatC (callw cfg 226) [p0] H
def rq226 : A1 := fun p0 H => flatC (ofL1 (rc226)) [p0] H
theorem sq226 : L1 rq226 q226 := fun _ _ => flat_le (ofL1_le (sc226)) _ _

def c190 (p0 p1 : AV) (H : Hp) : Res := callw cfg 190 [p0, p1] H
def j190_1 (H0 : Hp) (x1 x5 : AV) (H : Hp) : Res := CXf 190 29 (sub (bodyOf Tryz.f190) [1, 1, 1]) (retL cfg 29 190 Tryz.f190 H0) [(1, x1), (5, x5)] H
def k190_1 (H0 : Hp) : KL := seqL (fun k al H => CXf 190 29 (sub (bodyOf Tryz.f190) [1, 1, 1]) k (trimL (cfg.keep 190) (sub (bodyOf Tryz.f190) [1, 1, 1]) al) H) (retL cfg 29 190 Tryz.f190 H0)
theorem k190_1_tame (H0 : Hp) : Tame 29 (k190_1 H0) := tame_seq (C := cfg) (kp := cfg.keep 190) (sub (bodyOf Tryz.f190) [1, 1, 1]) (tame_ret 190 Tryz.f190 H0)
def j190_3 (H0 : Hp) (x0 x1 x5 x8 x9 : AV) (H : Hp) : Res := CXf 190 29 (sub (bodyOf Tryz.f190) [1, 1, 0, 1, 0, 0, 1, 1, 1]) (seqL (fun k al H => LPf 190 29 (sub (bodyOf Tryz.f190) [1, 1, 0, 1, 0, 0]) k (trimL (cfg.keep 190) (sub (bodyOf Tryz.f190) [1, 1, 0, 1, 0, 0]) al) H) (blockL 0 (k190_1 H0))) [(0, x0), (1, x1), (5, x5), (8, x8), (9, x9)] H
def j190_2 (H0 : Hp) (x0 x1 x5 x8 x9 x10 : AV) (H : Hp) : Res := CXf 190 29 (sub (bodyOf Tryz.f190) [1, 1, 0, 1, 0, 0, 1, 1]) (seqL (fun k al H => LPf 190 29 (sub (bodyOf Tryz.f190) [1, 1, 0, 1, 0, 0]) k (trimL (cfg.keep 190) (sub (bodyOf Tryz.f190) [1, 1, 0, 1, 0, 0]) al) H) (blockL 0 (k190_1 H0))) [(0, x0), (1, x1), (5, x5), (8, x8), (9, x9), (10, x10)] H
def j190_l1 (H0 : Hp) (x0 x1 x5 x8 x9 : AV) (H : Hp) : Res := LPf 190 29 (sub (bodyOf Tryz.f190) [1, 1, 0, 1, 0, 0]) (blockL 0 (k190_1 H0)) [(0, x0), (1, x1), (5, x5), (8, x8), (9, x9)] H
def b190_1 (q226 : A1) (x1 x5 : AV) (H : Hp) : Res :=
  bnd (ibin .mul x5 (.int .i64 10000)) fun t24 =>
  bnd (q226 x1 H) fun r26 =>
  bnd (ibin .add t24 r26.1) fun t27 =>
  bnd (amin2 (.int .i64 10000000000001) t27) fun t28 =>
  some (t28, r26.2)
theorem e190_1 (H0 : Hp) (x1 x5 : AV) (H : Hp) : j190_1 H0 x1 x5 H = b190_1 q226 x1 x5 H := (CXM_eq [4, 8, 9] _ _ _ _).trans (by kernel_rfl)
theorem m190_1 {q226 dq226 : A1} (hq226 : L1 q226 dq226) : L2 (b190_1 q226) (b190_1 dq226) := fun _ _ _ =>
  bR fun _ => bC (hq226 _ _) fun _ => bR fun _ => bR fun _ => le_refl _
def b190_3 (j190_l1 : A5) (x0 x1 x5 x8 x9 : AV) (H : Hp) : Res :=
  bnd (ibin .add x9 (.int .i64 1)) fun t22 =>
  j190_l1 x0 x1 x5 x8 t22 H
theorem e190_3 (H0 : Hp) (x0 x1 x5 x8 x9 : AV) (H : Hp) : j190_3 H0 x0 x1 x5 x8 x9 H = b190_3 (j190_l1 H0) x0 x1 x5 x8 x9 H := (CXM_eq [4, 8, 9] _ _ _ _).trans (by kernel_rfl)
theorem m190_3 {j190_l1 dj190_l1 : A5} (hj190_l1 : L5 j190_l1 dj190_l1) : L5 (b190_3 j190_l1) (b190_3 dj190_l1) := fun _ _ _ _ _ _ =>
  bR fun _ => hj190_l1 _ _ _ _ _ _
def b190_2 (j190_3 : A5) (x0 x1 x5 x8 x9 x10 : AV) (H : Hp) : Res :=
  bnd (ibin .mul (.int .i64 10) x5) fun t13 =>
  bnd (aindexStr x0 x9) fun t16 =>
  bnd (ibin .sub t16 (.int .u8 48)) fun t17 =>
  bnd (cvInt .i64 t17) fun t18 =>
  bnd (ibin .add t13 t18) fun t19 =>
  bnd (ibin .gtr t19 (.int .i64 1000000000)) fun t21 =>
  cnd t21
    (some ((.int .i64 10000000000001), H))
    (j190_3 x0 x1 t19 x8 x9 H)
theorem e190_2 (H0 : Hp) (x0 x1 x5 x8 x9 x10 : AV) (H : Hp) : j190_2 H0 x0 x1 x5 x8 x9 x10 H = b190_2 (j190_3 H0) x0 x1 x5 x8 x9 x10 H := (CXM_eq [4, 8, 9] _ _ _ _).trans (by kernel_rfl)
theorem m190_2 {j190_3 dj190_3 : A5} (hj190_3 : L5 j190_3 dj190_3) : L6 (b190_2 j190_3) (b190_2 dj190_3) := fun _ _ _ _ _ _ _ =>
  bR fun _ => bR fun _ => bR fun _ => bR fun _ => bR fun _ => bR fun _ => bK (le_refl _) (hj190_3 _ _ _ _ _ _)
def b190_l1 (j190_1 : A2) (j190_2 : A6) (x0 x1 x5 x8 x9 : AV) (H : Hp) : Res :=
  bnd (ibin .lss x9 x8) fun t10 =>
  cnd t10
    (j190_2 x0 x1 x5 x8 x9 t10 H)
    (j190_1 x1 x5 H)
theorem e190_l1 (H0 : Hp) (x0 x1 x5 x8 x9 : AV) (H : Hp) : j190_l1 H0 x0 x1 x5 x8 x9 H = b190_l1 (j190_1 H0) (j190_2 H0) x0 x1 x5 x8 x9 H := (LPL_eqm (C := cfg) [4, 8, 9] (tame_block 0 (k190_1_tame H0)) _ _).trans (by kernel_rfl)
theorem m190_l1 {j190_1 dj190_1 : A2} (hj190_1 : L2 j190_1 dj190_1) {j190_2 dj190_2 : A6} (hj190_2 : L6 j190_2 dj190_2) : L5 (b190_l1 j190_1 j190_2) (b190_l1 dj190_1 dj190_2) := fun _ _ _ _ _ _ =>
  bR fun _ => bK (hj190_2 _ _ _ _ _ _ _) (hj190_1 _ _ _)
def rj190_1 : A2 := b190_1 rq226
theorem sj190_1 (H0 : Hp) : L2 (rj190_1) (j190_1 H0) := fun _ _ _ => le_eq (m190_1 sq226 _ _ _) (e190_1 H0 _ _ _)
def rj190_3 (j190_l1 : A5) : A5 := b190_3 j190_l1
theorem sj190_3 (H0 : Hp) {yj190_l1 : A5} (hj190_l1 : L5 yj190_l1 (j190_l1 H0)) : L5 (rj190_3 yj190_l1) (j190_3 H0) := fun _ _ _ _ _ _ => le_eq (m190_3 hj190_l1 _ _ _ _ _ _) (e190_3 H0 _ _ _ _ _ _)
def rj190_2 (j190_l1 : A5) : A6 := b190_2 (rj190_3 j190_l1)
theorem sj190_2 (H0 : Hp) {yj190_l1 : A5} (hj190_l1 : L5 yj190_l1 (j190_l1 H0)) : L6 (rj190_2 yj190_l1) (j190_2 H0) := fun _ _ _ _ _ _ _ => le_eq (m190_2 (sj190_3 H0 hj190_l1) _ _ _ _ _ _ _) (e190_2 H0 _ _ _ _ _ _ _)
def rj190_l1 (n : Nat) : A5 := @Nat.rec (fun _ => A5) (fun _ _ _ _ _ _ => none) (fun _ j190_l1 => b190_l1 (rj190_1) (rj190_2 j190_l1)) n
theorem sj190_l1 (H0 : Hp) (n : Nat) : L5 (rj190_l1 n) (j190_l1 H0) := by
  induction n with
  | zero => exact fun _ _ _ _ _ _ => le_none _
  | succ n hj190_l1 => exact fun _ _ _ _ _ _ => le_eq (m190_l1 (sj190_1 H0) (sj190_2 H0 hj190_l1) _ _ _ _ _ _) (e190_l1 H0 _ _ _ _ _ _)
def bc190 (j190_l1 : A5) (p0 p1 : AV) (H : Hp) : Res :=
  bnd (alenD .string p0) fun t8 =>
  j190_l1 p0 p1 (.int .i64 0) t8 (.int .i64 0) H
theorem ec190 (p0 p1 : AV) (H : Hp) : c190 p0 p1 H = bc190 (j190_l1 H) p0 p1 H := (callw_cxm (C := cfg) (fn := Tryz.f190) (c := bodyOf Tryz.f190) (n := 29) [4, 8, 9] Tryz.func190 (by kernel_rfl) (by kernel_rfl) [p0, p1] (by kernel_rfl) H).trans (by kernel_rfl)
theorem mc190 {j190_l1 dj190_l1 : A5} (hj190_l1 : L5 j190_l1 dj190_l1) : L2 (bc190 j190_l1) (bc190 dj190_l1) := fun _ _ _ =>
  bR fun _ => hj190_l1 _ _ _ _ _ _
def rc190 : A2 := fun p0 p1 H => bc190 (rj190_l1 100000) p0 p1 H
theorem sc190 : L2 rc190 c190 := fun _ _ H => le_eq (mc190 (sj190_l1 H 100000) _ _ _) (ec190 _ _ _)
def q190 : A2 := fun p0 p1 H => flatC (callw cfg 190) [p0, p1] H
def rq190 : A2 := fun p0 p1 H => flatC (ofL2 (rc190)) [p0, p1] H
theorem sq190 : L2 rq190 q190 := fun _ _ _ => flat_le (ofL2_le (sc190)) _ _

def c152 (p0 : AV) (H : Hp) : Res := callw cfg 152 [p0] H
def j152_5 (H0 : Hp) (x9 x11 : AV) (H : Hp) : Res := CXf 152 116 (sub (bodyOf Tryz.f152) [1, 1, 1, 1, 1, 1, 1, 1, 1, 1, 1]) (retL cfg 116 152 Tryz.f152 H0) [(9, x9), (11, x11)] H
def j152_4 (H0 : Hp) (x5 x7 x8 x9 : AV) (H : Hp) : Res := CXf 152 116 (sub (bodyOf Tryz.f152) [1, 1, 1, 1, 1, 1, 1, 1, 1]) (retL cfg 116 152 Tryz.f152 H0) [(5, x5), (7, x7), (8, x8), (9, x9)] H
def j152_3 (H0 : Hp) (x5 x6 x7 x8 x9 : AV) (H : Hp) : Res := CXf 152 116 (sub (bodyOf Tryz.f152) [1, 1, 1, 1, 1, 1, 1, 1]) (retL cfg 116 152 Tryz.f152 H0) [(5, x5), (6, x6), (7, x7), (8, x8), (9, x9)] H
def j152_2 (H0 : Hp) (x0 x4 x5 : AV) (H : Hp) : Res := CXf 152 116 (sub (bodyOf Tryz.f152) [1, 1, 1, 1, 1]) (retL cfg 116 152 Tryz.f152 H0) [(0, x0), (4, x4), (5, x5)] H
def j152_1 (H0 : Hp) (x0 x4 : AV) (H : Hp) : Res := CXf 152 116 (sub (bodyOf Tryz.f152) [1, 1, 1]) (retL cfg 116 152 Tryz.f152 H0) [(0, x0), (4, x4)] H
def k152_1 (H0 : Hp) : KL := seqL (fun k al H => CXf 152 116 (sub (bodyOf Tryz.f152) [1, 1, 1]) k (trimL (cfg.keep 152) (sub (bodyOf Tryz.f152) [1, 1, 1]) al) H) (retL cfg 116 152 Tryz.f152 H0)
theorem k152_1_tame (H0 : Hp) : Tame 116 (k152_1 H0) := tame_seq (C := cfg) (kp := cfg.keep 152) (sub (bodyOf Tryz.f152) [1, 1, 1]) (tame_ret 152 Tryz.f152 H0)
def j152_6 (H0 : Hp) (x0 x4 : AV) (H : Hp) : Res := CXf 152 116 (sub (bodyOf Tryz.f152) [1, 1, 0, 0, 0, 1]) (seqL (fun k al H => LPf 152 116 (sub (bodyOf Tryz.f152) [1, 1, 0, 0, 0]) k (trimL (cfg.keep 152) (sub (bodyOf Tryz.f152) [1, 1, 0, 0, 0]) al) H) (blockL 0 (k152_1 H0))) [(0, x0), (4, x4)] H
def j152_l1 (H0 : Hp) (x0 x4 : AV) (H : Hp) : Res := LPf 152 116 (sub (bodyOf Tryz.f152) [1, 1, 0, 0, 0]) (blockL 0 (k152_1 H0)) [(0, x0), (4, x4)] H
def b152_5 (x9 x11 : AV) (H : Hp) : Res :=
  some ((.tuple [x11, x9]), H)
theorem e152_5 (H0 : Hp) (x9 x11 : AV) (H : Hp) : j152_5 H0 x9 x11 H = b152_5 x9 x11 H := (CXM_eq [3, 4, 7, 14, 16, 19] _ _ _ _).trans (by kernel_rfl)
theorem m152_5 : L2 (b152_5) (b152_5) := fun _ _ _ =>
  le_refl _
def b152_4 (q190 : A2) (j152_5 : A2) (x5 x7 x8 x9 : AV) (H : Hp) : Res :=
  bnd (q190 x7 x8 H) fun r109 =>
  bnd (amin2 (.int .i64 10000000000000) r109.1) fun t110 =>
  cnd x5
    (bnd (aun .neg t110) fun t113 =>
    j152_5 x9 t113 r109.2)
    (j152_5 x9 t110 r109.2)
theorem e152_4 (H0 : Hp) (x5 x7 x8 x9 : AV) (H : Hp) : j152_4 H0 x5 x7 x8 x9 H = b152_4 q190 (j152_5 H0) x5 x7 x8 x9 H := (CXM_eq [3, 4, 7, 14, 16, 19] _ _ _ _).trans (by kernel_rfl)
theorem m152_4 {q190 dq190 : A2} (hq190 : L2 q190 dq190) {j152_5 dj152_5 : A2} (hj152_5 : L2 j152_5 dj152_5) : L4 (b152_4 q190 j152_5) (b152_4 dq190 dj152_5) := fun _ _ _ _ _ =>
  bC (hq190 _ _ _) fun _ => bR fun _ => bK (bR fun _ => hj152_5 _ _ _) (hj152_5 _ _ _)
def b152_3 (j152_4 : A4) (x5 x6 x7 x8 x9 : AV) (H : Hp) : Res :=
  bnd (ibin .eql x6 (.int .i64 0)) fun t102 =>
  bnd (gdv t102 true (.tuple []) (some x8)) fun t104 =>
  bnd (gdv t102 true (.tuple []) (sbin .eql t104 (.str []))) fun t105 =>
  bnd (apick t102 t105 (.bool false)) fun t106 =>
  cnd t106
    (some ((.tuple [(.int .i64 0), (.int .i64 0)]), H))
    (j152_4 x5 x7 x8 x9 H)
theorem e152_3 (H0 : Hp) (x5 x6 x7 x8 x9 : AV) (H : Hp) : j152_3 H0 x5 x6 x7 x8 x9 H = b152_3 (j152_4 H0) x5 x6 x7 x8 x9 H := (CXM_eq [3, 4, 7, 14, 16, 19] _ _ _ _).trans (by kernel_rfl)
theorem m152_3 {j152_4 dj152_4 : A4} (hj152_4 : L4 j152_4 dj152_4) : L5 (b152_3 j152_4) (b152_3 dj152_4) := fun _ _ _ _ _ _ =>
  bR fun _ => bR fun _ => bR fun _ => bR fun _ => bK (le_refl _) (hj152_4 _ _ _ _ _)
def b152_2 (q189 : A1) (j152_3 : A5) (x0 x4 x5 : AV) (H : Hp) : Res :=
  bnd (asliceS x0 (some x4) none none) fun t57 =>
  bnd (q189 t57 H) fun r58 =>
  bnd (ibin .add x4 r58.1) fun t63 =>
  bnd (asliceS x0 (some x4) (some t63) none) fun t64 =>
  bnd (ibin .add x4 r58.1) fun t67 =>
  bnd (alenD .string x0) fun t70 =>
  bnd (ibin .lss t67 t70) fun t71 =>
  bnd (gdv t71 true (.tuple []) (some x0)) fun t73 =>
  bnd (gdv t71 true (.tuple []) (some t67)) fun t74 =>
  bnd (gdv t71 true (.tuple []) (aindexStr t73 t74)) fun t75 =>
  bnd (gdv t71 true (.tuple []) (ibin .eql t75 (.int .u8 46))) fun t76 =>
  bnd (apick t71 t76 (.bool false)) fun t77 =>
  cnd t77
    (bnd (ibin .add t67 (.int .i64 1)) fun t80 =>
    bnd (asliceS x0 (some t80) none none) fun t81 =>
    bnd (q189 t81 r58.2) fun r82 =>
    bnd (ibin .gtr r58.1 (.int .i64 0)) fun t84 =>
    bnd (gdv t84 false (.tuple []) (some r82.1)) fun t86 =>
    bnd (gdv t84 false (.tuple []) (ibin .gtr t86 (.int .i64 0))) fun t87 =>
    bnd (apick t84 (.bool true) t87) fun t88 =>
    cnd t88
      (bnd (ibin .add t67 (.int .i64 1)) fun t91 =>
      bnd (ibin .add t67 (.int .i64 1)) fun t93 =>
      bnd (ibin .add t93 r82.1) fun t95 =>
      bnd (asliceS x0 (some t91) (some t95) none) fun t96 =>
      bnd (ibin .add (.int .i64 1) r82.1) fun t99 =>
      bnd (ibin .add t67 t99) fun t100 =>
      j152_3 x5 r58.1 t64 t96 t100 r82.2)
      (j152_3 x5 r58.1 t64 (.str []) t67 r82.2))
    (j152_3 x5 r58.1 t64 (.str []) t67 r58.2)
theorem e152_2 (H0 : Hp) (x0 x4 x5 : AV) (H : Hp) : j152_2 H0 x0 x4 x5 H = b152_2 q189 (j152_3 H0) x0 x4 x5 H := (CXM_eq [3, 4, 7, 14, 16, 19] _ _ _ _).trans (by kernel_rfl)
theorem m152_2 {q189 dq189 : A1} (hq189 : L1 q189 dq189) {j152_3 dj152_3 : A5} (hj152_3 : L5 j152_3 dj152_3) : L3 (b152_2 q189 j152_3) (b152_2 dq189 dj152_3) := fun _ _ _ _ =>
  bR fun _ => bC (hq189 _ _) fun _ => bR fun _ => bR fun _ => bR fun _ => bR fun _ => bR fun _ => bR fun _ => bR fun _ => bR fun _ => bR fun _ => bR fun _ => bK (bR fun _ => bR fun _ => bC (hq189 _ _) fun _ => bR fun _ => bR fun _ => bR fun _ => bR fun _ => bK (bR fun _ => bR fun _ => bR fun _ => bR fun _ => bR fun _ => bR fun _ => hj152_3 _ _ _ _ _ _) (hj152_3 _ _ _ _ _ _)) (hj152_3 _ _ _ _ _ _)
def b152_1 (j152_2 : A3) (x0 x4 : AV) (H : Hp) : Res :=
  bnd (alenD .string x0) fun t32 =>
  bnd (ibin .lss x4 t32) fun t33 =>
  bnd (gdv t33 true (.tuple []) (some x0)) fun t35 =>
  bnd (gdv t33 true (.tuple []) (some x4)) fun t36 =>
  bnd (gdv t33 true (.tuple []) (aindexStr t35 t36)) fun t37 =>
  bnd (gdv t33 true (.tuple []) (ibin .eql t37 (.int .u8 45))) fun t38 =>
  bnd (apick t33 t38 (.bool false)) fun t39 =>
  bnd (gdv t39 false (.tuple []) (some x4)) fun t42 =>
  bnd (gdv t39 false (.tuple []) (some x0)) fun t43 =>
  bnd (gdv t39 false (.tuple []) (alenD .string t43)) fun t44 =>
  bnd (gdv t39 false (.tuple []) (ibin .lss t42 t44)) fun t45 =>
  bnd (gdv t39 false (.tuple []) (some t45)) fun t46 =>
  bnd (gdv t46 true (.tuple []) (some x0)) fun t47 =>
  bnd (gdv t46 true (.tuple []) (some x4)) fun t48 =>
  bnd (gdv t46 true (.tuple []) (aindexStr t47 t48)) fun t49 =>
  bnd (gdv t46 true (.tuple []) (ibin .eql t49 (.int .u8 43))) fun t50 =>
  bnd (gdv t39 false (.tuple []) (apick t46 t50 (.bool false))) fun t51 =>
  bnd (apick t39 (.bool true) t51) fun t52 =>
  cnd t52
    (bnd (ibin .add x4 (.int .i64 1)) fun t54 =>
    j152_2 x0 t54 t39 H)
    (j152_2 x0 x4 t39 H)
theorem e152_1 (H0 : Hp) (x0 x4 : AV) (H : Hp) : j152_1 H0 x0 x4 H = b152_1 (j152_2 H0) x0 x4 H := (CXM_eq [3, 4, 7, 14, 16, 19] _ _ _ _).trans (by kernel_rfl)
theorem m152_1 {j152_2 dj152_2 : A3} (hj152_2 : L3 j152_2 dj152_2) : L2 (b152_1 j152_2) (b152_1 dj152_2) := fun _ _ _ =>
  bR fun _ => bR fun _ => bR fun _ => bR fun _ => bR fun _ => bR fun _ => bR fun _ => bR fun _ => bR fun _ => bR fun _ => bR fun _ => bR fun _ => bR fun _ => bR fun _ => bR fun _ => bR fun _ => bR fun _ => bR fun _ => bK (bR fun _ => hj152_2 _ _ _ _) (hj152_2 _ _ _ _)
def b152_6 (j152_l1 : A2) (x0 x4 : AV) (H : Hp) : Res :=
  bnd (ibin .add x4 (.int .i64 1)) fun t29 =>
  j152_l1 x0 t29 H
theorem e152_6 (H0 : Hp) (x0 x4 : AV) (H : Hp) : j152_6 H0 x0 x4 H = b152_6 (j152_l1 H0) x0 x4 H := (CXM_eq [3, 4, 7, 14, 16, 19] _ _ _ _).trans (by kernel_rfl)
theorem m152_6 {j152_l1 dj152_l1 : A2} (hj152_l1 : L2 j152_l1 dj152_l1) : L2 (b152_6 j152_l1) (b152_6 dj152_l1) := fun _ _ _ =>
  bR fun _ => hj152_l1 _ _ _
def b152_l1 (j152_1 : A2) (j152_6 : A2) (x0 x4 : AV) (H : Hp) : Res :=
  bnd (alenD .string x0) fun t14 =>
  bnd (ibin .lss x4 t14) fun t15 =>
  bnd (gdv t15 true (.tuple []) (some x0)) fun t17 =>
  bnd (gdv t15 true (.tuple []) (some x4)) fun t18 =>
  bnd (gdv t15 true (.tuple []) (aindexStr t17 t18)) fun t19 =>
  bnd (gdv t15 true (.tuple []) (ibin .eql t19 (.int .u8 32))) fun t20 =>
  bnd (gdv t15 true (.tuple []) (some t20)) fun t21 =>
  bnd (gdv t21 false (.tuple []) (some x0)) fun t22 =>
  bnd (gdv t21 false (.tuple []) (some x4)) fun t23 =>
  bnd (gdv t21 false (.tuple []) (aindexStr t22 t23)) fun t24 =>
  bnd (gdv t21 false (.tuple []) (ibin .eql t24 (.int .u8 9))) fun t25 =>
  bnd (gdv t15 true (.tuple []) (apick t21 (.bool true) t25)) fun t26 =>
  bnd (apick t15 t26 (.bool false)) fun t27 =>
  cnd t27
    (j152_6 x0 x4 H)
    (j152_1 x0 x4 H)
theorem e152_l1 (H0 : Hp) (x0 x4 : AV) (H : Hp) : j152_l1 H0 x0 x4 H = b152_l1 (j152_1 H0) (j152_6 H0) x0 x4 H := (LPL_eqm (C := cfg) [3, 4, 7, 14, 16, 19] (tame_block 0 (k152_1_tame H0)) _ _).trans (by kernel_rfl)
theorem m152_l1 {j152_1 dj152_1 : A2} (hj152_1 : L2 j152_1 dj152_1) {j152_6 dj152_6 : A2} (hj152_6 : L2 j152_6 dj152_6) : L2 (b152_l1 j152_1 j152_6) (b152_l1 dj152_1 dj152_6) := fun _ _ _ =>
  bR fun _ => bR fun _ => bR fun _ => bR fun _ => bR fun _ => bR fun _ => bR fun _ => bR fun _ => bR fun _ => bR fun _ => bR fun _ => bR fun _ => bR fun _ => bK (hj152_6 _ _ _) (hj152_1 _ _ _)
def rj152_5 : A2 := b152_5
theorem sj152_5 (H0 : Hp) : L2 (rj152_5) (j152_5 H0) := fun _ _ _ => le_eq (m152_5 _ _ _) (e152_5 H0 _ _ _)
def rj152_4 : A4 := b152_4 rq190 (rj152_5)
theorem sj152_4 (H0 : Hp) : L4 (rj152_4) (j152_4 H0) := fun _ _ _ _ _ => le_eq (m152_4 sq190 (sj152_5 H0) _ _ _ _ _) (e152_4 H0 _ _ _ _ _)
def rj152_3 : A5 := b152_3 (rj152_4)
theorem sj152_3 (H0 : Hp) : L5 (rj152_3) (j152_3 H0) := fun _ _ _ _ _ _ => le_eq (m152_3 (sj152_4 H0) _ _ _ _ _ _) (e152_3 H0 _ _ _ _ _ _)
def rj152_2 : A3 := b152_2 rq189 (rj152_3)
theorem sj152_2 (H0 : Hp) : L3 (rj152_2) (j152_2 H0) := fun _ _ _ _ => le_eq (m152_2 sq189 (sj152_3 H0) _ _ _ _) (e152_2 H0 _ _ _ _)
def rj152_1 : A2 := b152_1 (rj152_2)
theorem sj152_1 (H0 : Hp) : L2 (rj152_1) (j152_1 H0) := fun _ _ _ => le_eq (m152_1 (sj152_2 H0) _ _ _) (e152_1 H0 _ _ _)
def rj152_6 (j152_l1 : A2) : A2 := b152_6 j152_l1
theorem sj152_6 (H0 : Hp) {yj152_l1 : A2} (hj152_l1 : L2 yj152_l1 (j152_l1 H0)) : L2 (rj152_6 yj152_l1) (j152_6 H0) := fun _ _ _ => le_eq (m152_6 hj152_l1 _ _ _) (e152_6 H0 _ _ _)
def rj152_l1 (n : Nat) : A2 := @Nat.rec (fun _ => A2) (fun _ _ _ => none) (fun _ j152_l1 => b152_l1 (rj152_1) (rj152_6 j152_l1)) n
theorem sj152_l1 (H0 : Hp) (n : Nat) : L2 (rj152_l1 n) (j152_l1 H0) := by
  induction n with
  | zero => exact fun _ _ _ => le_none _
  | succ n hj152_l1 => exact fun _ _ _ => le_eq (m152_l1 (sj152_1 H0) (sj152_6 H0 hj152_l1) _ _ _) (e152_l1 H0 _ _ _)
def bc152 (j152_l1 : A2) (p0 : AV) (H : Hp) : Res :=
  j152_l1 p0 (.int .i64 0) H
theorem ec152 (p0 : AV) (H : Hp) : c152 p0 H = bc152 (j152_l1 H) p0 H := (callw_cxm (C := cfg) (fn := Tryz.f152) (c := bodyOf Tryz.f152) (n := 116) [3, 4, 7, 14, 16, 19] Tryz.func152 (by kernel_rfl) (by kernel_rfl) [p0] (by kernel_rfl) H).trans (by kernel_rfl)
theorem mc152 {j152_l1 dj152_l1 : A2} (hj152_l1 : L2 j152_l1 dj152_l1) : L1 (bc152 j152_l1) (bc152 dj152_l1) := fun _ _ =>
  hj152_l1 _ _ _
def rc152 : A1 := fun p0 H => bc152 (rj152_l1 100000) p0 H
theorem sc152 : L1 rc152 c152 := fun _ H => le_eq (mc152 (sj152_l1 H 100000) _ _) (ec152 _ _)
def q152 : A1 := fun p0 H => flatC (callw cfg 152) [p0] H
def rq152 : A1 := fun p0 H => flatC (ofL1 (rc152)) [p0] H
theorem sq152 : L1 rq152 q152 := fun _ _ => flat_le (ofL1_le (sc152)) _ _

def c153 (p0 p1 : AV) (H : Hp) : Res := callw cfg 153 [p0, p1] H
def j153_1 (H0 : Hp) (H : Hp) : Res := CXf 153 13 (sub (bodyOf Tryz.f153) [1, 1]) (retL cfg 13 153 Tryz.f153 H0) [] H
def b153_1 (H : Hp) : Res :=
  some ((.int .i64 0), H)
theorem e153_1 (H0 : Hp) (H : Hp) : j153_1 H0 H = b153_1 H := (CXM_eq [5] _ _ _ _).trans (by kernel_rfl)
theorem m153_1 : L0 (b153_1) (b153_1) := fun _ =>
  le_refl _
def rj153_1 : A0 := b153_1
theorem sj153_1 (H0 : Hp) : L0 (rj153_1) (j153_1 H0) := fun _ => le_eq (m153_1 _) (e153_1 H0 _)
def bc153 (j153_1 : A0) (p0 p1 : AV) (H : Hp) : Res :=
  bnd (ibin .lss p0 p1) fun t8 =>
  cnd t8
    (some ((.int .i64 (-1)), H))
    (bnd (ibin .gtr p0 p1) fun t12 =>
    cnd t12
      (some ((.int .i64 1), H))
      (j153_1 H))
theorem ec153 (p0 p1 : AV) (H : Hp) : c153 p0 p1 H = bc153 (j153_1 H) p0 p1 H := (callw_cxm (C := cfg) (fn := Tryz.f153) (c := bodyOf Tryz.f153) (n := 13) [5] Tryz.func153 (by kernel_rfl) (by kernel_rfl) [p0, p1] (by kernel_rfl) H).trans (by kernel_rfl)
theorem mc153 {j153_1 dj153_1 : A0} (hj153_1 : L0 j153_1 dj153_1) : L2 (bc153 j153_1) (bc153 dj153_1) := fun _ _ _ =>
  bR fun _ => bK (le_refl _) (bR fun _ => bK (le_refl _) (hj153_1 _))
def rc153 : A2 := fun p0 p1 H => bc153 (rj153_1) p0 p1 H
theorem sc153 : L2 rc153 c153 := fun _ _ H => le_eq (mc153 (sj153_1 H) _ _ _) (ec153 _ _ _)
def q153 : A2 := fun p0 p1 H => flatC (callw cfg 153) [p0, p1] H
def rq153 : A2 := fun p0 p1 H => flatC (ofL2 (rc153)) [p0, p1] H
theorem sq153 : L2 rq153 q153 := fun _ _ _ => flat_le (ofL2_le (sc153)) _ _

def c107 (p0 p1 p2 p3 : AV) (H : Hp) : Res := callw cfg 107 [p0, p1, p2, p3] H
def j107_2 (H0 : Hp) (x4 x5 x6 x7 x9 : AV) (H : Hp) : Res := CXf 107 50 (sub (bodyOf Tryz.f107) [1, 1, 1, 1]) (retL cfg 50 107 Tryz.f107 H0) [(4, x4), (5, x5), (6, x6), (7, x7), (9, x9)] H
def j107_1 (H0 : Hp) (x4 x5 x6 x7 x9 : AV) (H : Hp) : Res := CXf 107 50 (sub (bodyOf Tryz.f107) [1, 1, 1]) (retL cfg 50 107 Tryz.f107 H0) [(4, x4), (5, x5), (6, x6), (7, x7), (9, x9)] H
def b107_2 (q106 : A3) (cV : AV → List AV → Hp → Res) (x4 x5 x6 x7 x9 : AV) (H : Hp) : Res :=
  bnd (some (.fn (.func 154) [] [x5, x6, x7])) fun t36 =>
  bnd (cV t36 [(.int .i64 8), (.fn (.func 155) [] [])] H) fun r38 =>
  bnd (cV t36 [(.int .i64 16), (.fn (.func 157) [] [])] r38.2) fun r40 =>
  frzK x4 r40.2 fun z4 z4H =>
  bnd (some (.fn (.func 158) [] [z4])) fun t42 =>
  bnd (cV t36 [(.int .i64 4), t42] z4H) fun r43 =>
  bnd (aload true 6 z4 r43.2) fun t45 =>
  bnd (aload false 1 x6 r43.2) fun t46 =>
  bnd (aload false 1 x7 r43.2) fun t47 =>
  bnd (q106 t45 t46 t47 r43.2) fun r48 =>
  bnd (ibin .mul x9 r48.1) fun t49 =>
  some (t49, r48.2)
theorem e107_2 (H0 : Hp) (x4 x5 x6 x7 x9 : AV) (H : Hp) : j107_2 H0 x4 x5 x6 x7 x9 H = b107_2 q106 (acall cfg (callw cfg)) x4 x5 x6 x7 x9 H := (CXM_eq [4, 8] _ _ _ _).trans (by kernel_rfl)
theorem m107_2 {q106 dq106 : A3} (hq106 : L3 q106 dq106) {cV dcV : AV → List AV → Hp → Res} (hcV : LV cV dcV) : L5 (b107_2 q106 cV) (b107_2 dq106 dcV) := fun _ _ _ _ _ _ =>
  bR fun _ => bC (hcV _ _ _) fun _ => bC (hcV _ _ _) fun _ => bF fun _ _ => bR fun _ => bC (hcV _ _ _) fun _ => bR fun _ => bR fun _ => bR fun _ => bC (hq106 _ _ _ _) fun _ => bR fun _ => le_refl _
def b107_1 (q152 : A1) (q153 : A2) (j107_2 : A5) (x4 x5 x6 x7 x9 : AV) (H : Hp) : Res :=
  bnd (aload false 1 x5 H) fun t18 =>
  bnd (ibin .and t18 (.int .i64 1)) fun t19 =>
  bnd (ibin .neq t19 (.int .i64 0)) fun t20 =>
  cnd t20
    (bnd (aload false 1 x6 H) fun t22 =>
    bnd (q152 t22 H) fun r23 =>
    bnd (aext r23.1 0) fun t24 =>
    bnd (aext r23.1 1) fun t25 =>
    bnd (aload false 1 x7 r23.2) fun t27 =>
    bnd (q152 t27 r23.2) fun r28 =>
    bnd (aext r28.1 0) fun t29 =>
    bnd (aext r28.1 1) fun t30 =>
    bnd (q153 t24 t29 r28.2) fun r34 =>
    bnd (ibin .mul x9 r34.1) fun t35 =>
    some (t35, r34.2))
    (j107_2 x4 x5 x6 x7 x9 H)
theorem e107_1 (H0 : Hp) (x4 x5 x6 x7 x9 : AV) (H : Hp) : j107_1 H0 x4 x5 x6 x7 x9 H = b107_1 q152 q153 (j107_2 H0) x4 x5 x6 x7 x9 H := (CXM_eq [4, 8] _ _ _ _).trans (by kernel_rfl)
theorem m107_1 {q152 dq152 : A1} (hq152 : L1 q152 dq152) {q153 dq153 : A2} (hq153 : L2 q153 dq153) {j107_2 dj107_2 : A5} (hj107_2 : L5 j107_2 dj107_2) : L5 (b107_1 q152 q153 j107_2) (b107_1 dq152 dq153 dj107_2) := fun _ _ _ _ _ _ =>
  bR fun _ => bR fun _ => bR fun _ => bK (bR fun _ => bC (hq152 _ _) fun _ => bR fun _ => bR fun _ => bR fun _ => bC (hq152 _ _) fun _ => bR fun _ => bR fun _ => bC (hq153 _ _ _) fun _ => bR fun _ => le_refl _) (hj107_2 _ _ _ _ _ _)
def rj107_2 (gV : AV → List AV → Hp → Res) : A5 := b107_2 (rq106 gV) gV
theorem sj107_2 (H0 : Hp) {gV : AV → List AV → Hp → Res} (hV : LV gV (acall cfg (callw cfg))) : L5 (rj107_2 gV) (j107_2 H0) := fun _ _ _ _ _ _ => le_eq (m107_2 (sq106 hV) hV _ _ _ _ _ _) (e107_2 H0 _ _ _ _ _ _)
def rj107_1 (gV : AV → List AV → Hp → Res) : A5 := b107_1 rq152 rq153 (rj107_2 gV)
theorem sj107_1 (H0 : Hp) {gV : AV → List AV → Hp → Res} (hV : LV gV (acall cfg (callw cfg))) : L5 (rj107_1 gV) (j107_1 H0) := fun _ _ _ _ _ _ => le_eq (m107_1 sq152 sq153 (sj107_2 H0 hV) _ _ _ _ _ _) (e107_1 H0 _ _ _ _ _ _)
def bc107 (j107_1 : A5) (p0 p1 p2 p3 : AV) (H : Hp) : Res :=
  bnd (abox p0 H) fun r4 =>
  bnd (abox p1 r4.2) fun r5 =>
  bnd (abox p2 r5.2) fun r6 =>
  bnd (abox p3 r6.2) fun r7 =>
  bnd (aload false 1 r5.1 r7.2) fun t15 =>
  bnd (ibin .and t15 (.int .i64 2)) fun t16 =>
  bnd (ibin .neq t16 (.int .i64 0)) fun t17 =>
  cnd t17
    (j107_1 r4.1 r5.1 r6.1 r7.1 (.int .i64 (-1)) r7.2)
    (j107_1 r4.1 r5.1 r6.1 r7.1 (.int .i64 1) r7.2)
theorem ec107 (p0 p1 p2 p3 : AV) (H : Hp) : c107 p0 p1 p2 p3 H = bc107 (j107_1 H) p0 p1 p2 p3 H := (callw_cxm (C := cfg) (fn := Tryz.f107) (c := bodyOf Tryz.f107) (n := 50) [4, 8] Tryz.func107 (by kernel_rfl) (by kernel_rfl) [p0, p1, p2, p3] (by kernel_rfl) H).trans (by kernel_rfl)
theorem mc107 {j107_1 dj107_1 : A5} (hj107_1 : L5 j107_1 dj107_1) : L4 (bc107 j107_1) (bc107 dj107_1) := fun _ _ _ _ _ =>
  bR fun _ => bR fun _ => bR fun _ => bR fun _ => bR fun _ => bR fun _ => bR fun _ => bK (hj107_1 _ _ _ _ _ _) (hj107_1 _ _ _ _ _ _)
def rc107 (gV : AV → List AV → Hp → Res) : A4 := fun p0 p1 p2 p3 H => bc107 (rj107_1 gV) p0 p1 p2 p3 H
theorem sc107 {gV : AV → List AV → Hp → Res} (hV : LV gV (acall cfg (callw cfg))) : L4 (rc107 gV) c107 := fun _ _ _ _ H => le_eq (mc107 (sj107_1 H hV) _ _ _ _ _) (ec107 _ _ _ _ _)
def q107 : A4 := fun p0 p1 p2 p3 H => flatC (callw cfg 107) [p0, p1, p2, p3] H
def rq107 (gV : AV → List AV → Hp → Res) : A4 := fun p0 p1 p2 p3 H => flatC (ofL4 (rc107 gV)) [p0, p1, p2, p3] H
theorem sq107 {gV : AV → List AV → Hp → Res} (hV : LV gV (acall cfg (callw cfg))) : L4 (rq107 gV) q107 := fun _ _ _ _ _ => flat_le (ofL4_le (sc107 hV)) _ _

def c195 (p0 : AV) (H : Hp) : Res := callw cfg 195 [p0] H
def bc195 (p0 : AV) (H : Hp) : Res :=
  bnd (ibin .eql p0 (.int .u8 32)) fun t4 =>
  bnd (gdv t4 false (.tuple []) (some p0)) fun t6 =>
  bnd (gdv t4 false (.tuple []) (ibin .eql t6 (.int .u8 9))) fun t7 =>
  bnd (apick t4 (.bool true) t7) fun t8 =>
  some (t8, H)
theorem ec195 (p0 : AV) (H : Hp) : c195 p0 H = bc195 p0 H := (callw_cxm (C := cfg) (fn := Tryz.f195) (c := bodyOf Tryz.f195) (n := 9) [] Tryz.func195 (by kernel_rfl) (by kernel_rfl) [p0] (by kernel_rfl) H).trans (by kernel_rfl)
theorem mc195 : L1 (bc195) (bc195) := fun _ _ =>
  bR fun _ => bR fun _ => bR fun _ => bR fun _ => le_refl _
def rc195 : A1 := fun p0 H => bc195 p0 H
theorem sc195 : L1 rc195 c195 := fun _ H => le_eq (mc195 _ _) (ec195 _ _)

def c230 (p0 p1 : AV) (H : Hp) : Res := callw cfg 230 [p0, p1] H
def bc230 (p0 p1 : AV) (H : Hp) : Res :=
  bnd (extC .indexByte [p0, p1] H) fun r7 =>
  some (r7.1, r7.2)
theorem ec230 (p0 p1 : AV) (H : Hp) : c230 p0 p1 H = bc230 p0 p1 H := (callw_cxm (C := cfg) (fn := Tryz.f230) (c := bodyOf Tryz.f230) (n := 8) [] Tryz.func230 (by kernel_rfl) (by kernel_rfl) [p0, p1] (by kernel_rfl) H).trans (by kernel_rfl)
theorem mc230 : L2 (bc230) (bc230) := fun _ _ _ =>
  bR fun _ => le_refl _
def rc230 : A2 := fun p0 p1 H => bc230 p0 p1 H
theorem sc230 : L2 rc230 c230 := fun _ _ H => le_eq (mc230 _ _ _) (ec230 _ _ _)

def c198 (p0 p1 : AV) (H : Hp) : Res := callw cfg 198 [p0, p1] H
def bc198 (c230 : A2) (p0 p1 : AV) (H : Hp) : Res :=
  bnd (c230 p0 p1 H) fun r7 =>
  some (r7.1, r7.2)
theorem ec198 (p0 p1 : AV) (H : Hp) : c198 p0 p1 H = bc198 c230 p0 p1 H := (callw_cxm (C := cfg) (fn := Tryz.f198) (c := bodyOf Tryz.f198) (n := 8) [] Tryz.func198 (by kernel_rfl) (by kernel_rfl) [p0, p1] (by kernel_rfl) H).trans (by kernel_rfl)
theorem mc198 {c230 dc230 : A2} (hc230 : L2 c230 dc230) : L2 (bc198 c230) (bc198 dc230) := fun _ _ _ =>
  bC (hc230 _ _ _) fun _ => le_refl _
def rc198 : A2 := fun p0 p1 H => bc198 rc230 p0 p1 H
theorem sc198 : L2 rc198 c198 := fun _ _ H => le_eq (mc198 sc230 _ _ _) (ec198 _ _ _)

def c160 (p0 p1 p2 : AV) (H : Hp) : Res := callw cfg 160 [p0, p1, p2] H
def j160_2 (H0 : Hp) (H : Hp) : Res := CXf 160 83 (sub (bodyOf Tryz.f160) [1, 1, 1]) (retL cfg 83 160 Tryz.f160 H0) [] H
def k160_1 (H0 : Hp) : KL := seqL (fun k al H => CXf 160 83 (sub (bodyOf Tryz.f160) [1, 1, 1]) k (trimL (cfg.keep 160) (sub (bodyOf Tryz.f160) [1, 1, 1]) al) H) (retL cfg 83 160 Tryz.f160 H0)
theorem k160_1_tame (H0 : Hp) : Tame 83 (k160_1 H0) := tame_seq (C := cfg) (kp := cfg.keep 160) (sub (bodyOf Tryz.f160) [1, 1, 1]) (tame_ret 160 Tryz.f160 H0)
def j160_4 (H0 : Hp) (x0 x1 x6 x11 : AV) (H : Hp) : Res := CXf 160 83 (sub (bodyOf Tryz.f160) [1, 1, 0, 1, 0, 0, 1, 1]) (seqL (fun k al H => LPf 160 83 (sub (bodyOf Tryz.f160) [1, 1, 0, 1, 0, 0]) k (trimL (cfg.keep 160) (sub (bodyOf Tryz.f160) [1, 1, 0, 1, 0, 0]) al) H) (blockL 2 (k160_1 H0))) [(0, x0), (1, x1), (6, x6), (11, x11)] H
def k160_2 (H0 : Hp) : KL := seqL (fun k al H => CXf 160 83 (sub (bodyOf Tryz.f160) [1, 1, 0, 1, 0, 0, 1, 1]) k (trimL (cfg.keep 160) (sub (bodyOf Tryz.f160) [1, 1, 0, 1, 0, 0, 1, 1]) al) H) (seqL (fun k al H => LPf 160 83 (sub (bodyOf Tryz.f160) [1, 1, 0, 1, 0, 0]) k (trimL (cfg.keep 160) (sub (bodyOf Tryz.f160) [1, 1, 0, 1, 0, 0]) al) H) (blockL 2 (k160_1 H0)))
theorem k160_2_tame (H0 : Hp) : Tame 83 (k160_2 H0) := tame_seq (C := cfg) (kp := cfg.keep 160) (sub (bodyOf Tryz.f160) [1, 1, 0, 1, 0, 0, 1, 1]) (tame_loop (C := cfg) (kp := cfg.keep 160) (sub (bodyOf Tryz.f160) [1, 1, 0, 1, 0, 0]) (tame_block 2 (k160_1_tame H0)))
def j160_7 (H0 : Hp) (x0 x1 x7 x11 : AV) (H : Hp) : Res := CXf 160 83 (sub (bodyOf Tryz.f160) [1, 1, 0, 1, 0, 0, 1, 0, 0, 1, 1, 1, 1]) (blockL 3 (k160_2 H0)) [(0, x0), (1, x1), (7, x7), (11, x11)] H
def j160_6 (H0 : Hp) (x0 x1 x6 x7 x11 : AV) (H : Hp) : Res := CXf 160 83 (sub (bodyOf Tryz.f160) [1, 1, 0, 1, 0, 0, 1, 0, 0, 1, 1, 1]) (blockL 3 (k160_2 H0)) [(0, x0), (1, x1), (6, x6), (7, x7), (11, x11)] H
def k160_3 (H0 : Hp) : KL := seqL (fun k al H => CXf 160 83 (sub (bodyOf Tryz.f160) [1, 1, 0, 1, 0, 0, 1, 0, 0, 1, 1, 1]) k (trimL (cfg.keep 160) (sub (bodyOf Tryz.f160) [1, 1, 0, 1, 0, 0, 1, 0, 0, 1, 1, 1]) al) H) (blockL 3 (k160_2 H0))
theorem k160_3_tame (H0 : Hp) : Tame 83 (k160_3 H0) := tame_seq (C := cfg) (kp := cfg.keep 160) (sub (bodyOf Tryz.f160) [1, 1, 0, 1, 0, 0, 1, 0, 0, 1, 1, 1]) (tame_block 3 (k160_2_tame H0))
def j160_8 (H0 : Hp) (x0 x1 x6 x7 x11 : AV) (H : Hp) : Res := CXf 160 83 (sub (bodyOf Tryz.f160) [1, 1, 0, 1, 0, 0, 1, 0, 0, 1, 1, 0, 0, 0, 1]) (seqL (fun k al H => LPf 160 83 (sub (bodyOf Tryz.f160) [1, 1, 0, 1, 0, 0, 1, 0, 0, 1, 1, 0, 0, 0]) k (trimL (cfg.keep 160) (sub (bodyOf Tryz.f160) [1, 1, 0, 1, 0, 0, 1, 0, 0, 1, 1, 0, 0, 0]) al) H) (blockL 6 (k160_3 H0))) [(0, x0), (1, x1), (6, x6), (7, x7), (11, x11)] H
def j160_l2 (H0 : Hp) (x0 x1 x6 x7 x11 : AV) (H : Hp) : Res := LPf 160 83 (sub (bodyOf Tryz.f160) [1, 1, 0, 1, 0, 0, 1, 0, 0, 1, 1, 0, 0, 0]) (blockL 6 (k160_3 H0)) [(0, x0), (1, x1), (6, x6), (7, x7), (11, x11)] H
def j160_5 (H0 : Hp) (x0 x1 x6 x7 x11 : AV) (H : Hp) : Res := CXf 160 83 (sub (bodyOf Tryz.f160) [1, 1, 0, 1, 0, 0, 1, 0, 0, 1, 1]) (blockL 3 (k160_2 H0)) [(0, x0), (1, x1), (6, x6), (7, x7), (11, x11)] H
def k160_4 (H0 : Hp) : KL := seqL (fun k al H => CXf 160 83 (sub (bodyOf Tryz.f160) [1, 1, 0, 1, 0, 0, 1, 0, 0, 1, 1]) k (trimL (cfg.keep 160) (sub (bodyOf Tryz.f160) [1, 1, 0, 1, 0, 0, 1, 0, 0, 1, 1]) al) H) (blockL 3 (k160_2 H0))
theorem k160_4_tame (H0 : Hp) : Tame 83 (k160_4 H0) := tame_seq (C := cfg) (kp := cfg.keep 160) (sub (bodyOf Tryz.f160) [1, 1, 0, 1, 0, 0, 1, 0, 0, 1, 1]) (tame_block 3 (k160_2_tame H0))
def j160_9 (H0 : Hp) (x0 x1 x6 x7 x11 : AV) (H : Hp) : Res := CXf 160 83 (sub (bodyOf Tryz.f160) [1, 1, 0, 1, 0, 0, 1, 0, 0, 1, 0, 0, 0, 1]) (seqL (fun k al H => LPf 160 83 (sub (bodyOf Tryz.f160) [1, 1, 0, 1, 0, 0, 1, 0, 0, 1, 0, 0, 0]) k (trimL (cfg.keep 160) (sub (bodyOf Tryz.f160) [1, 1, 0, 1, 0, 0, 1, 0, 0, 1, 0, 0, 0]) al) H) (blockL 4 (k160_4 H0))) [(0, x0), (1, x1), (6, x6), (7, x7), (11, x11)] H
def j160_l3 (H0 : Hp) (x0 x1 x6 x7 x11 : AV) (H : Hp) : Res := LPf 160 83 (sub (bodyOf Tryz.f160) [1, 1, 0, 1, 0, 0, 1, 0, 0, 1, 0, 0, 0]) (blockL 4 (k160_4 H0)) [(0, x0), (1, x1), (6, x6), (7, x7), (11, x11)] H
def j160_3 (H0 : Hp) (x0 x1 x6 x11 : AV) (H : Hp) : Res := CXf 160 83 (sub (bodyOf Tryz.f160) [1, 1, 0, 1, 0, 0, 1]) (seqL (fun k al H => LPf 160 83 (sub (bodyOf Tryz.f160) [1, 1, 0, 1, 0, 0]) k (trimL (cfg.keep 160) (sub (bodyOf Tryz.f160) [1, 1, 0, 1, 0, 0]) al) H) (blockL 2 (k160_1 H0))) [(0, x0), (1, x1), (6, x6), (11, x11)] H
def j160_l1 (H0 : Hp) (x0 x1 x6 x11 : AV) (H : Hp) : Res := LPf 160 83 (sub (bodyOf Tryz.f160) [1, 1, 0, 1, 0, 0]) (blockL 2 (k160_1 H0)) [(0, x0), (1, x1), (6, x6), (11, x11)] H
def j160_1 (H0 : Hp) (x0 x1 x6 : AV) (H : Hp) : Res := CXf 160 83 (sub (bodyOf Tryz.f160) [1, 1]) (retL cfg 83 160 Tryz.f160 H0) [(0, x0), (1, x1), (6, x6)] H
def k160_5 (H0 : Hp) : KL := seqL (fun k al H => CXf 160 83 (sub (bodyOf Tryz.f160) [1, 1]) k (trimL (cfg.keep 160) (sub (bodyOf Tryz.f160) [1, 1]) al) H) (retL cfg 83 160 Tryz.f160 H0)
theorem k160_5_tame (H0 : Hp) : Tame 83 (k160_5 H0) := tame_seq (C := cfg) (kp := cfg.keep 160) (sub (bodyOf Tryz.f160) [1, 1]) (tame_ret 160 Tryz.f160 H0)
def j160_10 (H0 : Hp) (x0 x1 x2 x6 x9 : AV) (H : Hp) : Res := CXf 160 83 (sub (bodyOf Tryz.f160) [1, 0, 1, 0, 1, 0, 0, 1]) (seqL (fun k al H => LPf 160 83 (sub (bodyOf Tryz.f160) [1, 0, 1, 0, 1, 0, 0]) k (trimL (cfg.keep 160) (sub (bodyOf Tryz.f160) [1, 0, 1, 0, 1, 0, 0]) al) H) (blockL 0 (k160_5 H0))) [(0, x0), (1, x1), (2, x2), (6, x6), (9, x9)] H
def k160_6 (H0 : Hp) : KL := seqL (fun k al H => CXf 160 83 (sub (bodyOf Tryz.f160) [1, 0, 1, 0, 1, 0, 0, 1]) k (trimL (cfg.keep 160) (sub (bodyOf Tryz.f160) [1, 0, 1, 0, 1, 0, 0, 1]) al) H) (seqL (fun k al H => LPf 160 83 (sub (bodyOf Tryz.f160) [1, 0, 1, 0, 1, 0, 0]) k (trimL (cfg.keep 160) (sub (bodyOf Tryz.f160) [1, 0, 1, 0, 1, 0, 0]) al) H) (blockL 0 (k160_5 H0)))
def j160_12 (H0 : Hp) (x0 x1 x2 x6 x9 x10 : AV) (H : Hp) : Res := CXf 160 83 (sub (bodyOf Tryz.f160) [1, 0, 1, 0, 1, 0, 0, 0, 0, 1, 1, 1]) (blockL 1 (k160_6 H0)) [(0, x0), (1, x1), (2, x2), (6, x6), (9, x9), (10, x10)] H
def j160_11 (H0 : Hp) (x0 x1 x2 x6 x9 x10 : AV) (H : Hp) : Res := CXf 160 83 (sub (bodyOf Tryz.f160) [1, 0, 1, 0, 1, 0, 0, 0, 0, 1, 1]) (blockL 1 (k160_6 H0)) [(0, x0), (1, x1), (2, x2), (6, x6), (9, x9), (10, x10)] H
def j160_l4 (H0 : Hp) (x0 x1 x2 x6 x9 : AV) (H : Hp) : Res := LPf 160 83 (sub (bodyOf Tryz.f160) [1, 0, 1, 0, 1, 0, 0]) (blockL 0 (k160_5 H0)) [(0, x0), (1, x1), (2, x2), (6, x6), (9, x9)] H
def b160_2 (H : Hp) : Res :=
  some ((.tuple [(.int .i64 0), (.int .i64 0), (.bool false)]), H)
theorem e160_2 (H0 : Hp) (H : Hp) : j160_2 H0 H = b160_2 H := (CXM_eq [3, 7, 9, 10, 12, 13, 15, 16, 17, 18, 20, 21] _ _ _ _).trans (by kernel_rfl)
theorem m160_2 : L0 (b160_2) (b160_2) := fun _ =>
  le_refl _
def b160_4 (j160_l1 : A4) (x0 x1 x6 x11 : AV) (H : Hp) : Res :=
  bnd (ibin .add x11 (.int .i64 1)) fun t50 =>
  j160_l1 x0 x1 x6 t50 H
theorem e160_4 (H0 : Hp) (x0 x1 x6 x11 : AV) (H : Hp) : j160_4 H0 x0 x1 x6 x11 H = b160_4 (j160_l1 H0) x0 x1 x6 x11 H := (CXM_eq [3, 7, 9, 10, 12, 13, 15, 16, 17, 18, 20, 21] _ _ _ _).trans (by kernel_rfl)
theorem m160_4 {j160_l1 dj160_l1 : A4} (hj160_l1 : L4 j160_l1 dj160_l1) : L4 (b160_4 j160_l1) (b160_4 dj160_l1) := fun _ _ _ _ _ =>
  bR fun _ => hj160_l1 _ _ _ _ _
def b160_7 (j160_4 : A4) (x0 x1 x7 x11 : AV) (H : Hp) : Res :=
  j160_4 x0 x1 x7 x11 H
theorem e160_7 (H0 : Hp) (x0 x1 x7 x11 : AV) (H : Hp) : j160_7 H0 x0 x1 x7 x11 H = b160_7 (j160_4 H0) x0 x1 x7 x11 H := (CXM_eq [3, 7, 9, 10, 12, 13, 15, 16, 17, 18, 20, 21] _ _ _ _).trans (by kernel_rfl)
theorem m160_7 {j160_4 dj160_4 : A4} (hj160_4 : L4 j160_4 dj160_4) : L4 (b160_7 j160_4) (b160_7 dj160_4) := fun _ _ _ _ _ =>
  hj160_4 _ _ _ _ _
def b160_6 (j160_7 : A4) (x0 x1 x6 x7 x11 : AV) (H : Hp) : Res :=
  bnd (ibin .eql x11 x1) fun t79 =>
  cnd t79
    (some ((.tuple [x6, x7, (.bool true)]), H))
    (j160_7 x0 x1 x7 x11 H)
theorem e160_6 (H0 : Hp) (x0 x1 x6 x7 x11 : AV) (H : Hp) : j160_6 H0 x0 x1 x6 x7 x11 H = b160_6 (j160_7 H0) x0 x1 x6 x7 x11 H := (CXM_eq [3, 7, 9, 10, 12, 13, 15, 16, 17, 18, 20, 21] _ _ _ _).trans (by kernel_rfl)
theorem m160_6 {j160_7 dj160_7 : A4} (hj160_7 : L4 j160_7 dj160_7) : L5 (b160_6 j160_7) (b160_6 dj160_7) := fun _ _ _ _ _ _ =>
  bR fun _ => bK (le_refl _) (hj160_7 _ _ _ _ _)
def b160_8 (j160_l2 : A5) (x0 x1 x6 x7 x11 : AV) (H : Hp) : Res :=
  bnd (ibin .add x7 (.int .i64 1)) fun t76 =>
  j160_l2 x0 x1 x6 t76 x11 H
theorem e160_8 (H0 : Hp) (x0 x1 x6 x7 x11 : AV) (H : Hp) : j160_8 H0 x0 x1 x6 x7 x11 H = b160_8 (j160_l2 H0) x0 x1 x6 x7 x11 H := (CXM_eq [3, 7, 9, 10, 12, 13, 15, 16, 17, 18, 20, 21] _ _ _ _).trans (by kernel_rfl)
theorem m160_8 {j160_l2 dj160_l2 : A5} (hj160_l2 : L5 j160_l2 dj160_l2) : L5 (b160_8 j160_l2) (b160_8 dj160_l2) := fun _ _ _ _ _ _ =>
  bR fun _ => hj160_l2 _ _ _ _ _ _
def b160_l2 (c195 : A1) (j160_6 : A5) (j160_8 : A5) (x0 x1 x6 x7 x11 : AV) (H : Hp) : Res :=
  bnd (alenD .string x0) fun t66 =>
  bnd (ibin .lss x7 t66) fun t67 =>
  bnd (gdv t67 true (.tuple []) (some x0)) fun t69 =>
  bnd (gdv t67 true (.tuple []) (some x7)) fun t70 =>
  bnd (gdv t67 true (.tuple []) (aindexStr t69 t70)) fun t71 =>
  bnd (gdv t67 true ((.tuple []), H) (c195 t71 H)) fun r72 =>
  bnd (gdv t67 true (.tuple []) (aun .not r72.1)) fun t73 =>
  bnd (apick t67 t73 (.bool false)) fun t74 =>
  cnd t74
    (j160_8 x0 x1 x6 x7 x11 r72.2)
    (j160_6 x0 x1 x6 x7 x11 r72.2)
theorem e160_l2 (H0 : Hp) (x0 x1 x6 x7 x11 : AV) (H : Hp) : j160_l2 H0 x0 x1 x6 x7 x11 H = b160_l2 c195 (j160_6 H0) (j160_8 H0) x0 x1 x6 x7 x11 H := (LPL_eqm (C := cfg) [3, 7, 9, 10, 12, 13, 15, 16, 17, 18, 20, 21] (tame_block 6 (k160_3_tame H0)) _ _).trans (by kernel_rfl)
theorem m160_l2 {c195 dc195 : A1} (hc195 : L1 c195 dc195) {j160_6 dj160_6 : A5} (hj160_6 : L5 j160_6 dj160_6) {j160_8 dj160_8 : A5} (hj160_8 : L5 j160_8 dj160_8) : L5 (b160_l2 c195 j160_6 j160_8) (b160_l2 dc195 dj160_6 dj160_8) := fun _ _ _ _ _ _ =>
  bR fun _ => bR fun _ => bR fun _ => bR fun _ => bR fun _ => bG (hc195 _ _) fun _ => bR fun _ => bR fun _ => bK (hj160_8 _ _ _ _ _ _) (hj160_6 _ _ _ _ _ _)
def b160_5 (j160_l2 : A5) (x0 x1 x6 x7 x11 : AV) (H : Hp) : Res :=
  j160_l2 x0 x1 x6 x7 x11 H
theorem e160_5 (H0 : Hp) (x0 x1 x6 x7 x11 : AV) (H : Hp) : j160_5 H0 x0 x1 x6 x7 x11 H = b160_5 (j160_l2 H0) x0 x1 x6 x7 x11 H := (CXM_eq [3, 7, 9, 10, 12, 13, 15, 16, 17, 18, 20, 21] _ _ _ _).trans (by kernel_rfl)
theorem m160_5 {j160_l2 dj160_l2 : A5} (hj160_l2 : L5 j160_l2 dj160_l2) : L5 (b160_5 j160_l2) (b160_5 dj160_l2) := fun _ _ _ _ _ _ =>
  hj160_l2 _ _ _ _ _ _
def b160_9 (j160_l3 : A5) (x0 x1 x6 x7 x11 : AV) (H : Hp) : Res :=
  bnd (ibin .add x7 (.int .i64 1)) fun t63 =>
  j160_l3 x0 x1 x6 t63 x11 H
theorem e160_9 (H0 : Hp) (x0 x1 x6 x7 x11 : AV) (H : Hp) : j160_9 H0 x0 x1 x6 x7 x11 H = b160_9 (j160_l3 H0) x0 x1 x6 x7 x11 H := (CXM_eq [3, 7, 9, 10, 12, 13, 15, 16, 17, 18, 20, 21] _ _ _ _).trans (by kernel_rfl)
theorem m160_9 {j160_l3 dj160_l3 : A5} (hj160_l3 : L5 j160_l3 dj160_l3) : L5 (b160_9 j160_l3) (b160_9 dj160_l3) := fun _ _ _ _ _ _ =>
  bR fun _ => hj160_l3 _ _ _ _ _ _
def b160_l3 (c195 : A1) (j160_5 : A5) (j160_9 : A5) (x0 x1 x6 x7 x11 : AV) (H : Hp) : Res :=
  bnd (alenD .string x0) fun t54 =>
  bnd (ibin .lss x7 t54) fun t55 =>
  bnd (gdv t55 true (.tuple []) (some x0)) fun t57 =>
  bnd (gdv t55 true (.tuple []) (some x7)) fun t58 =>
  bnd (gdv t55 true (.tuple []) (aindexStr t57 t58)) fun t59 =>
  bnd (gdv t55 true ((.tuple []), H) (c195 t59 H)) fun r60 =>
  bnd (apick t55 r60.1 (.bool false)) fun t61 =>
  cnd t61
    (j160_9 x0 x1 x6 x7 x11 r60.2)
    (j160_5 x0 x1 x6 x7 x11 r60.2)
theorem e160_l3 (H0 : Hp) (x0 x1 x6 x7 x11 : AV) (H : Hp) : j160_l3 H0 x0 x1 x6 x7 x11 H = b160_l3 c195 (j160_5 H0) (j160_9 H0) x0 x1 x6 x7 x11 H := (LPL_eqm (C := cfg) [3, 7, 9, 10, 12, 13, 15, 16, 17, 18, 20, 21] (tame_block 4 (k160_4_tame H0)) _ _).trans (by kernel_rfl)
theorem m160_l3 {c195 dc195 : A1} (hc195 : L1 c195 dc195) {j160_5 dj160_5 : A5} (hj160_5 : L5 j160_5 dj160_5) {j160_9 dj160_9 : A5} (hj160_9 : L5 j160_9 dj160_9) : L5 (b160_l3 c195 j160_5 j160_9) (b160_l3 dc195 dj160_5 dj160_9) := fun _ _ _ _ _ _ =>
  bR fun _ => bR fun _ => bR fun _ => bR fun _ => bR fun _ => bG (hc195 _ _) fun _ => bR fun _ => bK (hj160_9 _ _ _ _ _ _) (hj160_5 _ _ _ _ _ _)
def b160_3 (j160_l3 : A5) (x0 x1 x6 x11 : AV) (H : Hp) : Res :=
  j160_l3 x0 x1 x6 x6 x11 H
theorem e160_3 (H0 : Hp) (x0 x1 x6 x11 : AV) (H : Hp) : j160_3 H0 x0 x1 x6 x11 H = b160_3 (j160_l3 H0) x0 x1 x6 x11 H := (CXM_eq [3, 7, 9, 10, 12, 13, 15, 16, 17, 18, 20, 21] _ _ _ _).trans (by kernel_rfl)
theorem m160_3 {j160_l3 dj160_l3 : A5} (hj160_l3 : L5 j160_l3 dj160_l3) : L4 (b160_3 j160_l3) (b160_3 dj160_l3) := fun _ _ _ _ _ =>
  hj160_l3 _ _ _ _ _ _
def b160_l1 (j160_2 : A0) (j160_3 : A4) (x0 x1 x6 x11 : AV) (H : Hp) : Res :=
  bnd (alenD .string x0) fun t47 =>
  bnd (ibin .lss x6 t47) fun t48 =>
  cnd t48
    (j160_3 x0 x1 x6 x11 H)
    (j160_2 H)
theorem e160_l1 (H0 : Hp) (x0 x1 x6 x11 : AV) (H : Hp) : j160_l1 H0 x0 x1 x6 x11 H = b160_l1 (j160_2 H0) (j160_3 H0) x0 x1 x6 x11 H := (LPL_eqm (C := cfg) [3, 7, 9, 10, 12, 13, 15, 16, 17, 18, 20, 21] (tame_block 2 (k160_1_tame H0)) _ _).trans (by kernel_rfl)
theorem m160_l1 {j160_2 dj160_2 : A0} (hj160_2 : L0 j160_2 dj160_2) {j160_3 dj160_3 : A4} (hj160_3 : L4 j160_3 dj160_3) : L4 (b160_l1 j160_2 j160_3) (b160_l1 dj160_2 dj160_3) := fun _ _ _ _ _ =>
  bR fun _ => bR fun _ => bK (hj160_3 _ _ _ _ _) (hj160_2 _)
def b160_1 (j160_l1 : A4) (x0 x1 x6 : AV) (H : Hp) : Res :=
  j160_l1 x0 x1 x6 (.int .i64 1) H
theorem e160_1 (H0 : Hp) (x0 x1 x6 : AV) (H : Hp) : j160_1 H0 x0 x1 x6 H = b160_1 (j160_l1 H0) x0 x1 x6 H := (CXM_eq [3, 7, 9, 10, 12, 13, 15, 16, 17, 18, 20, 21] _ _ _ _).trans (by kernel_rfl)
theorem m160_1 {j160_l1 dj160_l1 : A4} (hj160_l1 : L4 j160_l1 dj160_l1) : L3 (b160_1 j160_l1) (b160_1 dj160_l1) := fun _ _ _ _ =>
  hj160_l1 _ _ _ _ _
def b160_10 (j160_l4 : A5) (x0 x1 x2 x6 x9 : AV) (H : Hp) : Res :=
  bnd (ibin .add x9 (.int .i64 1)) fun t19 =>
  j160_l4 x0 x1 x2 x6 t19 H
theorem e160_10 (H0 : Hp) (x0 x1 x2 x6 x9 : AV) (H : Hp) : j160_10 H0 x0 x1 x2 x6 x9 H = b160_10 (j160_l4 H0) x0 x1 x2 x6 x9 H := (CXM_eq [3, 7, 9, 10, 12, 13, 15, 16, 17, 18, 20, 21] _ _ _ _).trans (by kernel_rfl)
theorem m160_10 {j160_l4 dj160_l4 : A5} (hj160_l4 : L5 j160_l4 dj160_l4) : L5 (b160_10 j160_l4) (b160_10 dj160_l4) := fun _ _ _ _ _ _ =>
  bR fun _ => hj160_l4 _ _ _ _ _ _
def b160_12 (j160_10 : A5) (x0 x1 x2 x6 x9 x10 : AV) (H : Hp) : Res :=
  bnd (ibin .add x10 (.int .i64 1)) fun t43 =>
  bnd (ibin .add x6 t43) fun t44 =>
  j160_10 x0 x1 x2 t44 x9 H
theorem e160_12 (H0 : Hp) (x0 x1 x2 x6 x9 x10 : AV) (H : Hp) : j160_12 H0 x0 x1 x2 x6 x9 x10 H = b160_12 (j160_10 H0) x0 x1 x2 x6 x9 x10 H := (CXM_eq [3, 7, 9, 10, 12, 13, 15, 16, 17, 18, 20, 21] _ _ _ _).trans (by kernel_rfl)
theorem m160_12 {j160_10 dj160_10 : A5} (hj160_10 : L5 j160_10 dj160_10) : L6 (b160_12 j160_10) (b160_12 dj160_10) := fun _ _ _ _ _ _ _ =>
  bR fun _ => bR fun _ => hj160_10 _ _ _ _ _ _
def b160_11 (j160_12 : A6) (x0 x1 x2 x6 x9 x10 : AV) (H : Hp) : Res :=
  bnd (ibin .eql x9 x1) fun t36 =>
  cnd t36
    (bnd (ibin .add x6 x10) fun t40 =>
    some ((.tuple [x6, t40, (.bool true)]), H))
    (j160_12 x0 x1 x2 x6 x9 x10 H)
theorem e160_11 (H0 : Hp) (x0 x1 x2 x6 x9 x10 : AV) (H : Hp) : j160_11 H0 x0 x1 x2 x6 x9 x10 H = b160_11 (j160_12 H0) x0 x1 x2 x6 x9 x10 H := (CXM_eq [3, 7, 9, 10, 12, 13, 15, 16, 17, 18, 20, 21] _ _ _ _).trans (by kernel_rfl)
theorem m160_11 {j160_12 dj160_12 : A6} (hj160_12 : L6 j160_12 dj160_12) : L6 (b160_11 j160_12) (b160_11 dj160_12) := fun _ _ _ _ _ _ _ =>
  bR fun _ => bK (bR fun _ => le_refl _) (hj160_12 _ _ _ _ _ _ _)
def b160_l4 (c198 : A2) (j160_11 : A6) (x0 x1 x2 x6 x9 : AV) (H : Hp) : Res :=
  bnd (asliceS x0 (some x6) none none) fun t22 =>
  bnd (cvInt .u8 x2) fun t24 =>
  bnd (c198 t22 t24 H) fun r25 =>
  bnd (ibin .lss r25.1 (.int .i64 0)) fun t27 =>
  cnd t27
    (bnd (alenD .string x0) fun t30 =>
    bnd (ibin .eql x9 x1) fun t33 =>
    some ((.tuple [x6, t30, t33]), r25.2))
    (j160_11 x0 x1 x2 x6 x9 r25.1 r25.2)
theorem e160_l4 (H0 : Hp) (x0 x1 x2 x6 x9 : AV) (H : Hp) : j160_l4 H0 x0 x1 x2 x6 x9 H = b160_l4 c198 (j160_11 H0) x0 x1 x2 x6 x9 H := (LPL_eqm (C := cfg) [3, 7, 9, 10, 12, 13, 15, 16, 17, 18, 20, 21] (tame_block 0 (k160_5_tame H0)) _ _).trans (by kernel_rfl)
theorem m160_l4 {c198 dc198 : A2} (hc198 : L2 c198 dc198) {j160_11 dj160_11 : A6} (hj160_11 : L6 j160_11 dj160_11) : L5 (b160_l4 c198 j160_11) (b160_l4 dc198 dj160_11) := fun _ _ _ _ _ _ =>
  bR fun _ => bR fun _ => bC (hc198 _ _ _) fun _ => bR fun _ => bK (bR fun _ => bR fun _ => le_refl _) (hj160_11 _ _ _ _ _ _ _)
def rj160_2 : A0 := b160_2
theorem sj160_2 (H0 : Hp) : L0 (rj160_2) (j160_2 H0) := fun _ => le_eq (m160_2 _) (e160_2 H0 _)
def rj160_4 (j160_l1 : A4) : A4 := b160_4 j160_l1
theorem sj160_4 (H0 : Hp) {yj160_l1 : A4} (hj160_l1 : L4 yj160_l1 (j160_l1 H0)) : L4 (rj160_4 yj160_l1) (j160_4 H0) := fun _ _ _ _ _ => le_eq (m160_4 hj160_l1 _ _ _ _ _) (e160_4 H0 _ _ _ _ _)
def rj160_7 (j160_l1 : A4) : A4 := b160_7 (rj160_4 j160_l1)
theorem sj160_7 (H0 : Hp) {yj160_l1 : A4} (hj160_l1 : L4 yj160_l1 (j160_l1 H0)) : L4 (rj160_7 yj160_l1) (j160_7 H0) := fun _ _ _ _ _ => le_eq (m160_7 (sj160_4 H0 hj160_l1) _ _ _ _ _) (e160_7 H0 _ _ _ _ _)
def rj160_6 (j160_l1 : A4) : A5 := b160_6 (rj160_7 j160_l1)
theorem sj160_6 (H0 : Hp) {yj160_l1 : A4} (hj160_l1 : L4 yj160_l1 (j160_l1 H0)) : L5 (rj160_6 yj160_l1) (j160_6 H0) := fun _ _ _ _ _ _ => le_eq (m160_6 (sj160_7 H0 hj160_l1) _ _ _ _ _ _) (e160_6 H0 _ _ _ _ _ _)
def rj160_8 (j160_l2 : A5) : A5 := b160_8 j160_l2
theorem sj160_8 (H0 : Hp) {yj160_l2 : A5} (hj160_l2 : L5 yj160_l2 (j160_l2 H0)) : L5 (rj160_8 yj160_l2) (j160_8 H0) := fun _ _ _ _ _ _ => le_eq (m160_8 hj160_l2 _ _ _ _ _ _) (e160_8 H0 _ _ _ _ _ _)
def rj160_l2 (j160_l1 : A4) (n : Nat) : A5 := @Nat.rec (fun _ => A5) (fun _ _ _ _ _ _ => none) (fun _ j160_l2 => b160_l2 rc195 (rj160_6 j160_l1) (rj160_8 j160_l2)) n
theorem sj160_l2 (H0 : Hp) {yj160_l1 : A4} (hj160_l1 : L4 yj160_l1 (j160_l1 H0)) (n : Nat) : L5 (rj160_l2 yj160_l1 n) (j160_l2 H0) := by
  induction n with
  | zero => exact fun _ _ _ _ _ _ => le_none _
  | succ n hj160_l2 => exact fun _ _ _ _ _ _ => le_eq (m160_l2 sc195 (sj160_6 H0 hj160_l1) (sj160_8 H0 hj160_l2) _ _ _ _ _ _) (e160_l2 H0 _ _ _ _ _ _)
def rj160_5 (j160_l1 : A4) : A5 := b160_5 (rj160_l2 j160_l1 100000)
theorem sj160_5 (H0 : Hp) {yj160_l1 : A4} (hj160_l1 : L4 yj160_l1 (j160_l1 H0)) : L5 (rj160_5 yj160_l1) (j160_5 H0) := fun _ _ _ _ _ _ => le_eq (m160_5 (sj160_l2 H0 hj160_l1 100000) _ _ _ _ _ _) (e160_5 H0 _ _ _ _ _ _)
def rj160_9 (j160_l3 : A5) : A5 := b160_9 j160_l3
theorem sj160_9 (H0 : Hp) {yj160_l3 : A5} (hj160_l3 : L5 yj160_l3 (j160_l3 H0)) : L5 (rj160_9 yj160_l3) (j160_9 H0) := fun _ _ _ _ _ _ => le_eq (m160_9 hj160_l3 _ _ _ _ _ _) (e160_9 H0 _ _ _ _ _ _)
def rj160_l3 (j160_l1 : A4) (n : Nat) : A5 := @Nat.rec (fun _ => A5) (fun _ _ _ _ _ _ => none) (fun _ j160_l3 => b160_l3 rc195 (rj160_5 j160_l1) (rj160_9 j160_l3)) n
theorem sj160_l3 (H0 : Hp) {yj160_l1 : A4} (hj160_l1 : L4 yj160_l1 (j160_l1 H0)) (n : Nat) : L5 (rj160_l3 yj160_l1 n) (j160_l3 H0) := by
  induction n with
  | zero => exact fun _ _ _ _ _ _ => le_none _
  | succ n hj160_l3 => exact fun _ _ _ _ _ _ => le_eq (m160_l3 sc195 (sj160_5 H0 hj160_l1) (sj160_9 H0 hj160_l3) _ _ _ _ _ _) (e160_l3 H0 _ _ _ _ _ _)
def rj160_3 (j160_l1 : A4) : A4 := b160_3 (rj160_l3 j160_l1 100000)
theorem sj160_3 (H0 : Hp) {yj160_l1 : A4} (hj160_l1 : L4 yj160_l1 (j160_l1 H0)) : L4 (rj160_3 yj160_l1) (j160_3 H0) := fun _ _ _ _ _ => le_eq (m160_3 (sj160_l3 H0 hj160_l1 100000) _ _ _ _ _) (e160_3 H0 _ _ _ _ _)
def rj160_l1 (n : Nat) : A4 := @Nat.rec (fun _ => A4) (fun _ _ _ _ _ => none) (fun _ j160_l1 => b160_l1 (rj160_2) (rj160_3 j160_l1)) n
theorem sj160_l1 (H0 : Hp) (n : Nat) : L4 (rj160_l1 n) (j160_l1 H0) := by
  induction n with
  | zero => exact fun _ _ _ _ _ => le_none _
  | succ n hj160_l1 => exact fun _ _ _ _ _ => le_eq (m160_l1 (sj160_2 H0) (sj160_3 H0 hj160_l1) _ _ _ _ _) (e160_l1 H0 _ _ _ _ _)
def rj160_1 : A3 := b160_1 (rj160_l1 100000)
theorem sj160_1 (H0 : Hp) : L3 (rj160_1) (j160_1 H0) := fun _ _ _ _ => le_eq (m160_1 (sj160_l1 H0 100000) _ _ _ _) (e160_1 H0 _ _ _ _)
def rj160_10 (j160_l4 : A5) : A5 := b160_10 j160_l4
theorem sj160_10 (H0 : Hp) {yj160_l4 : A5} (hj160_l4 : L5 yj160_l4 (j160_l4 H0)) : L5 (rj160_10 yj160_l4) (j160_10 H0) := fun _ _ _ _ _ _ => le_eq (m160_10 hj160_l4 _ _ _ _ _ _) (e160_10 H0 _ _ _ _ _ _)
def rj160_12 (j160_l4 : A5) : A6 := b160_12 (rj160_10 j160_l4)
theorem sj160_12 (H0 : Hp) {yj160_l4 : A5} (hj160_l4 : L5 yj160_l4 (j160_l4 H0)) : L6 (rj160_12 yj160_l4) (j160_12 H0) := fun _ _ _ _ _ _ _ => le_eq (m160_12 (sj160_10 H0 hj160_l4) _ _ _ _ _ _ _) (e160_12 H0 _ _ _ _ _ _ _)
def rj160_11 (j160_l4 : A5) : A6 := b160_11 (rj160_12 j160_l4)
theorem sj160_11 (H0 : Hp) {yj160_l4 : A5} (hj160_l4 : L5 yj160_l4 (j160_l4 H0)) : L6 (rj160_11 yj160_l4) (j160_11 H0) := fun _ _ _ _ _ _ _ => le_eq (m160_11 (sj160_12 H0 hj160_l4) _ _ _ _ _ _ _) (e160_11 H0 _ _ _ _ _ _ _)
def rj160_l4 (n : Nat) : A5 := @Nat.rec (fun _ => A5) (fun _ _ _ _ _ _ => none) (fun _ j160_l4 => b160_l4 rc198 (rj160_11 j160_l4)) n
theorem sj160_l4 (H0 : Hp) (n : Nat) : L5 (rj160_l4 n) (j160_l4 H0) := by
  induction n with
  | zero => exact fun _ _ _ _ _ _ => le_none _
  | succ n hj160_l4 => exact fun _ _ _ _ _ _ => le_eq (m160_l4 sc198 (sj160_11 H0 hj160_l4) _ _ _ _ _ _) (e160_l4 H0 _ _ _ _ _ _)
def bc160 (j160_1 : A3) (j160_l4 : A5) (p0 p1 p2 : AV) (H : Hp) : Res :=
  bnd (ibin .geq p2 (.int .i64 0)) fun t13 =>
  bnd (gdv t13 true (.tuple []) (some p2)) fun t15 =>
  bnd (gdv t13 true (.tuple []) (ibin .leq t15 (.int .i64 255))) fun t16 =>
  bnd (apick t13 t16 (.bool false)) fun t17 =>
  cnd t17
    (j160_l4 p0 p1 p2 (.int .i64 0) (.int .i64 1) H)
    (j160_1 p0 p1 (.int .i64 0) H)
theorem ec160 (p0 p1 p2 : AV) (H : Hp) : c160 p0 p1 p2 H = bc160 (j160_1 H) (j160_l4 H) p0 p1 p2 H := (callw_cxm (C := cfg) (fn := Tryz.f160) (c := bodyOf Tryz.f160) (n := 83) [3, 7, 9, 10, 12, 13, 15, 16, 17, 18, 20, 21] Tryz.func160 (by kernel_rfl) (by kernel_rfl) [p0, p1, p2] (by kernel_rfl) H).trans (by kernel_rfl)
theorem mc160 {j160_1 dj160_1 : A3} (hj160_1 : L3 j160_1 dj160_1) {j160_l4 dj160_l4 : A5} (hj160_l4 : L5 j160_l4 dj160_l4) : L3 (bc160 j160_1 j160_l4) (bc160 dj160_1 dj160_l4) := fun _ _ _ _ =>
  bR fun _ => bR fun _ => bR fun _ => bR fun _ => bK (hj160_l4 _ _ _ _ _ _) (hj160_1 _ _ _ _)
def rc160 : A3 := fun p0 p1 p2 H => bc160 (rj160_1) (rj160_l4 100000) p0 p1 p2 H
theorem sc160 : L3 rc160 c160 := fun _ _ _ H => le_eq (mc160 (sj160_1 H) (sj160_l4 H 100000) _ _ _ _) (ec160 _ _ _ _)

def c108 (p0 p1 p2 : AV) (H : Hp) : Res := callw cfg 108 [p0, p1, p2] H
def j108_3 (H0 : Hp) (x0 x7 x10 : AV) (H : Hp) : Res := CXf 108 70 (sub (bodyOf Tryz.f108) [1, 1, 1, 1, 1, 1, 1]) (retL cfg 70 108 Tryz.f108 H0) [(0, x0), (7, x7), (10, x10)] H
def j108_2 (H0 : Hp) (x0 x7 x10 : AV) (H : Hp) : Res := CXf 108 70 (sub (bodyOf Tryz.f108) [1, 1, 1, 1, 1, 1]) (retL cfg 70 108 Tryz.f108 H0) [(0, x0), (7, x7), (10, x10)] H
def j108_1 (H0 : Hp) (x0 x2 x4 x7 x8 : AV) (H : Hp) : Res := CXf 108 70 (sub (bodyOf Tryz.f108) [1, 1, 1]) (retL cfg 70 108 Tryz.f108 H0) [(0, x0), (2, x2), (4, x4), (7, x7), (8, x8)] H
def b108_3 (x0 x7 x10 : AV) (H : Hp) : Res :=
  bnd (asliceS x0 (some x7) (some x10) none) fun t69 =>
  some (t69, H)
theorem e108_3 (H0 : Hp) (x0 x7 x10 : AV) (H : Hp) : j108_3 H0 x0 x7 x10 H = b108_3 x0 x7 x10 H := (CXM_eq [4, 12, 14] _ _ _ _).trans (by kernel_rfl)
theorem m108_3 : L3 (b108_3) (b108_3) := fun _ _ _ _ =>
  bR fun _ => le_refl _
def b108_2 (j108_3 : A3) (x0 x7 x10 : AV) (H : Hp) : Res :=
  bnd (ibin .lss x10 x7) fun t65 =>
  cnd t65
    (some ((.str []), H))
    (j108_3 x0 x7 x10 H)
theorem e108_2 (H0 : Hp) (x0 x7 x10 : AV) (H : Hp) : j108_2 H0 x0 x7 x10 H = b108_2 (j108_3 H0) x0 x7 x10 H := (CXM_eq [4, 12, 14] _ _ _ _).trans (by kernel_rfl)
theorem m108_2 {j108_3 dj108_3 : A3} (hj108_3 : L3 j108_3 dj108_3) : L3 (b108_2 j108_3) (b108_2 dj108_3) := fun _ _ _ _ =>
  bR fun _ => bK (le_refl _) (hj108_3 _ _ _ _)
def b108_1 (c160 : A3) (j108_2 : A3) (x0 x2 x4 x7 x8 : AV) (H : Hp) : Res :=
  bnd (afield 1 x4) fun t27 =>
  bnd (aload false 1 t27 H) fun t28 =>
  bnd (amax2 t28 (.int .i64 1)) fun t29 =>
  bnd (ibin .sub t29 (.int .i64 1)) fun t30 =>
  bnd (ibin .sub x8 x7) fun t33 =>
  bnd (amin2 t30 t33) fun t34 =>
  bnd (ibin .add x7 t34) fun t35 =>
  bnd (alenD .string x0) fun t37 =>
  bnd (afield 2 x4) fun t38 =>
  bnd (aload false 1 t38 H) fun t39 =>
  bnd (ibin .gtr t39 (.int .i64 0)) fun t40 =>
  cnd t40
    (bnd (afield 2 x4) fun t43 =>
    bnd (aload false 1 t43 H) fun t44 =>
    bnd (c160 x0 t44 x2 H) fun r46 =>
    bnd (aext r46.1 0) fun t47 =>
    bnd (aext r46.1 1) fun t48 =>
    bnd (aext r46.1 2) fun t49 =>
    cnd t49
      (bnd (afield 3 x4) fun t52 =>
      bnd (aload false 1 t52 r46.2) fun t53 =>
      bnd (ibin .gtr t53 (.int .i64 0)) fun t54 =>
      cnd t54
        (bnd (afield 3 x4) fun t56 =>
        bnd (aload false 1 t56 r46.2) fun t57 =>
        bnd (ibin .sub t48 t47) fun t60 =>
        bnd (amin2 t57 t60) fun t61 =>
        bnd (ibin .add t47 t61) fun t62 =>
        j108_2 x0 t35 t62 r46.2)
        (j108_2 x0 t35 t48 r46.2))
      (j108_2 x0 t35 t37 r46.2))
    (j108_2 x0 t35 t37 H)
theorem e108_1 (H0 : Hp) (x0 x2 x4 x7 x8 : AV) (H : Hp) : j108_1 H0 x0 x2 x4 x7 x8 H = b108_1 c160 (j108_2 H0) x0 x2 x4 x7 x8 H := (CXM_eq [4, 12, 14] _ _ _ _).trans (by kernel_rfl)
theorem m108_1 {c160 dc160 : A3} (hc160 : L3 c160 dc160) {j108_2 dj108_2 : A3} (hj108_2 : L3 j108_2 dj108_2) : L5 (b108_1 c160 j108_2) (b108_1 dc160 dj108_2) := fun _ _ _ _ _ _ =>
  bR fun _ => bR fun _ => bR fun _ => bR fun _ => bR fun _ => bR fun _ => bR fun _ => bR fun _ => bR fun _ => bR fun _ => bR fun _ => bK (bR fun _ => bR fun _ => bC (hc160 _ _ _ _) fun _ => bR fun _ => bR fun _ => bR fun _ => bK (bR fun _ => bR fun _ => bR fun _ => bK (bR fun _ => bR fun _ => bR fun _ => bR fun _ => bR fun _ => hj108_2 _ _ _ _) (hj108_2 _ _ _ _)) (hj108_2 _ _ _ _)) (hj108_2 _ _ _ _)
def rj108_3 : A3 := b108_3
theorem sj108_3 (H0 : Hp) : L3 (rj108_3) (j108_3 H0) := fun _ _ _ _ => le_eq (m108_3 _ _ _ _) (e108_3 H0 _ _ _ _)
def rj108_2 : A3 := b108_2 (rj108_3)
theorem sj108_2 (H0 : Hp) : L3 (rj108_2) (j108_2 H0) := fun _ _ _ _ => le_eq (m108_2 (sj108_3 H0) _ _ _ _) (e108_2 H0 _ _ _ _)
def rj108_1 : A5 := b108_1 rc160 (rj108_2)
theorem sj108_1 (H0 : Hp) : L5 (rj108_1) (j108_1 H0) := fun _ _ _ _ _ _ => le_eq (m108_1 sc160 (sj108_2 H0) _ _ _ _ _ _) (e108_1 H0 _ _ _ _ _ _)
def bc108 (c160 : A3) (j108_1 : A5) (p0 p1 p2 : AV) (H : Hp) : Res :=
  bnd (abox p1 H) fun r4 =>
  bnd (afield 0 r4.1) fun t16 =>
  bnd (aload false 1 t16 r4.2) fun t17 =>
  bnd (amax2 t17 (.int .i64 1)) fun t18 =>
  bnd (c160 p0 t18 p2 r4.2) fun r20 =>
  bnd (aext r20.1 0) fun t21 =>
  bnd (aext r20.1 1) fun t22 =>
  bnd (aext r20.1 2) fun t23 =>
  bnd (aun .not t23) fun t25 =>
  cnd t25
    (some ((.str []), r20.2))
    (j108_1 p0 p2 r4.1 t21 t22 r20.2)
theorem ec108 (p0 p1 p2 : AV) (H : Hp) : c108 p0 p1 p2 H = bc108 c160 (j108_1 H) p0 p1 p2 H := (callw_cxm (C := cfg) (fn := Tryz.f108) (c := bodyOf Tryz.f108) (n := 70) [4, 12, 14] Tryz.func108 (by kernel_rfl) (by kernel_rfl) [p0, p1, p2] (by kernel_rfl) H).trans (by kernel_rfl)
theorem mc108 {c160 dc160 : A3} (hc160 : L3 c160 dc160) {j108_1 dj108_1 : A5} (hj108_1 : L5 j108_1 dj108_1) : L3 (bc108 c160 j108_1) (bc108 dc160 dj108_1) := fun _ _ _ _ =>
  bR fun _ => bR fun _ => bR fun _ => bR fun _ => bC (hc160 _ _ _ _) fun _ => bR fun _ => bR fun _ => bR fun _ => bR fun _ => bK (le_refl _) (hj108_1 _ _ _ _ _ _)
def rc108 : A3 := fun p0 p1 p2 H => bc108 rc160 (rj108_1) p0 p1 p2 H
theorem sc108 : L3 rc108 c108 := fun _ _ _ H => le_eq (mc108 sc160 (sj108_1 H) _ _ _ _) (ec108 _ _ _ _)

def c72 (p0 p1 p2 p3 : AV) (H : Hp) : Res := callw cfg 72 [p0, p1, p2, p3] H
def j72_2 (H0 : Hp) (H : Hp) : Res := CXf 72 55 (sub (bodyOf Tryz.f72) [1, 1, 1, 1]) (retL cfg 55 72 Tryz.f72 H0) [] H
def k72_1 (H0 : Hp) : KL := seqL (fun k al H => CXf 72 55 (sub (bodyOf Tryz.f72) [1, 1, 1, 1]) k (trimL (cfg.keep 72) (sub (bodyOf Tryz.f72) [1, 1, 1, 1]) al) H) (retL cfg 55 72 Tryz.f72 H0)
theorem k72_1_tame (H0 : Hp) : Tame 55 (k72_1 H0) := tame_seq (C := cfg) (kp := cfg.keep 72) (sub (bodyOf Tryz.f72) [1, 1, 1, 1]) (tame_ret 72 Tryz.f72 H0)
def j72_4 (H0 : Hp) (x2 x3 x4 x5 x26 x27 x28 : AV) (H : Hp) : Res := CXf 72 55 (sub (bodyOf Tryz.f72) [1, 1, 1, 0, 1, 0, 0, 1, 1, 1]) (seqL (fun k al H => LPf 72 55 (sub (bodyOf Tryz.f72) [1, 1, 1, 0, 1, 0, 0]) k (trimL (cfg.keep 72) (sub (bodyOf Tryz.f72) [1, 1, 1, 0, 1, 0, 0]) al) H) (blockL 0 (k72_1 H0))) [(2, x2), (3, x3), (4, x4), (5, x5), (26, x26), (27, x27), (28, x28)] H
def k72_2 (H0 : Hp) : KL := seqL (fun k al H => CXf 72 55 (sub (bodyOf Tryz.f72) [1, 1, 1, 0, 1, 0, 0, 1, 1, 1]) k (trimL (cfg.keep 72) (sub (bodyOf Tryz.f72) [1, 1, 1, 0, 1, 0, 0, 1, 1, 1]) al) H) (seqL (fun k al H => LPf 72 55 (sub (bodyOf Tryz.f72) [1, 1, 1, 0, 1, 0, 0]) k (trimL (cfg.keep 72) (sub (bodyOf Tryz.f72) [1, 1, 1, 0, 1, 0, 0]) al) H) (blockL 0 (k72_1 H0)))
def j72_5 (H0 : Hp) (x2 x3 x4 x5 x10 x11 x26 x27 x28 : AV) (H : Hp) : Res := CXf 72 55 (sub (bodyOf Tryz.f72) [1, 1, 1, 0, 1, 0, 0, 1, 1, 0, 0, 1, 1, 1]) (blockL 1 (k72_2 H0)) [(2, x2), (3, x3), (4, x4), (5, x5), (10, x10), (11, x11), (26, x26), (27, x27), (28, x28)] H
def j72_3 (H0 : Hp) (x2 x3 x4 x5 x26 x27 x28 x29 : AV) (H : Hp) : Res := CXf 72 55 (sub (bodyOf Tryz.f72) [1, 1, 1, 0, 1, 0, 0, 1, 1]) (seqL (fun k al H => LPf 72 55 (sub (bodyOf Tryz.f72) [1, 1, 1, 0, 1, 0, 0]) k (trimL (cfg.keep 72) (sub (bodyOf Tryz.f72) [1, 1, 1, 0, 1, 0, 0]) al) H) (blockL 0 (k72_1 H0))) [(2, x2), (3, x3), (4, x4), (5, x5), (26, x26), (27, x27), (28, x28), (29, x29)] H
def j72_l1 (H0 : Hp) (x2 x3 x4 x5 x26 x27 x28 : AV) (H : Hp) : Res := LPf 72 55 (sub (bodyOf Tryz.f72) [1, 1, 1, 0, 1, 0, 0]) (blockL 0 (k72_1 H0)) [(2, x2), (3, x3), (4, x4), (5, x5), (26, x26), (27, x27), (28, x28)] H
def j72_1 (H0 : Hp) (x2 x3 x4 x5 : AV) (H : Hp) : Res := CXf 72 55 (sub (bodyOf Tryz.f72) [1, 1, 1]) (retL cfg 55 72 Tryz.f72 H0) [(2, x2), (3, x3), (4, x4), (5, x5)] H
def b72_2 (H : Hp) : Res :=
  some ((.int .i64 0), H)
theorem e72_2 (H0 : Hp) (H : Hp) : j72_2 H0 H = b72_2 H := (CXM_eq [4, 6, 10, 13, 14] _ _ _ _).trans (by kernel_rfl)
theorem m72_2 : L0 (b72_2) (b72_2) := fun _ =>
  le_refl _
def b72_4 (j72_l1 : A7) (x2 x3 x4 x5 x26 x27 x28 : AV) (H : Hp) : Res :=
  bnd (ibin .add x28 (.int .i64 1)) fun t54 =>
  j72_l1 x2 x3 x4 x5 x26 x27 t54 H
theorem e72_4 (H0 : Hp) (x2 x3 x4 x5 x26 x27 x28 : AV) (H : Hp) : j72_4 H0 x2 x3 x4 x5 x26 x27 x28 H = b72_4 (j72_l1 H0) x2 x3 x4 x5 x26 x27 x28 H := (CXM_eq [4, 6, 10, 13, 14] _ _ _ _).trans (by kernel_rfl)
theorem m72_4 {j72_l1 dj72_l1 : A7} (hj72_l1 : L7 j72_l1 dj72_l1) : L7 (b72_4 j72_l1) (b72_4 dj72_l1) := fun _ _ _ _ _ _ _ _ =>
  bR fun _ => hj72_l1 _ _ _ _ _ _ _ _
def b72_5 (c108 : A3) (q107 : A4) (j72_4 : A7) (x2 x3 x4 x5 x10 x11 x26 x27 x28 : AV) (H : Hp) : Res :=
  frzK x4 H fun z4 z4H =>
  frzK x5 z4H fun z5 z5H =>
  frzK x10 z5H fun z10 z10H =>
  bnd (aloadv true 6 z4) fun t38 =>
  bnd (aload true 5 z10 z10H) fun t41 =>
  bnd (afield 1 z5) fun t42 =>
  bnd (aload false 1 t42 z10H) fun t43 =>
  bnd (c108 x2 t41 t43 z10H) fun r44 =>
  bnd (aloadv true 5 z10) fun t46 =>
  bnd (afield 1 z5) fun t47 =>
  bnd (aloadv false 1 t47) fun t48 =>
  bnd (c108 x3 t46 t48 r44.2) fun r49 =>
  bnd (q107 t38 x11 r44.1 r49.1 r49.2) fun r50 =>
  bnd (ibin .neq r50.1 (.int .i64 0)) fun t52 =>
  cnd t52
    (some (r50.1, r50.2))
    (j72_4 x2 x3 z4 z5 x26 x27 x28 r50.2)
theorem e72_5 (H0 : Hp) (x2 x3 x4 x5 x10 x11 x26 x27 x28 : AV) (H : Hp) : j72_5 H0 x2 x3 x4 x5 x10 x11 x26 x27 x28 H = b72_5 c108 q107 (j72_4 H0) x2 x3 x4 x5 x10 x11 x26 x27 x28 H := (CXM_eq [4, 6, 10, 13, 14] _ _ _ _).trans (by kernel_rfl)
theorem m72_5 {c108 dc108 : A3} (hc108 : L3 c108 dc108) {q107 dq107 : A4} (hq107 : L4 q107 dq107) {j72_4 dj72_4 : A7} (hj72_4 : L7 j72_4 dj72_4) : L9 (b72_5 c108 q107 j72_4) (b72_5 dc108 dq107 dj72_4) := fun _ _ _ _ _ _ _ _ _ _ =>
  bF fun _ _ => bF fun _ _ => bF fun _ _ => bR fun _ => bR fun _ => bR fun _ => bR fun _ => bC (hc108 _ _ _ _) fun _ => bR fun _ => bR fun _ => bR fun _ => bC (hc108 _ _ _ _) fun _ => bC (hq107 _ _ _ _ _) fun _ => bR fun _ => bK (le_refl _) (hj72_4 _ _ _ _ _ _ _ _)
def b72_3 (j72_5 : A9) (x2 x3 x4 x5 x26 x27 x28 x29 : AV) (H : Hp) : Res :=
  bnd (aindexS 5 x26 x28) fun t30 =>
  bnd (aload true 5 t30 H) fun t31 =>
  bnd (some ((.ptr H.length 0), H ++ [.cells [(.int .i64 0), (.int .i64 0), (.int .i64 0), (.int .i64 0), (.int .i64 0)]])) fun r10 =>
  bnd (astoreU 5 r10.1 t31 r10.2) fun r_14 =>
  bnd (afield 4 r10.1) fun t32 =>
  bnd (aload false 1 t32 r_14.2) fun t33 =>
  bnd (ibin .eql t33 (.int .i64 0)) fun t35 =>
  cnd t35
    (bnd (afield 2 x5) fun t36 =>
    bnd (aload false 1 t36 r_14.2) fun t37 =>
    j72_5 x2 x3 x4 x5 r10.1 t37 x26 x27 x28 r_14.2)
    (j72_5 x2 x3 x4 x5 r10.1 t33 x26 x27 x28 r_14.2)
theorem e72_3 (H0 : Hp) (x2 x3 x4 x5 x26 x27 x28 x29 : AV) (H : Hp) : j72_3 H0 x2 x3 x4 x5 x26 x27 x28 x29 H = b72_3 (j72_5 H0) x2 x3 x4 x5 x26 x27 x28 x29 H := (CXM_eq [4, 6, 10, 13, 14] _ _ _ _).trans (by kernel_rfl)
theorem m72_3 {j72_5 dj72_5 : A9} (hj72_5 : L9 j72_5 dj72_5) : L8 (b72_3 j72_5) (b72_3 dj72_5) := fun _ _ _ _ _ _ _ _ _ =>
  bR fun _ => bR fun _ => bR fun _ => bR fun _ => bR fun _ => bR fun _ => bR fun _ => bK (bR fun _ => bR fun _ => hj72_5 _ _ _ _ _ _ _ _ _ _) (hj72_5 _ _ _ _ _ _ _ _ _ _)
def b72_l1 (j72_2 : A0) (j72_3 : A8) (x2 x3 x4 x5 x26 x27 x28 : AV) (H : Hp) : Res :=
  bnd (ibin .lss x28 x27) fun t29 =>
  cnd t29
    (j72_3 x2 x3 x4 x5 x26 x27 x28 t29 H)
    (j72_2 H)
theorem e72_l1 (H0 : Hp) (x2 x3 x4 x5 x26 x27 x28 : AV) (H : Hp) : j72_l1 H0 x2 x3 x4 x5 x26 x27 x28 H = b72_l1 (j72_2 H0) (j72_3 H0) x2 x3 x4 x5 x26 x27 x28 H := (LPL_eqm (C := cfg) [4, 6, 10, 13, 14] (tame_block 0 (k72_1_tame H0)) _ _).trans (by kernel_rfl)
theorem m72_l1 {j72_2 dj72_2 : A0} (hj72_2 : L0 j72_2 dj72_2) {j72_3 dj72_3 : A8} (hj72_3 : L8 j72_3 dj72_3) : L7 (b72_l1 j72_2 j72_3) (b72_l1 dj72_2 dj72_3) := fun _ _ _ _ _ _ _ _ =>
  bR fun _ => bK (hj72_3 _ _ _ _ _ _ _ _ _) (hj72_2 _)
def b72_1 (j72_l1 : A7) (x2 x3 x4 x5 : AV) (H : Hp) : Res :=
  bnd (afield 0 x5) fun t25 =>
  bnd (aload false 1 t25 H) fun t26 =>
  bnd (alenD (.slice 149) t26) fun t27 =>
  j72_l1 x2 x3 x4 x5 t26 t27 (.int .i64 0) H
theorem e72_1 (H0 : Hp) (x2 x3 x4 x5 : AV) (H : Hp) : j72_1 H0 x2 x3 x4 x5 H = b72_1 (j72_l1 H0) x2 x3 x4 x5 H := (CXM_eq [4, 6, 10, 13, 14] _ _ _ _).trans (by kernel_rfl)
theorem m72_1 {j72_l1 dj72_l1 : A7} (hj72_l1 : L7 j72_l1 dj72_l1) : L4 (b72_1 j72_l1) (b72_1 dj72_l1) := fun _ _ _ _ _ =>
  bR fun _ => bR fun _ => bR fun _ => hj72_l1 _ _ _ _ _ _ _ _
def rj72_2 (gV : AV → List AV → Hp → Res) : A0 := b72_2
theorem sj72_2 (H0 : Hp) {gV : AV → List AV → Hp → Res} (hV : LV gV (acall cfg (callw cfg))) : L0 (rj72_2 gV) (j72_2 H0) := fun _ => le_eq (m72_2 _) (e72_2 H0 _)
def rj72_4 (gV : AV → List AV → Hp → Res) (j72_l1 : A7) : A7 := b72_4 j72_l1
theorem sj72_4 (H0 : Hp) {gV : AV → List AV → Hp → Res} (hV : LV gV (acall cfg (callw cfg))) {yj72_l1 : A7} (hj72_l1 : L7 yj72_l1 (j72_l1 H0)) : L7 (rj72_4 gV yj72_l1) (j72_4 H0) := fun _ _ _ _ _ _ _ _ => le_eq (m72_4 hj72_l1 _ _ _ _ _ _ _ _) (e72_4 H0 _ _ _ _ _ _ _ _)
def rj72_5 (gV : AV → List AV → Hp → Res) (j72_l1 : A7) : A9 := b72_5 rc108 (rq107 gV) (rj72_4 gV j72_l1)
theorem sj72_5 (H0 : Hp) {gV : AV → List AV → Hp → Res} (hV : LV gV (acall cfg (callw cfg))) {yj72_l1 : A7} (hj72_l1 : L7 yj72_l1 (j72_l1 H0)) : L9 (rj72_5 gV yj72_l1) (j72_5 H0) := fun _ _ _ _ _ _ _ _ _ _ => le_eq (m72_5 sc108 (sq107 hV) (sj72_4 H0 hV hj72_l1) _ _ _ _ _ _ _ _ _ _) (e72_5 H0 _ _ _ _ _ _ _ _ _ _)
def rj72_3 (gV : AV → List AV → Hp → Res) (j72_l1 : A7) : A8 := b72_3 (rj72_5 gV j72_l1)
theorem sj72_3 (H0 : Hp) {gV : AV → List AV → Hp → Res} (hV : LV gV (acall cfg (callw cfg))) {yj72_l1 : A7} (hj72_l1 : L7 yj72_l1 (j72_l1 H0)) : L8 (rj72_3 gV yj72_l1) (j72_3 H0) := fun _ _ _ _ _ _ _ _ _ => le_eq (m72_3 (sj72_5 H0 hV hj72_l1) _ _ _ _ _ _ _ _ _) (e72_3 H0 _ _ _ _ _ _ _ _ _)
def rj72_l1 (gV : AV → List AV → Hp → Res) (n : Nat) : A7 := @Nat.rec (fun _ => A7) (fun _ _ _ _ _ _ _ _ => none) (fun _ j72_l1 => b72_l1 (rj72_2 gV) (rj72_3 gV j72_l1)) n
theorem sj72_l1 (H0 : Hp) {gV : AV → List AV → Hp → Res} (hV : LV gV (acall cfg (callw cfg))) (n : Nat) : L7 (rj72_l1 gV n) (j72_l1 H0) := by
  induction n with
  | zero => exact fun _ _ _ _ _ _ _ _ => le_none _
  | succ n hj72_l1 => exact fun _ _ _ _ _ _ _ _ => le_eq (m72_l1 (sj72_2 H0 hV) (sj72_3 H0 hV hj72_l1) _ _ _ _ _ _ _ _) (e72_l1 H0 _ _ _ _ _ _ _ _)
def rj72_1 (gV : AV → List AV → Hp → Res) : A4 := b72_1 (rj72_l1 gV 100000)
theorem sj72_1 (H0 : Hp) {gV : AV → List AV → Hp → Res} (hV : LV gV (acall cfg (callw cfg))) : L4 (rj72_1 gV) (j72_1 H0) := fun _ _ _ _ _ => le_eq (m72_1 (sj72_l1 H0 hV 100000) _ _ _ _ _) (e72_1 H0 _ _ _ _ _)
def bc72 (q105 : A1) (q107 : A4) (j72_1 : A4) (p0 p1 p2 p3 : AV) (H : Hp) : Res :=
  bnd (abox p0 H) fun r4 =>
  bnd (abox p1 r4.2) fun r5 =>
  bnd (aload true 5 r5.1 r5.2) fun t13 =>
  bnd (q105 t13 r5.2) fun r14 =>
  bnd (astoreU 5 r5.1 r14.1 r14.2) fun r_5 =>
  bnd (afield 0 r5.1) fun t15 =>
  bnd (aload false 1 t15 r_5.2) fun t16 =>
  bnd (alenD (.slice 149) t16) fun t17 =>
  bnd (ibin .eql t17 (.int .i64 0)) fun t18 =>
  cnd t18
    (bnd (aload true 6 r4.1 r_5.2) fun t19 =>
    bnd (afield 2 r5.1) fun t20 =>
    bnd (aload false 1 t20 r_5.2) fun t21 =>
    bnd (q107 t19 t21 p2 p3 r_5.2) fun r24 =>
    some (r24.1, r24.2))
    (j72_1 p2 p3 r4.1 r5.1 r_5.2)
theorem ec72 (p0 p1 p2 p3 : AV) (H : Hp) : c72 p0 p1 p2 p3 H = bc72 q105 q107 (j72_1 H) p0 p1 p2 p3 H := (callw_cxm (C := cfg) (fn := Tryz.f72) (c := bodyOf Tryz.f72) (n := 55) [4, 6, 10, 13, 14] Tryz.func72 (by kernel_rfl) (by kernel_rfl) [p0, p1, p2, p3] (by kernel_rfl) H).trans (by kernel_rfl)
theorem mc72 {q105 dq105 : A1} (hq105 : L1 q105 dq105) {q107 dq107 : A4} (hq107 : L4 q107 dq107) {j72_1 dj72_1 : A4} (hj72_1 : L4 j72_1 dj72_1) : L4 (bc72 q105 q107 j72_1) (bc72 dq105 dq107 dj72_1) := fun _ _ _ _ _ =>
  bR fun _ => bR fun _ => bR fun _ => bC (hq105 _ _) fun _ => bR fun _ => bR fun _ => bR fun _ => bR fun _ => bR fun _ => bK (bR fun _ => bR fun _ => bR fun _ => bC (hq107 _ _ _ _ _) fun _ => le_refl _) (hj72_1 _ _ _ _ _)
def rc72 (gV : AV → List AV → Hp → Res) : A4 := fun p0 p1 p2 p3 H => bc72 rq105 (rq107 gV) (rj72_1 gV) p0 p1 p2 p3 H
theorem sc72 {gV : AV → List AV → Hp → Res} (hV : LV gV (acall cfg (callw cfg))) : L4 (rc72 gV) c72 := fun _ _ _ _ H => le_eq (mc72 sq105 (sq107 hV) (sj72_1 H hV) _ _ _ _ _) (ec72 _ _ _ _ _)
def q72 : A4 := fun p0 p1 p2 p3 H => flatC (callw cfg 72) [p0, p1, p2, p3] H
def rq72 (gV : AV → List AV → Hp → Res) : A4 := fun p0 p1 p2 p3 H => flatC (ofL4 (rc72 gV)) [p0, p1, p2, p3] H
theorem sq72 {gV : AV → List AV → Hp → Res} (hV : LV gV (acall cfg (callw cfg))) : L4 (rq72 gV) q72 := fun _ _ _ _ _ => flat_le (ofL4_le (sc72 hV)) _ _

def c67 (p0 p1 p2 p3 : AV) (H : Hp) : Res := callw cfg 67 [p0, p1, p2, p3] H
def j67_2 (H0 : Hp) (x9 : AV) (H : Hp) : Res := CXf 67 39 (sub (bodyOf Tryz.f67) [1, 1, 1, 1, 1, 1]) (retL cfg 39 67 Tryz.f67 H0) [(9, x9)] H
def j67_1 (H0 : Hp) (x2 x3 x4 x5 : AV) (H : Hp) : Res := CXf 67 39 (sub (bodyOf Tryz.f67) [1, 1, 1, 1]) (retL cfg 39 67 Tryz.f67 H0) [(2, x2), (3, x3), (4, x4), (5, x5)] H
def b67_2 (x9 : AV) (H : Hp) : Res :=
  some (x9, H)
theorem e67_2 (H0 : Hp) (x9 : AV) (H : Hp) : j67_2 H0 x9 H = b67_2 x9 H := (CXM_eq [5, 8] _ _ _ _).trans (by kernel_rfl)
theorem m67_2 : L1 (b67_2) (b67_2) := fun _ _ =>
  le_refl _
def b67_1 (q106 : A3) (j67_2 : A1) (x2 x3 x4 x5 : AV) (H : Hp) : Res :=
  bnd (aload true 6 x4 H) fun t28 =>
  bnd (q106 t28 x2 x3 H) fun r31 =>
  bnd (afield 2 x5) fun t32 =>
  bnd (aload false 1 t32 r31.2) fun t33 =>
  bnd (ibin .and t33 (.int .i64 2)) fun t34 =>
  bnd (ibin .neq t34 (.int .i64 0)) fun t35 =>
  cnd t35
    (bnd (aun .neg r31.1) fun t37 =>
    some (t37, r31.2))
    (j67_2 r31.1 r31.2)
theorem e67_1 (H0 : Hp) (x2 x3 x4 x5 : AV) (H : Hp) : j67_1 H0 x2 x3 x4 x5 H = b67_1 q106 (j67_2 H0) x2 x3 x4 x5 H := (CXM_eq [5, 8] _ _ _ _).trans (by kernel_rfl)
theorem m67_1 {q106 dq106 : A3} (hq106 : L3 q106 dq106) {j67_2 dj67_2 : A1} (hj67_2 : L1 j67_2 dj67_2) : L4 (b67_1 q106 j67_2) (b67_1 dq106 dj67_2) := fun _ _ _ _ _ =>
  bR fun _ => bC (hq106 _ _ _ _) fun _ => bR fun _ => bR fun _ => bR fun _ => bR fun _ => bK (bR fun _ => le_refl _) (hj67_2 _ _)
def rj67_2 (gV : AV → List AV → Hp → Res) : A1 := b67_2
theorem sj67_2 (H0 : Hp) {gV : AV → List AV → Hp → Res} (hV : LV gV (acall cfg (callw cfg))) : L1 (rj67_2 gV) (j67_2 H0) := fun _ _ => le_eq (m67_2 _ _) (e67_2 H0 _ _)
def rj67_1 (gV : AV → List AV → Hp → Res) : A4 := b67_1 (rq106 gV) (rj67_2 gV)
theorem sj67_1 (H0 : Hp) {gV : AV → List AV → Hp → Res} (hV : LV gV (acall cfg (callw cfg))) : L4 (rj67_1 gV) (j67_1 H0) := fun _ _ _ _ _ => le_eq (m67_1 (sq106 hV) (sj67_2 H0 hV) _ _ _ _ _) (e67_1 H0 _ _ _ _ _)
def bc67 (q105 : A1) (q72 : A4) (j67_1 : A4) (p0 p1 p2 p3 : AV) (H : Hp) : Res :=
  bnd (abox p0 H) fun r4 =>
  bnd (abox p1 r4.2) fun r5 =>
  bnd (aload true 5 r5.1 r5.2) fun t10 =>
  bnd (q105 t10 r5.2) fun r11 =>
  bnd (astoreU 5 r5.1 r11.1 r11.2) fun r_5 =>
  bnd (aload true 6 r4.1 r_5.2) fun t12 =>
  bnd (aload true 5 r5.1 r_5.2) fun t13 =>
  bnd (q72 t12 t13 p2 p3 r_5.2) fun r16 =>
  bnd (ibin .neq r16.1 (.int .i64 0)) fun t18 =>
  bnd (gdv t18 false (.tuple []) (afield 4 r5.1)) fun t20 =>
  bnd (gdv t18 false (.tuple []) (aload false 1 t20 r16.2)) fun t21 =>
  bnd (apick t18 (.bool true) t21) fun t22 =>
  bnd (gdv t22 false (.tuple []) (afield 3 r5.1)) fun t24 =>
  bnd (gdv t22 false (.tuple []) (aload false 1 t24 r16.2)) fun t25 =>
  bnd (apick t22 (.bool true) t25) fun t26 =>
  cnd t26
    (some (r16.1, r16.2))
    (j67_1 p2 p3 r4.1 r5.1 r16.2)
theorem ec67 (p0 p1 p2 p3 : AV) (H : Hp) : c67 p0 p1 p2 p3 H = bc67 q105 q72 (j67_1 H) p0 p1 p2 p3 H := (callw_cxm (C := cfg) (fn := Tryz.f67) (c := bodyOf Tryz.f67) (n := 39) [5, 8] Tryz.func67 (by kernel_rfl) (by kernel_rfl) [p0, p1, p2, p3] (by kernel_rfl) H).trans (by kernel_rfl)
theorem mc67 {q105 dq105 : A1} (hq105 : L1 q105 dq105) {q72 dq72 : A4} (hq72 : L4 q72 dq72) {j67_1 dj67_1 : A4} (hj67_1 : L4 j67_1 dj67_1) : L4 (bc67 q105 q72 j67_1) (bc67 dq105 dq72 dj67_1) := fun _ _ _ _ _ =>
  bR fun _ => bR fun _ => bR fun _ => bC (hq105 _ _) fun _ => bR fun _ => bR fun _ => bR fun _ => bC (hq72 _ _ _ _ _) fun _ => bR fun _ => bR fun _ => bR fun _ => bR fun _ => bR fun _ => bR fun _ => bR fun _ => bK (le_refl _) (hj67_1 _ _ _ _ _)
def rc67 (gV : AV → List AV → Hp → Res) : A4 := fun p0 p1 p2 p3 H => bc67 rq105 (rq72 gV) (rj67_1 gV) p0 p1 p2 p3 H
theorem sc67 {gV : AV → List AV → Hp → Res} (hV : LV gV (acall cfg (callw cfg))) : L4 (rc67 gV) c67 := fun _ _ _ _ H => le_eq (mc67 sq105 (sq72 hV) (sj67_1 H hV) _ _ _ _ _) (ec67 _ _ _ _ _)
def q67 : A4 := fun p0 p1 p2 p3 H => flatC (callw cfg 67) [p0, p1, p2, p3] H
def rq67 (gV : AV → List AV → Hp → Res) : A4 := fun p0 p1 p2 p3 H => flatC (ofL4 (rc67 gV)) [p0, p1, p2, p3] H
theorem sq67 {gV : AV → List AV → Hp → Res} (hV : LV gV (acall cfg (callw cfg))) : L4 (rq67 gV) q67 := fun _ _ _ _ _ => flat_le (ofL4_le (sc67 hV)) _ _

def c77 (p0 : AV) (H : Hp) : Res := callw cfg 77 [p0] H
def j77_1 (H0 : Hp) (x0 : AV) (H : Hp) : Res := CXf 77 54 (sub (bodyOf Tryz.f77) [1, 1]) (retL cfg 54 77 Tryz.f77 H0) [(0, x0)] H
def k77_1 (H0 : Hp) : KL := seqL (fun k al H => CXf 77 54 (sub (bodyOf Tryz.f77) [1, 1]) k (trimL (cfg.keep 77) (sub (bodyOf Tryz.f77) [1, 1]) al) H) (retL cfg 54 77 Tryz.f77 H0)
theorem k77_1_tame (H0 : Hp) : Tame 54 (k77_1 H0) := tame_seq (C := cfg) (kp := cfg.keep 77) (sub (bodyOf Tryz.f77) [1, 1]) (tame_ret 77 Tryz.f77 H0)
def j77_3 (H0 : Hp) (x0 x7 x8 : AV) (H : Hp) : Res := CXf 77 54 (sub (bodyOf Tryz.f77) [1, 0, 1, 0, 0, 1, 1, 1]) (seqL (fun k al H => LPf 77 54 (sub (bodyOf Tryz.f77) [1, 0, 1, 0, 0]) k (trimL (cfg.keep 77) (sub (bodyOf Tryz.f77) [1, 0, 1, 0, 0]) al) H) (blockL 0 (k77_1 H0))) [(0, x0), (7, x7), (8, x8)] H
def j77_2 (H0 : Hp) (x0 x7 x8 x9 : AV) (H : Hp) : Res := CXf 77 54 (sub (bodyOf Tryz.f77) [1, 0, 1, 0, 0, 1, 1]) (seqL (fun k al H => LPf 77 54 (sub (bodyOf Tryz.f77) [1, 0, 1, 0, 0]) k (trimL (cfg.keep 77) (sub (bodyOf Tryz.f77) [1, 0, 1, 0, 0]) al) H) (blockL 0 (k77_1 H0))) [(0, x0), (7, x7), (8, x8), (9, x9)] H
def j77_l1 (H0 : Hp) (x0 x7 x8 : AV) (H : Hp) : Res := LPf 77 54 (sub (bodyOf Tryz.f77) [1, 0, 1, 0, 0]) (blockL 0 (k77_1 H0)) [(0, x0), (7, x7), (8, x8)] H
def b77_1 (x0 : AV) (H : Hp) : Res :=
  bnd (sbin .neq x0 (.str [])) fun t48 =>
  bnd (gdv t48 true (.tuple []) (some x0)) fun t50 =>
  bnd (gdv t48 true (.tuple []) (alenD .string t50)) fun t51 =>
  bnd (gdv t48 true (.tuple []) (ibin .leq t51 (.int .i64 16))) fun t52 =>
  bnd (apick t48 t52 (.bool false)) fun t53 =>
  some (t53, H)
theorem e77_1 (H0 : Hp) (x0 : AV) (H : Hp) : j77_1 H0 x0 H = b77_1 x0 H := (CXM_eq [3, 8, 9] _ _ _ _).trans (by kernel_rfl)
theorem m77_1 : L1 (b77_1) (b77_1) := fun _ _ =>
  bR fun _ => bR fun _ => bR fun _ => bR fun _ => bR fun _ => le_refl _
def b77_3 (j77_l1 : A3) (x0 x7 x8 : AV) (H : Hp) : Res :=
  bnd (ibin .add x8 (.int .i64 1)) fun t46 =>
  j77_l1 x0 x7 t46 H
theorem e77_3 (H0 : Hp) (x0 x7 x8 : AV) (H : Hp) : j77_3 H0 x0 x7 x8 H = b77_3 (j77_l1 H0) x0 x7 x8 H := (CXM_eq [3, 8, 9] _ _ _ _).trans (by kernel_rfl)
theorem m77_3 {j77_l1 dj77_l1 : A3} (hj77_l1 : L3 j77_l1 dj77_l1) : L3 (b77_3 j77_l1) (b77_3 dj77_l1) := fun _ _ _ _ =>
  bR fun _ => hj77_l1 _ _ _ _
def b77_2 (j77_3 : A3) (x0 x7 x8 x9 : AV) (H : Hp) : Res :=
  bnd (aindexStr x0 x8) fun t13 =>
  bnd (ibin .eql t13 (.int .u8 95)) fun t15 =>
  bnd (gdv t15 false (.tuple []) (some t13)) fun t17 =>
  bnd (gdv t15 false (.tuple []) (ibin .geq t17 (.int .u8 97))) fun t18 =>
  bnd (gdv t15 false (.tuple []) (some t18)) fun t19 =>
  bnd (gdv t19 true (.tuple []) (some t13)) fun t20 =>
  bnd (gdv t19 true (.tuple []) (ibin .leq t20 (.int .u8 122))) fun t21 =>
  bnd (gdv t15 false (.tuple []) (apick t19 t21 (.bool false))) fun t22 =>
  bnd (apick t15 (.bool true) t22) fun t23 =>
  bnd (gdv t23 false (.tuple []) (some t13)) fun t25 =>
  bnd (gdv t23 false (.tuple []) (ibin .geq t25 (.int .u8 65))) fun t26 =>
  bnd (gdv t23 false (.tuple []) (some t26)) fun t27 =>
  bnd (gdv t27 true (.tuple []) (some t13)) fun t28 =>
  bnd (gdv t27 true (.tuple []) (ibin .leq t28 (.int .u8 90))) fun t29 =>
  bnd (gdv t23 false (.tuple []) (apick t27 t29 (.bool false))) fun t30 =>
  bnd (apick t23 (.bool true) t30) fun t31 =>
  bnd (aun .not t31) fun t33 =>
  bnd (gdv t33 true (.tuple []) (some x8)) fun t35 =>
  bnd (gdv t33 true (.tuple []) (ibin .eql t35 (.int .i64 0))) fun t36 =>
  bnd (gdv t33 true (.tuple []) (some t36)) fun t37 =>
  bnd (gdv t37 false (.tuple []) (some t13)) fun t38 =>
  bnd (gdv t37 false (.tuple []) (ibin .lss t38 (.int .u8 48))) fun t39 =>
  bnd (gdv t33 true (.tuple []) (apick t37 (.bool true) t39)) fun t40 =>
  bnd (gdv t33 true (.tuple []) (some t40)) fun t41 =>
  bnd (gdv t41 false (.tuple []) (some t13)) fun t42 =>
  bnd (gdv t41 false (.tuple []) (ibin .gtr t42 (.int .u8 57))) fun t43 =>
  bnd (gdv t33 true (.tuple []) (apick t41 (.bool true) t43)) fun t44 =>
  bnd (apick t33 t44 (.bool false)) fun t45 =>
  cnd t45
    (some ((.bool false), H))
    (j77_3 x0 x7 x8 H)
theorem e77_2 (H0 : Hp) (x0 x7 x8 x9 : AV) (H : Hp) : j77_2 H0 x0 x7 x8 x9 H = b77_2 (j77_3 H0) x0 x7 x8 x9 H := (CXM_eq [3, 8, 9] _ _ _ _).trans (by kernel_rfl)
theorem m77_2 {j77_3 dj77_3 : A3} (hj77_3 : L3 j77_3 dj77_3) : L4 (b77_2 j77_3) (b77_2 dj77_3) := fun _ _ _ _ _ =>
  bR fun _ => bR fun _ => bR fun _ => bR fun _ => bR fun _ => bR fun _ => bR fun _ => bR fun _ => bR fun _ => bR fun _ => bR fun _ => bR fun _ => bR fun _ => bR fun _ => bR fun _ => bR fun _ => bR fun _ => bR fun _ => bR fun _ => bR fun _ => bR fun _ => bR fun _ => bR fun _ => bR fun _ => bR fun _ => bR fun _ => bR fun _ => bR fun _ => bK (le_refl _) (hj77_3 _ _ _ _)
def b77_l1 (j77_1 : A1) (j77_2 : A4) (x0 x7 x8 : AV) (H : Hp) : Res :=
  bnd (ibin .lss x8 x7) fun t9 =>
  cnd t9
    (j77_2 x0 x7 x8 t9 H)
    (j77_1 x0 H)
theorem e77_l1 (H0 : Hp) (x0 x7 x8 : AV) (H : Hp) : j77_l1 H0 x0 x7 x8 H = b77_l1 (j77_1 H0) (j77_2 H0) x0 x7 x8 H := (LPL_eqm (C := cfg) [3, 8, 9] (tame_block 0 (k77_1_tame H0)) _ _).trans (by kernel_rfl)
theorem m77_l1 {j77_1 dj77_1 : A1} (hj77_1 : L1 j77_1 dj77_1) {j77_2 dj77_2 : A4} (hj77_2 : L4 j77_2 dj77_2) : L3 (b77_l1 j77_1 j77_2) (b77_l1 dj77_1 dj77_2) := fun _ _ _ _ =>
  bR fun _ => bK (hj77_2 _ _ _ _ _) (hj77_1 _ _)
def rj77_1 : A1 := b77_1
theorem sj77_1 (H0 : Hp) : L1 (rj77_1) (j77_1 H0) := fun _ _ => le_eq (m77_1 _ _) (e77_1 H0 _ _)
def rj77_3 (j77_l1 : A3) : A3 := b77_3 j77_l1
theorem sj77_3 (H0 : Hp) {yj77_l1 : A3} (hj77_l1 : L3 yj77_l1 (j77_l1 H0)) : L3 (rj77_3 yj77_l1) (j77_3 H0) := fun _ _ _ _ => le_eq (m77_3 hj77_l1 _ _ _ _) (e77_3 H0 _ _ _ _)
def rj77_2 (j77_l1 : A3) : A4 := b77_2 (rj77_3 j77_l1)
theorem sj77_2 (H0 : Hp) {yj77_l1 : A3} (hj77_l1 : L3 yj77_l1 (j77_l1 H0)) : L4 (rj77_2 yj77_l1) (j77_2 H0) := fun _ _ _ _ _ => le_eq (m77_2 (sj77_3 H0 hj77_l1) _ _ _ _ _) (e77_2 H0 _ _ _ _ _)
def rj77_l1 (n : Nat) : A3 := @Nat.rec (fun _ => A3) (fun _ _ _ _ => none) (fun _ j77_l1 => b77_l1 (rj77_1) (rj77_2 j77_l1)) n
theorem sj77_l1 (H0 : Hp) (n : Nat) : L3 (rj77_l1 n) (j77_l1 H0) := by
  induction n with
  | zero => exact fun _ _ _ _ => le_none _
  | succ n hj77_l1 => exact fun _ _ _ _ => le_eq (m77_l1 (sj77_1 H0) (sj77_2 H0 hj77_l1) _ _ _ _) (e77_l1 H0 _ _ _ _)
def bc77 (j77_l1 : A3) (p0 : AV) (H : Hp) : Res :=
  bnd (alenD .string p0) fun t7 =>
  j77_l1 p0 t7 (.int .i64 0) H
theorem ec77 (p0 : AV) (H : Hp) : c77 p0 H = bc77 (j77_l1 H) p0 H := (callw_cxm (C := cfg) (fn := Tryz.f77) (c := bodyOf Tryz.f77) (n := 54) [3, 8, 9] Tryz.func77 (by kernel_rfl) (by kernel_rfl) [p0] (by kernel_rfl) H).trans (by kernel_rfl)
theorem mc77 {j77_l1 dj77_l1 : A3} (hj77_l1 : L3 j77_l1 dj77_l1) : L1 (bc77 j77_l1) (bc77 dj77_l1) := fun _ _ =>
  bR fun _ => hj77_l1 _ _ _ _
def rc77 : A1 := fun p0 H => bc77 (rj77_l1 100000) p0 H
theorem sc77 : L1 rc77 c77 := fun _ H => le_eq (mc77 (sj77_l1 H 100000) _ _) (ec77 _ _)
def q77 : A1 := fun p0 H => flatC (callw cfg 77) [p0] H
def rq77 : A1 := fun p0 H => flatC (ofL1 (rc77)) [p0] H
theorem sq77 : L1 rq77 q77 := fun _ _ => flat_le (ofL1_le (sc77)) _ _

def c53 (p0 : AV) (H : Hp) : Res := callw cfg 53 [p0] H
def j53_2 (H0 : Hp) (x3 : AV) (H : Hp) : Res := CXf 53 38 (sub (bodyOf Tryz.f53) [1, 1, 1, 1]) (retL cfg 38 53 Tryz.f53 H0) [(3, x3)] H
def k53_1 (H0 : Hp) : KL := seqL (fun k al H => CXf 53 38 (sub (bodyOf Tryz.f53) [1, 1, 1, 1]) k (trimL (cfg.keep 53) (sub (bodyOf Tryz.f53) [1, 1, 1, 1]) al) H) (retL cfg 38 53 Tryz.f53 H0)
theorem k53_1_tame (H0 : Hp) : Tame 38 (k53_1 H0) := tame_seq (C := cfg) (kp := cfg.keep 53) (sub (bodyOf Tryz.f53) [1, 1, 1, 1]) (tame_ret 53 Tryz.f53 H0)
def j53_4 (H0 : Hp) (x0 x3 x10 x11 x12 : AV) (H : Hp) : Res := CXf 53 38 (sub (bodyOf Tryz.f53) [1, 1, 1, 0, 1, 0, 0, 1, 1, 1]) (seqL (fun k al H => LPf 53 38 (sub (bodyOf Tryz.f53) [1, 1, 1, 0, 1, 0, 0]) k (trimL (cfg.keep 53) (sub (bodyOf Tryz.f53) [1, 1, 1, 0, 1, 0, 0]) al) H) (blockL 0 (k53_1 H0))) [(0, x0), (3, x3), (10, x10), (11, x11), (12, x12)] H
def j53_3 (H0 : Hp) (x0 x3 x10 x11 x12 x13 : AV) (H : Hp) : Res := CXf 53 38 (sub (bodyOf Tryz.f53) [1, 1, 1, 0, 1, 0, 0, 1, 1]) (seqL (fun k al H => LPf 53 38 (sub (bodyOf Tryz.f53) [1, 1, 1, 0, 1, 0, 0]) k (trimL (cfg.keep 53) (sub (bodyOf Tryz.f53) [1, 1, 1, 0, 1, 0, 0]) al) H) (blockL 0 (k53_1 H0))) [(0, x0), (3, x3), (10, x10), (11, x11), (12, x12), (13, x13)] H
def j53_l1 (H0 : Hp) (x0 x3 x10 x11 x12 : AV) (H : Hp) : Res := LPf 53 38 (sub (bodyOf Tryz.f53) [1, 1, 1, 0, 1, 0, 0]) (blockL 0 (k53_1 H0)) [(0, x0), (3, x3), (10, x10), (11, x11), (12, x12)] H
def j53_1 (H0 : Hp) (x0 : AV) (H : Hp) : Res := CXf 53 38 (sub (bodyOf Tryz.f53) [1, 1]) (retL cfg 38 53 Tryz.f53 H0) [(0, x0)] H
def b53_2 (x3 : AV) (H : Hp) : Res :=
  some (x3, H)
theorem e53_2 (H0 : Hp) (x3 : AV) (H : Hp) : j53_2 H0 x3 H = b53_2 x3 H := (CXM_eq [3, 6, 9, 10] _ _ _ _).trans (by kernel_rfl)
theorem m53_2 : L1 (b53_2) (b53_2) := fun _ _ =>
  le_refl _
def b53_4 (j53_l1 : A5) (x0 x3 x10 x11 x12 : AV) (H : Hp) : Res :=
  bnd (ibin .add x12 (.int .i64 1)) fun t36 =>
  j53_l1 x0 x3 x10 x11 t36 H
theorem e53_4 (H0 : Hp) (x0 x3 x10 x11 x12 : AV) (H : Hp) : j53_4 H0 x0 x3 x10 x11 x12 H = b53_4 (j53_l1 H0) x0 x3 x10 x11 x12 H := (CXM_eq [3, 6, 9, 10] _ _ _ _).trans (by kernel_rfl)
theorem m53_4 {j53_l1 dj53_l1 : A5} (hj53_l1 : L5 j53_l1 dj53_l1) : L5 (b53_4 j53_l1) (b53_4 dj53_l1) := fun _ _ _ _ _ _ =>
  bR fun _ => hj53_l1 _ _ _ _ _ _
def b53_3 (j53_4 : A5) (x0 x3 x10 x11 x12 x13 : AV) (H : Hp) : Res :=
  bnd (aindexS 1 x10 x12) fun t14 =>
  bnd (aload false 1 t14 H) fun t15 =>
  bnd (anil x0) fun t17 =>
  bnd (afield 3 t17) fun t18 =>
  bnd (aload false 1 t18 H) fun t19 =>
  bnd (alookup .string .nilp false t19 t15 H) fun t21 =>
  bnd (anil t21) fun t25 =>
  bnd (afield 0 t25) fun t26 =>
  bnd (aload false 1 t26 H) fun t27 =>
  bnd (alenD (.slice 5) t27) fun t28 =>
  bnd (anil t21) fun t30 =>
  bnd (afield 1 t30) fun t31 =>
  bnd (aload false 1 t31 H) fun t32 =>
  bnd ((afill [(0, 1, t15), (1, 1, t28), (2, 1, t32)] [(.str []), (.int .i64 0), (.int .i64 0)]).map .agg) fun t33 =>
  bnd ((setElems 3 [(0, t33)] [(.agg [(.str []), (.int .i64 0), (.int .i64 0)])]).map (.vs 3 .clip)) fun t34 =>
  bnd (aappE 3 32 x3 t34 H) fun r35 =>
  j53_4 x0 r35.1 x10 x11 x12 r35.2
theorem e53_3 (H0 : Hp) (x0 x3 x10 x11 x12 x13 : AV) (H : Hp) : j53_3 H0 x0 x3 x10 x11 x12 x13 H = b53_3 (j53_4 H0) x0 x3 x10 x11 x12 x13 H := (CXM_eq [3, 6, 9, 10] _ _ _ _).trans (by kernel_rfl)
theorem m53_3 {j53_4 dj53_4 : A5} (hj53_4 : L5 j53_4 dj53_4) : L6 (b53_3 j53_4) (b53_3 dj53_4) := fun _ _ _ _ _ _ _ =>
  bR fun _ => bR fun _ => bR fun _ => bR fun _ => bR fun _ => bR fun _ => bR fun _ => bR fun _ => bR fun _ => bR fun _ => bR fun _ => bR fun _ => bR fun _ => bR fun _ => bR fun _ => bR fun _ => hj53_4 _ _ _ _ _ _
def b53_l1 (j53_2 : A1) (j53_3 : A6) (x0 x3 x10 x11 x12 : AV) (H : Hp) : Res :=
  bnd (ibin .lss x12 x11) fun t13 =>
  cnd t13
    (j53_3 x0 x3 x10 x11 x12 t13 H)
    (j53_2 x3 H)
theorem e53_l1 (H0 : Hp) (x0 x3 x10 x11 x12 : AV) (H : Hp) : j53_l1 H0 x0 x3 x10 x11 x12 H = b53_l1 (j53_2 H0) (j53_3 H0) x0 x3 x10 x11 x12 H := (LPL_eqm (C := cfg) [3, 6, 9, 10] (tame_block 0 (k53_1_tame H0)) _ _).trans (by kernel_rfl)
theorem m53_l1 {j53_2 dj53_2 : A1} (hj53_2 : L1 j53_2 dj53_2) {j53_3 dj53_3 : A6} (hj53_3 : L6 j53_3 dj53_3) : L5 (b53_l1 j53_2 j53_3) (b53_l1 dj53_2 dj53_3) := fun _ _ _ _ _ _ =>
  bR fun _ => bK (hj53_3 _ _ _ _ _ _ _) (hj53_2 _ _)
def b53_1 (j53_l1 : A5) (x0 : AV) (H : Hp) : Res :=
  bnd (namesE.run [x0] H) fun r10 =>
  bnd (alenD (.slice 9) r10.1) fun t11 =>
  j53_l1 x0 .nils r10.1 t11 (.int .i64 0) r10.2
theorem e53_1 (H0 : Hp) (x0 : AV) (H : Hp) : j53_1 H0 x0 H = b53_1 (j53_l1 H0) x0 H := (CXM_eq [3, 6, 9, 10] _ _ _ _).trans (by kernel_rfl)
theorem m53_1 {j53_l1 dj53_l1 : A5} (hj53_l1 : L5 j53_l1 dj53_l1) : L1 (b53_1 j53_l1) (b53_1 dj53_l1) := fun _ _ =>
  bR fun _ => bR fun _ => hj53_l1 _ _ _ _ _ _
def rj53_2 : A1 := b53_2
theorem sj53_2 (H0 : Hp) : L1 (rj53_2) (j53_2 H0) := fun _ _ => le_eq (m53_2 _ _) (e53_2 H0 _ _)
def rj53_4 (j53_l1 : A5) : A5 := b53_4 j53_l1
theorem sj53_4 (H0 : Hp) {yj53_l1 : A5} (hj53_l1 : L5 yj53_l1 (j53_l1 H0)) : L5 (rj53_4 yj53_l1) (j53_4 H0) := fun _ _ _ _ _ _ => le_eq (m53_4 hj53_l1 _ _ _ _ _ _) (e53_4 H0 _ _ _ _ _ _)
def rj53_3 (j53_l1 : A5) : A6 := b53_3 (rj53_4 j53_l1)
theorem sj53_3 (H0 : Hp) {yj53_l1 : A5} (hj53_l1 : L5 yj53_l1 (j53_l1 H0)) : L6 (rj53_3 yj53_l1) (j53_3 H0) := fun _ _ _ _ _ _ _ => le_eq (m53_3 (sj53_4 H0 hj53_l1) _ _ _ _ _ _ _) (e53_3 H0 _ _ _ _ _ _ _)
def rj53_l1 (n : Nat) : A5 := @Nat.rec (fun _ => A5) (fun _ _ _ _ _ _ => none) (fun _ j53_l1 => b53_l1 (rj53_2) (rj53_3 j53_l1)) n
theorem sj53_l1 (H0 : Hp) (n : Nat) : L5 (rj53_l1 n) (j53_l1 H0) := by
  induction n with
  | zero => exact fun _ _ _ _ _ _ => le_none _
  | succ n hj53_l1 => exact fun _ _ _ _ _ _ => le_eq (m53_l1 (sj53_2 H0) (sj53_3 H0 hj53_l1) _ _ _ _ _ _) (e53_l1 H0 _ _ _ _ _ _)
def rj53_1 : A1 := b53_1 (rj53_l1 100000)
theorem sj53_1 (H0 : Hp) : L1 (rj53_1) (j53_1 H0) := fun _ _ => le_eq (m53_1 (sj53_l1 H0 100000) _ _) (e53_1 H0 _ _)
def bc53 (j53_1 : A1) (p0 : AV) (H : Hp) : Res :=
  bnd (ebin (.pointer 120) .eql p0 .nilp) fun t8 =>
  cnd t8
    (some (.nils, H))
    (j53_1 p0 H)
theorem ec53 (p0 : AV) (H : Hp) : c53 p0 H = bc53 (j53_1 H) p0 H := (callw_cxm (C := cfg) (fn := Tryz.f53) (c := bodyOf Tryz.f53) (n := 38) [3, 6, 9, 10] Tryz.func53 (by kernel_rfl) (by kernel_rfl) [p0] (by kernel_rfl) H).trans (by kernel_rfl)
theorem mc53 {j53_1 dj53_1 : A1} (hj53_1 : L1 j53_1 dj53_1) : L1 (bc53 j53_1) (bc53 dj53_1) := fun _ _ =>
  bR fun _ => bK (le_refl _) (hj53_1 _ _)
def rc53 : A1 := fun p0 H => bc53 (rj53_1) p0 H
theorem sc53 : L1 rc53 c53 := fun _ H => le_eq (mc53 (sj53_1 H) _ _) (ec53 _ _)
def q53 : A1 := fun p0 H => roC (callw cfg 53) [p0] H
def rq53 : A1 := fun p0 H => roC (ofL1 (rc53)) [p0] H
theorem sq53 : L1 rq53 q53 := fun _ _ => ro_le (ofL1_le (sc53)) _ _

def c114 (p0 : AV) (H : Hp) : Res := callw cfg 114 [p0] H
def bc114 (p0 : AV) (H : Hp) : Res :=
  bnd (sbin .add (.str [46, 116, 109, 112, 46]) p0) fun t4 =>
  bnd (sbin .add t4 (.str [46])) fun t5 =>
  some (t5, H)
theorem ec114 (p0 : AV) (H : Hp) : c114 p0 H = bc114 p0 H := (callw_cxm (C := cfg) (fn := Tryz.f114) (c := bodyOf Tryz.f114) (n := 6) [] Tryz.func114 (by kernel_rfl) (by kernel_rfl) [p0] (by kernel_rfl) H).trans (by kernel_rfl)
theorem mc114 : L1 (bc114) (bc114) := fun _ _ =>
  bR fun _ => bR fun _ => le_refl _
def rc114 : A1 := fun p0 H => bc114 p0 H
theorem sc114 : L1 rc114 c114 := fun _ H => le_eq (mc114 _ _) (ec114 _ _)
def q114 : A1 := fun p0 H => flatC (callw cfg 114) [p0] H
def rq114 : A1 := fun p0 H => flatC (ofL1 (rc114)) [p0] H
theorem sq114 : L1 rq114 q114 := fun _ _ => flat_le (ofL1_le (sc114)) _ _

end
end Go.Am
