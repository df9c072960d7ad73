/-
  Functions of the translation that are worked out at given arguments: written by program (wip/gen.py).
-/
import Derived.Test.YtomfadecfjephaaGreatDoorUkGx
import Derived.Test.YtomfadecfjephaaGreatDoorEmWx
namespace Go.Am
open Go.Proofs
set_option maxRecDepth 100000
set_option linter.unusedVariables false
noncomputable section

noncomputable abbrev CXf (f n : Nat) := CXL cfg (callw cfg) (LPL cfg (cfg.keep f) n) (cfg.keep f) n seqL blockL
noncomputable abbrev LPf (f n : Nat) := LPL cfg (cfg.keep f) n
def c23 (p0 : AV) (H : Hp) : Res := callw cfg 23 [p0] H
def j23_3 (H0 : Hp) (H : Hp) : Res := CXf 23 78 (sub (bodyOf Tryz.f23) [1, 1, 1, 1]) (retL cfg 78 23 Tryz.f23 H0) [] H
def k23_1 (H0 : Hp) : KL := seqL (fun k al H => CXf 23 78 (sub (bodyOf Tryz.f23) [1, 1, 1, 1]) k (trimL (cfg.keep 23) (sub (bodyOf Tryz.f23) [1, 1, 1, 1]) al) H) (retL cfg 78 23 Tryz.f23 H0)
theorem k23_1_tame (H0 : Hp) : Tame 78 (k23_1 H0) := tame_seq (C := cfg) (kp := cfg.keep 23) (sub (bodyOf Tryz.f23) [1, 1, 1, 1]) (tame_ret 23 Tryz.f23 H0)
def j23_5 (H0 : Hp) (x33 x34 x35 : AV) (H : Hp) : Res := CXf 23 78 (sub (bodyOf Tryz.f23) [1, 1, 1, 0, 1, 0, 0, 1, 1, 1]) (seqL (fun k al H => LPf 23 78 (sub (bodyOf Tryz.f23) [1, 1, 1, 0, 1, 0, 0]) k (trimL (cfg.keep 23) (sub (bodyOf Tryz.f23) [1, 1, 1, 0, 1, 0, 0]) al) H) (blockL 0 (k23_1 H0))) [(33, x33), (34, x34), (35, x35)] H
def j23_4 (H0 : Hp) (x33 x34 x35 x36 : AV) (H : Hp) : Res := CXf 23 78 (sub (bodyOf Tryz.f23) [1, 1, 1, 0, 1, 0, 0, 1, 1]) (seqL (fun k al H => LPf 23 78 (sub (bodyOf Tryz.f23) [1, 1, 1, 0, 1, 0, 0]) k (trimL (cfg.keep 23) (sub (bodyOf Tryz.f23) [1, 1, 1, 0, 1, 0, 0]) al) H) (blockL 0 (k23_1 H0))) [(33, x33), (34, x34), (35, x35), (36, x36)] H
def j23_l1 (H0 : Hp) (x33 x34 x35 : AV) (H : Hp) : Res := LPf 23 78 (sub (bodyOf Tryz.f23) [1, 1, 1, 0, 1, 0, 0]) (blockL 0 (k23_1 H0)) [(33, x33), (34, x34), (35, x35)] H
def j23_2 (H0 : Hp) (x1 : AV) (H : Hp) : Res := CXf 23 78 (sub (bodyOf Tryz.f23) [1, 1, 1]) (retL cfg 78 23 Tryz.f23 H0) [(1, x1)] H
def j23_1 (H0 : Hp) (x1 : AV) (H : Hp) : Res := CXf 23 78 (sub (bodyOf Tryz.f23) [1, 1]) (retL cfg 78 23 Tryz.f23 H0) [(1, x1)] H
def b23_3 (H : Hp) : Res :=
  some ((.int .i64 0), H)
theorem e23_3 (H0 : Hp) (H : Hp) : j23_3 H0 H = b23_3 H := (CXM_eq [3, 5, 7, 10, 11] _ _ _ _).trans (by kernel_rfl)
theorem m23_3 : L0 (b23_3) (b23_3) := fun _ =>
  le_refl _
def b23_5 (j23_l1 : A3) (x33 x34 x35 : AV) (H : Hp) : Res :=
  bnd (ibin .add x35 (.int .i64 1)) fun t77 =>
  j23_l1 x33 x34 t77 H
theorem e23_5 (H0 : Hp) (x33 x34 x35 : AV) (H : Hp) : j23_5 H0 x33 x34 x35 H = b23_5 (j23_l1 H0) x33 x34 x35 H := (CXM_eq [3, 5, 7, 10, 11] _ _ _ _).trans (by kernel_rfl)
theorem m23_5 {j23_l1 dj23_l1 : A3} (hj23_l1 : L3 j23_l1 dj23_l1) : L3 (b23_5 j23_l1) (b23_5 dj23_l1) := fun _ _ _ _ =>
  bR fun _ => hj23_l1 _ _ _ _
def b23_4 (j23_5 : A3) (x33 x34 x35 x36 : AV) (H : Hp) : Res :=
  bnd (aindexS 5 x33 x35) fun t37 =>
  bnd (aload true 5 t37 H) fun t38 =>
  bnd (some ((.ptr H.length 0), H ++ [.cells [(.int .i64 0), (.int .i64 0), (.int .i64 0), (.int .i64 0), (.int .i64 0)]])) fun r4 =>
  bnd (astoreU 5 r4.1 t38 r4.2) fun r_10 =>
  bnd (afield 0 r4.1) fun t39 =>
  bnd (aload false 1 t39 r_10.2) fun t40 =>
  bnd (ibin .lss t40 (.int .i64 1)) fun t41 =>
  bnd (gdv t41 false (.tuple []) (afield 1 r4.1)) fun t43 =>
  bnd (gdv t41 false (.tuple []) (aload false 1 t43 r_10.2)) fun t44 =>
  bnd (gdv t41 false (.tuple []) (ibin .lss t44 (.int .i64 1))) fun t45 =>
  bnd (apick t41 (.bool true) t45) fun t46 =>
  bnd (gdv t46 false (.tuple []) (afield 2 r4.1)) fun t48 =>
  bnd (gdv t46 false (.tuple []) (aload false 1 t48 r_10.2)) fun t49 =>
  bnd (gdv t46 false (.tuple []) (ibin .lss t49 (.int .i64 0))) fun t50 =>
  bnd (apick t46 (.bool true) t50) fun t51 =>
  bnd (gdv t51 false (.tuple []) (afield 3 r4.1)) fun t53 =>
  bnd (gdv t51 false (.tuple []) (aload false 1 t53 r_10.2)) fun t54 =>
  bnd (gdv t51 false (.tuple []) (ibin .lss t54 (.int .i64 0))) fun t55 =>
  bnd (apick t51 (.bool true) t55) fun t56 =>
  bnd (gdv t56 false (.tuple []) (afield 2 r4.1)) fun t58 =>
  bnd (gdv t56 false (.tuple []) (aload false 1 t58 r_10.2)) fun t59 =>
  bnd (gdv t56 false (.tuple []) (ibin .eql t59 (.int .i64 0))) fun t60 =>
  bnd (gdv t56 false (.tuple []) (some t60)) fun t61 =>
  bnd (gdv t61 true (.tuple []) (afield 3 r4.1)) fun t62 =>
  bnd (gdv t61 true (.tuple []) (aload false 1 t62 r_10.2)) fun t63 =>
  bnd (gdv t61 true (.tuple []) (ibin .neq t63 (.int .i64 0))) fun t64 =>
  bnd (gdv t56 false (.tuple []) (apick t61 t64 (.bool false))) fun t65 =>
  bnd (apick t56 (.bool true) t65) fun t66 =>
  bnd (gdv t66 false (.tuple []) (afield 4 r4.1)) fun t68 =>
  bnd (gdv t66 false (.tuple []) (aload false 1 t68 r_10.2)) fun t69 =>
  bnd (gdv t66 false (.tuple []) (ibin .lss t69 (.int .i64 0))) fun t70 =>
  bnd (apick t66 (.bool true) t70) fun t71 =>
  bnd (gdv t71 false (.tuple []) (afield 4 r4.1)) fun t73 =>
  bnd (gdv t71 false (.tuple []) (aload false 1 t73 r_10.2)) fun t74 =>
  bnd (gdv t71 false (.tuple []) (ibin .gtr t74 (.int .i64 31))) fun t75 =>
  bnd (apick t71 (.bool true) t75) fun t76 =>
  cnd t76
    (some ((.int .i64 2), r_10.2))
    (j23_5 x33 x34 x35 r_10.2)
theorem e23_4 (H0 : Hp) (x33 x34 x35 x36 : AV) (H : Hp) : j23_4 H0 x33 x34 x35 x36 H = b23_4 (j23_5 H0) x33 x34 x35 x36 H := (CXM_eq [3, 5, 7, 10, 11] _ _ _ _).trans (by kernel_rfl)
theorem m23_4 {j23_5 dj23_5 : A3} (hj23_5 : L3 j23_5 dj23_5) : L4 (b23_4 j23_5) (b23_4 dj23_5) := fun _ _ _ _ _ =>
  bR fun _ => bR fun _ => bR fun _ => bR fun _ => bR fun _ => bR fun _ => bR fun _ => bR fun _ => bR fun _ => bR fun _ => bR fun _ => bR fun _ => bR fun _ => bR fun _ => bR fun _ => bR fun _ => bR fun _ => bR fun _ => bR fun _ => bR fun _ => bR fun _ => bR fun _ => bR fun _ => bR fun _ => bR fun _ => bR fun _ => bR fun _ => bR fun _ => bR fun _ => bR fun _ => bR fun _ => bR fun _ => bR fun _ => bR fun _ => bR fun _ => bR fun _ => bK (le_refl _) (hj23_5 _ _ _ _)
def b23_l1 (j23_3 : A0) (j23_4 : A4) (x33 x34 x35 : AV) (H : Hp) : Res :=
  bnd (ibin .lss x35 x34) fun t36 =>
  cnd t36
    (j23_4 x33 x34 x35 t36 H)
    (j23_3 H)
theorem e23_l1 (H0 : Hp) (x33 x34 x35 : AV) (H : Hp) : j23_l1 H0 x33 x34 x35 H = b23_l1 (j23_3 H0) (j23_4 H0) x33 x34 x35 H := (LPL_eqm (C := cfg) [3, 5, 7, 10, 11] (tame_block 0 (k23_1_tame H0)) _ _).trans (by kernel_rfl)
theorem m23_l1 {j23_3 dj23_3 : A0} (hj23_3 : L0 j23_3 dj23_3) {j23_4 dj23_4 : A4} (hj23_4 : L4 j23_4 dj23_4) : L3 (b23_l1 j23_3 j23_4) (b23_l1 dj23_3 dj23_4) := fun _ _ _ _ =>
  bR fun _ => bK (hj23_4 _ _ _ _ _) (hj23_3 _)
def b23_2 (j23_l1 : A3) (x1 : AV) (H : Hp) : Res :=
  bnd (afield 0 x1) fun t32 =>
  bnd (aload false 1 t32 H) fun t33 =>
  bnd (alenD (.slice 58) t33) fun t34 =>
  j23_l1 t33 t34 (.int .i64 0) H
theorem e23_2 (H0 : Hp) (x1 : AV) (H : Hp) : j23_2 H0 x1 H = b23_2 (j23_l1 H0) x1 H := (CXM_eq [3, 5, 7, 10, 11] _ _ _ _).trans (by kernel_rfl)
theorem m23_2 {j23_l1 dj23_l1 : A3} (hj23_l1 : L3 j23_l1 dj23_l1) : L1 (b23_2 j23_l1) (b23_2 dj23_l1) := fun _ _ =>
  bR fun _ => bR fun _ => bR fun _ => hj23_l1 _ _ _ _
def b23_1 (j23_2 : A1) (x1 : AV) (H : Hp) : Res :=
  bnd (afield 1 x1) fun t9 =>
  bnd (aload false 1 t9 H) fun t10 =>
  bnd (ibin .lss t10 (.int .i64 (-1))) fun t11 =>
  bnd (gdv t11 false (.tuple []) (afield 1 x1)) fun t13 =>
  bnd (gdv t11 false (.tuple []) (aload false 1 t13 H)) fun t14 =>
  bnd (gdv t11 false (.tuple []) (ibin .gtr t14 (.int .i64 255))) fun t15 =>
  bnd (apick t11 (.bool true) t15) fun t16 =>
  bnd (gdv t16 false (.tuple []) (afield 1 x1)) fun t18 =>
  bnd (gdv t16 false (.tuple []) (aload false 1 t18 H)) fun t19 =>
  bnd (gdv t16 false (.tuple []) (ibin .eql t19 (.int .i64 10))) fun t20 =>
  bnd (apick t16 (.bool true) t20) fun t21 =>
  bnd (gdv t21 false (.tuple []) (afield 2 x1)) fun t23 =>
  bnd (gdv t21 false (.tuple []) (aload false 1 t23 H)) fun t24 =>
  bnd (gdv t21 false (.tuple []) (ibin .lss t24 (.int .i64 0))) fun t25 =>
  bnd (apick t21 (.bool true) t25) fun t26 =>
  bnd (gdv t26 false (.tuple []) (afield 2 x1)) fun t28 =>
  bnd (gdv t26 false (.tuple []) (aload false 1 t28 H)) fun t29 =>
  bnd (gdv t26 false (.tuple []) (ibin .gtr t29 (.int .i64 31))) fun t30 =>
  bnd (apick t26 (.bool true) t30) fun t31 =>
  cnd t31
    (some ((.int .i64 2), H))
    (j23_2 x1 H)
theorem e23_1 (H0 : Hp) (x1 : AV) (H : Hp) : j23_1 H0 x1 H = b23_1 (j23_2 H0) x1 H := (CXM_eq [3, 5, 7, 10, 11] _ _ _ _).trans (by kernel_rfl)
theorem m23_1 {j23_2 dj23_2 : A1} (hj23_2 : L1 j23_2 dj23_2) : L1 (b23_1 j23_2) (b23_1 dj23_2) := fun _ _ =>
  bR fun _ => bR fun _ => bR fun _ => bR fun _ => bR fun _ => bR fun _ => bR fun _ => bR fun _ => bR fun _ => bR fun _ => bR fun _ => bR fun _ => bR fun _ => bR fun _ => bR fun _ => bR fun _ => bR fun _ => bR fun _ => bR fun _ => bK (le_refl _) (hj23_2 _ _)
def rj23_3 : A0 := b23_3
theorem sj23_3 (H0 : Hp) : L0 (rj23_3) (j23_3 H0) := fun _ => le_eq (m23_3 _) (e23_3 H0 _)
def rj23_5 (j23_l1 : A3) : A3 := b23_5 j23_l1
theorem sj23_5 (H0 : Hp) {yj23_l1 : A3} (hj23_l1 : L3 yj23_l1 (j23_l1 H0)) : L3 (rj23_5 yj23_l1) (j23_5 H0) := fun _ _ _ _ => le_eq (m23_5 hj23_l1 _ _ _ _) (e23_5 H0 _ _ _ _)
def rj23_4 (j23_l1 : A3) : A4 := b23_4 (rj23_5 j23_l1)
theorem sj23_4 (H0 : Hp) {yj23_l1 : A3} (hj23_l1 : L3 yj23_l1 (j23_l1 H0)) : L4 (rj23_4 yj23_l1) (j23_4 H0) := fun _ _ _ _ _ => le_eq (m23_4 (sj23_5 H0 hj23_l1) _ _ _ _ _) (e23_4 H0 _ _ _ _ _)
def rj23_l1 (n : Nat) : A3 := @Nat.rec (fun _ => A3) (fun _ _ _ _ => none) (fun _ j23_l1 => b23_l1 (rj23_3) (rj23_4 j23_l1)) n
theorem sj23_l1 (H0 : Hp) (n : Nat) : L3 (rj23_l1 n) (j23_l1 H0) := by
  induction n with
  | zero => exact fun _ _ _ _ => le_none _
  | succ n hj23_l1 => exact fun _ _ _ _ => le_eq (m23_l1 (sj23_3 H0) (sj23_4 H0 hj23_l1) _ _ _ _) (e23_l1 H0 _ _ _ _)
def rj23_2 : A1 := b23_2 (rj23_l1 100000)
theorem sj23_2 (H0 : Hp) : L1 (rj23_2) (j23_2 H0) := fun _ _ => le_eq (m23_2 (sj23_l1 H0 100000) _ _) (e23_2 H0 _ _)
def rj23_1 : A1 := b23_1 (rj23_2)
theorem sj23_1 (H0 : Hp) : L1 (rj23_1) (j23_1 H0) := fun _ _ => le_eq (m23_1 (sj23_2 H0) _ _) (e23_1 H0 _ _)
def bc23 (j23_1 : A1) (p0 : AV) (H : Hp) : Res :=
  bnd (abox p0 H) fun r1 =>
  bnd (afield 0 r1.1) fun t5 =>
  bnd (aload false 1 t5 r1.2) fun t6 =>
  bnd (alenD (.slice 58) t6) fun t7 =>
  bnd (ibin .gtr t7 (.int .i64 8)) fun t8 =>
  cnd t8
    (some ((.int .i64 3), r1.2))
    (j23_1 r1.1 r1.2)
theorem ec23 (p0 : AV) (H : Hp) : c23 p0 H = bc23 (j23_1 H) p0 H := (callw_cxm (C := cfg) (fn := Tryz.f23) (c := bodyOf Tryz.f23) (n := 78) [3, 5, 7, 10, 11] Tryz.func23 (by kernel_rfl) (by kernel_rfl) [p0] (by kernel_rfl) H).trans (by kernel_rfl)
theorem mc23 {j23_1 dj23_1 : A1} (hj23_1 : L1 j23_1 dj23_1) : L1 (bc23 j23_1) (bc23 dj23_1) := fun _ _ =>
  bR fun _ => bR fun _ => bR fun _ => bR fun _ => bR fun _ => bK (le_refl _) (hj23_1 _ _)
def rc23 : A1 := fun p0 H => bc23 (rj23_1) p0 H
theorem sc23 : L1 rc23 c23 := fun _ H => le_eq (mc23 (sj23_1 H) _ _) (ec23 _ _)
def q23 : A1 := fun p0 H => flatC (callw cfg 23) [p0] H
def rq23 : A1 := fun p0 H => flatC (ofL1 (rc23)) [p0] H
theorem sq23 : L1 rq23 q23 := fun _ _ => flat_le (ofL1_le (sc23)) _ _

def c39 (p0 : AV) (H : Hp) : Res := callw cfg 39 [p0] H
def j39_1 (H0 : Hp) (x1 x2 : AV) (H : Hp) : Res := CXf 39 8 (sub (bodyOf Tryz.f39) [1, 1]) (retL cfg 8 39 Tryz.f39 H0) [(1, x1), (2, x2)] H
def b39_1 (x1 x2 : AV) (H : Hp) : Res :=
  bnd (aload true 5 x1 H) fun t7 =>
  bnd (astoreU 5 x2 t7 H) fun r_4 =>
  bnd (aload true 5 x2 r_4.2) fun v2 =>
  some (v2, r_4.2)
theorem e39_1 (H0 : Hp) (x1 x2 : AV) (H : Hp) : j39_1 H0 x1 x2 H = b39_1 x1 x2 H := (CXM_eq [3] _ _ _ _).trans (by kernel_rfl)
theorem m39_1 : L2 (b39_1) (b39_1) := fun _ _ _ =>
  bR fun _ => bR fun _ => bR fun _ => le_refl _
def rj39_1 : A2 := b39_1
theorem sj39_1 (H0 : Hp) : L2 (rj39_1) (j39_1 H0) := fun _ _ _ => le_eq (m39_1 _ _ _) (e39_1 H0 _ _ _)
def bc39 (q23 : A1) (j39_1 : A2) (p0 : AV) (H : Hp) : Res :=
  bnd (abox p0 H) fun r1 =>
  bnd (some ((.ptr r1.2.length 0), r1.2 ++ [.cells [.nils, (.int .i64 0), (.int .i64 0), (.bool false), (.bool false)]])) fun r2 =>
  bnd (aload true 5 r1.1 r2.2) fun t3 =>
  bnd (q23 t3 r2.2) fun r4 =>
  bnd (ibin .neq r4.1 (.int .i64 0)) fun t5 =>
  cnd t5
    (bnd ((afill [(1, 1, (.int .i64 (-1)))] [.nils, (.int .i64 0), (.int .i64 0), (.bool false), (.bool false)]).map .agg) fun t6 =>
    bnd (astoreU 5 r2.1 t6 r4.2) fun r_10 =>
    bnd (aload true 5 r2.1 r_10.2) fun v2 =>
    some (v2, r_10.2))
    (j39_1 r1.1 r2.1 r4.2)
theorem ec39 (p0 : AV) (H : Hp) : c39 p0 H = bc39 q23 (j39_1 H) p0 H := (callw_cxm (C := cfg) (fn := Tryz.f39) (c := bodyOf Tryz.f39) (n := 8) [3] Tryz.func39 (by kernel_rfl) (by kernel_rfl) [p0] (by kernel_rfl) H).trans (by kernel_rfl)
theorem mc39 {q23 dq23 : A1} (hq23 : L1 q23 dq23) {j39_1 dj39_1 : A2} (hj39_1 : L2 j39_1 dj39_1) : L1 (bc39 q23 j39_1) (bc39 dq23 dj39_1) := fun _ _ =>
  bR fun _ => bR fun _ => bR fun _ => bC (hq23 _ _) fun _ => bR fun _ => bK (bR fun _ => bR fun _ => bR fun _ => le_refl _) (hj39_1 _ _ _)
def rc39 : A1 := fun p0 H => bc39 rq23 (rj39_1) p0 H
theorem sc39 : L1 rc39 c39 := fun _ H => le_eq (mc39 sq23 (sj39_1 H) _ _) (ec39 _ _)
def q39 : A1 := fun p0 H => flatC (callw cfg 39) [p0] H
def rq39 : A1 := fun p0 H => flatC (ofL1 (rc39)) [p0] H
theorem sq39 : L1 rq39 q39 := fun _ _ => flat_le (ofL1_le (sc39)) _ _

def c108 (p0 : AV) (H : Hp) : Res := callw cfg 108 [p0] H
def j108_1 (H0 : Hp) (x0 : AV) (H : Hp) : Res := CXf 108 54 (sub (bodyOf Tryz.f108) [1, 1]) (retL cfg 54 108 Tryz.f108 H0) [(0, x0)] H
def k108_1 (H0 : Hp) : KL := seqL (fun k al H => CXf 108 54 (sub (bodyOf Tryz.f108) [1, 1]) k (trimL (cfg.keep 108) (sub (bodyOf Tryz.f108) [1, 1]) al) H) (retL cfg 54 108 Tryz.f108 H0)
theorem k108_1_tame (H0 : Hp) : Tame 54 (k108_1 H0) := tame_seq (C := cfg) (kp := cfg.keep 108) (sub (bodyOf Tryz.f108) [1, 1]) (tame_ret 108 Tryz.f108 H0)
def j108_3 (H0 : Hp) (x0 x7 x8 : AV) (H : Hp) : Res := CXf 108 54 (sub (bodyOf Tryz.f108) [1, 0, 1, 0, 0, 1, 1, 1]) (seqL (fun k al H => LPf 108 54 (sub (bodyOf Tryz.f108) [1, 0, 1, 0, 0]) k (trimL (cfg.keep 108) (sub (bodyOf Tryz.f108) [1, 0, 1, 0, 0]) al) H) (blockL 0 (k108_1 H0))) [(0, x0), (7, x7), (8, x8)] H
def j108_2 (H0 : Hp) (x0 x7 x8 x9 : AV) (H : Hp) : Res := CXf 108 54 (sub (bodyOf Tryz.f108) [1, 0, 1, 0, 0, 1, 1]) (seqL (fun k al H => LPf 108 54 (sub (bodyOf Tryz.f108) [1, 0, 1, 0, 0]) k (trimL (cfg.keep 108) (sub (bodyOf Tryz.f108) [1, 0, 1, 0, 0]) al) H) (blockL 0 (k108_1 H0))) [(0, x0), (7, x7), (8, x8), (9, x9)] H
def j108_l1 (H0 : Hp) (x0 x7 x8 : AV) (H : Hp) : Res := LPf 108 54 (sub (bodyOf Tryz.f108) [1, 0, 1, 0, 0]) (blockL 0 (k108_1 H0)) [(0, x0), (7, x7), (8, x8)] H
def b108_1 (x0 : AV) (H : Hp) : Res :=
  bnd (sbin .neq x0 (.str [])) fun t48 =>
  bnd (gdv t48 true (.tuple []) (some x0)) fun t50 =>
  bnd (gdv t48 true (.tuple []) (alenD .string t50)) fun t51 =>
  bnd (gdv t48 true (.tuple []) (ibin .leq t51 (.int .i64 32))) fun t52 =>
  bnd (apick t48 t52 (.bool false)) fun t53 =>
  some (t53, H)
theorem e108_1 (H0 : Hp) (x0 : AV) (H : Hp) : j108_1 H0 x0 H = b108_1 x0 H := (CXM_eq [3, 8, 9] _ _ _ _).trans (by kernel_rfl)
theorem m108_1 : L1 (b108_1) (b108_1) := fun _ _ =>
  bR fun _ => bR fun _ => bR fun _ => bR fun _ => bR fun _ => le_refl _
def b108_3 (j108_l1 : A3) (x0 x7 x8 : AV) (H : Hp) : Res :=
  bnd (ibin .add x8 (.int .i64 1)) fun t46 =>
  j108_l1 x0 x7 t46 H
theorem e108_3 (H0 : Hp) (x0 x7 x8 : AV) (H : Hp) : j108_3 H0 x0 x7 x8 H = b108_3 (j108_l1 H0) x0 x7 x8 H := (CXM_eq [3, 8, 9] _ _ _ _).trans (by kernel_rfl)
theorem m108_3 {j108_l1 dj108_l1 : A3} (hj108_l1 : L3 j108_l1 dj108_l1) : L3 (b108_3 j108_l1) (b108_3 dj108_l1) := fun _ _ _ _ =>
  bR fun _ => hj108_l1 _ _ _ _
def b108_2 (j108_3 : A3) (x0 x7 x8 x9 : AV) (H : Hp) : Res :=
  bnd (aindexStr x0 x8) fun t13 =>
  bnd (ibin .eql t13 (.int .u8 95)) fun t15 =>
  bnd (gdv t15 false (.tuple []) (some t13)) fun t17 =>
  bnd (gdv t15 false (.tuple []) (ibin .geq t17 (.int .u8 97))) fun t18 =>
  bnd (gdv t15 false (.tuple []) (some t18)) fun t19 =>
  bnd (gdv t19 true (.tuple []) (some t13)) fun t20 =>
  bnd (gdv t19 true (.tuple []) (ibin .leq t20 (.int .u8 122))) fun t21 =>
  bnd (gdv t15 false (.tuple []) (apick t19 t21 (.bool false))) fun t22 =>
  bnd (apick t15 (.bool true) t22) fun t23 =>
  bnd (gdv t23 false (.tuple []) (some t13)) fun t25 =>
  bnd (gdv t23 false (.tuple []) (ibin .geq t25 (.int .u8 65))) fun t26 =>
  bnd (gdv t23 false (.tuple []) (some t26)) fun t27 =>
  bnd (gdv t27 true (.tuple []) (some t13)) fun t28 =>
  bnd (gdv t27 true (.tuple []) (ibin .leq t28 (.int .u8 90))) fun t29 =>
  bnd (gdv t23 false (.tuple []) (apick t27 t29 (.bool false))) fun t30 =>
  bnd (apick t23 (.bool true) t30) fun t31 =>
  bnd (aun .not t31) fun t33 =>
  bnd (gdv t33 true (.tuple []) (some x8)) fun t35 =>
  bnd (gdv t33 true (.tuple []) (ibin .eql t35 (.int .i64 0))) fun t36 =>
  bnd (gdv t33 true (.tuple []) (some t36)) fun t37 =>
  bnd (gdv t37 false (.tuple []) (some t13)) fun t38 =>
  bnd (gdv t37 false (.tuple []) (ibin .lss t38 (.int .u8 48))) fun t39 =>
  bnd (gdv t33 true (.tuple []) (apick t37 (.bool true) t39)) fun t40 =>
  bnd (gdv t33 true (.tuple []) (some t40)) fun t41 =>
  bnd (gdv t41 false (.tuple []) (some t13)) fun t42 =>
  bnd (gdv t41 false (.tuple []) (ibin .gtr t42 (.int .u8 57))) fun t43 =>
  bnd (gdv t33 true (.tuple []) (apick t41 (.bool true) t43)) fun t44 =>
  bnd (apick t33 t44 (.bool false)) fun t45 =>
  cnd t45
    (some ((.bool false), H))
    (j108_3 x0 x7 x8 H)
theorem e108_2 (H0 : Hp) (x0 x7 x8 x9 : AV) (H : Hp) : j108_2 H0 x0 x7 x8 x9 H = b108_2 (j108_3 H0) x0 x7 x8 x9 H := (CXM_eq [3, 8, 9] _ _ _ _).trans (by kernel_rfl)
theorem m108_2 {j108_3 dj108_3 : A3} (hj108_3 : L3 j108_3 dj108_3) : L4 (b108_2 j108_3) (b108_2 dj108_3) := fun _ _ _ _ _ =>
  bR fun _ => bR fun _ => bR fun _ => bR fun _ => bR fun _ => bR fun _ => bR fun _ => bR fun _ => bR fun _ => bR fun _ => bR fun _ => bR fun _ => bR fun _ => bR fun _ => bR fun _ => bR fun _ => bR fun _ => bR fun _ => bR fun _ => bR fun _ => bR fun _ => bR fun _ => bR fun _ => bR fun _ => bR fun _ => bR fun _ => bR fun _ => bR fun _ => bK (le_refl _) (hj108_3 _ _ _ _)
def b108_l1 (j108_1 : A1) (j108_2 : A4) (x0 x7 x8 : AV) (H : Hp) : Res :=
  bnd (ibin .lss x8 x7) fun t9 =>
  cnd t9
    (j108_2 x0 x7 x8 t9 H)
    (j108_1 x0 H)
theorem e108_l1 (H0 : Hp) (x0 x7 x8 : AV) (H : Hp) : j108_l1 H0 x0 x7 x8 H = b108_l1 (j108_1 H0) (j108_2 H0) x0 x7 x8 H := (LPL_eqm (C := cfg) [3, 8, 9] (tame_block 0 (k108_1_tame H0)) _ _).trans (by kernel_rfl)
theorem m108_l1 {j108_1 dj108_1 : A1} (hj108_1 : L1 j108_1 dj108_1) {j108_2 dj108_2 : A4} (hj108_2 : L4 j108_2 dj108_2) : L3 (b108_l1 j108_1 j108_2) (b108_l1 dj108_1 dj108_2) := fun _ _ _ _ =>
  bR fun _ => bK (hj108_2 _ _ _ _ _) (hj108_1 _ _)
def rj108_1 : A1 := b108_1
theorem sj108_1 (H0 : Hp) : L1 (rj108_1) (j108_1 H0) := fun _ _ => le_eq (m108_1 _ _) (e108_1 H0 _ _)
def rj108_3 (j108_l1 : A3) : A3 := b108_3 j108_l1
theorem sj108_3 (H0 : Hp) {yj108_l1 : A3} (hj108_l1 : L3 yj108_l1 (j108_l1 H0)) : L3 (rj108_3 yj108_l1) (j108_3 H0) := fun _ _ _ _ => le_eq (m108_3 hj108_l1 _ _ _ _) (e108_3 H0 _ _ _ _)
def rj108_2 (j108_l1 : A3) : A4 := b108_2 (rj108_3 j108_l1)
theorem sj108_2 (H0 : Hp) {yj108_l1 : A3} (hj108_l1 : L3 yj108_l1 (j108_l1 H0)) : L4 (rj108_2 yj108_l1) (j108_2 H0) := fun _ _ _ _ _ => le_eq (m108_2 (sj108_3 H0 hj108_l1) _ _ _ _ _) (e108_2 H0 _ _ _ _ _)
def rj108_l1 (n : Nat) : A3 := @Nat.rec (fun _ => A3) (fun _ _ _ _ => none) (fun _ j108_l1 => b108_l1 (rj108_1) (rj108_2 j108_l1)) n
theorem sj108_l1 (H0 : Hp) (n : Nat) : L3 (rj108_l1 n) (j108_l1 H0) := by
  induction n with
  | zero => exact fun _ _ _ _ => le_none _
  | succ n hj108_l1 => exact fun _ _ _ _ => le_eq (m108_l1 (sj108_1 H0) (sj108_2 H0 hj108_l1) _ _ _ _) (e108_l1 H0 _ _ _ _)
def bc108 (j108_l1 : A3) (p0 : AV) (H : Hp) : Res :=
  bnd (alenD .string p0) fun t7 =>
  j108_l1 p0 t7 (.int .i64 0) H
theorem ec108 (p0 : AV) (H : Hp) : c108 p0 H = bc108 (j108_l1 H) p0 H := (callw_cxm (C := cfg) (fn := Tryz.f108) (c := bodyOf Tryz.f108) (n := 54) [3, 8, 9] Tryz.func108 (by kernel_rfl) (by kernel_rfl) [p0] (by kernel_rfl) H).trans (by kernel_rfl)
theorem mc108 {j108_l1 dj108_l1 : A3} (hj108_l1 : L3 j108_l1 dj108_l1) : L1 (bc108 j108_l1) (bc108 dj108_l1) := fun _ _ =>
  bR fun _ => hj108_l1 _ _ _ _
def rc108 : A1 := fun p0 H => bc108 (rj108_l1 100000) p0 H
theorem sc108 : L1 rc108 c108 := fun _ H => le_eq (mc108 (sj108_l1 H 100000) _ _) (ec108 _ _)
def q108 : A1 := fun p0 H => flatC (callw cfg 108) [p0] H
def rq108 : A1 := fun p0 H => flatC (ofL1 (rc108)) [p0] H
theorem sq108 : L1 rq108 q108 := fun _ _ => flat_le (ofL1_le (sc108)) _ _

def c109 (p0 : AV) (H : Hp) : Res := callw cfg 109 [p0] H
def j109_2 (H0 : Hp) (H : Hp) : Res := CXf 109 28 (sub (bodyOf Tryz.f109) [1, 1, 1, 1]) (retL cfg 28 109 Tryz.f109 H0) [] H
def k109_1 (H0 : Hp) : KL := seqL (fun k al H => CXf 109 28 (sub (bodyOf Tryz.f109) [1, 1, 1, 1]) k (trimL (cfg.keep 109) (sub (bodyOf Tryz.f109) [1, 1, 1, 1]) al) H) (retL cfg 28 109 Tryz.f109 H0)
theorem k109_1_tame (H0 : Hp) : Tame 28 (k109_1 H0) := tame_seq (C := cfg) (kp := cfg.keep 109) (sub (bodyOf Tryz.f109) [1, 1, 1, 1]) (tame_ret 109 Tryz.f109 H0)
def j109_4 (H0 : Hp) (x3 x10 x11 x12 : AV) (H : Hp) : Res := CXf 109 28 (sub (bodyOf Tryz.f109) [1, 1, 1, 0, 1, 0, 0, 1, 1, 1]) (seqL (fun k al H => LPf 109 28 (sub (bodyOf Tryz.f109) [1, 1, 1, 0, 1, 0, 0]) k (trimL (cfg.keep 109) (sub (bodyOf Tryz.f109) [1, 1, 1, 0, 1, 0, 0]) al) H) (blockL 0 (k109_1 H0))) [(3, x3), (10, x10), (11, x11), (12, x12)] H
def k109_2 (H0 : Hp) : KL := seqL (fun k al H => CXf 109 28 (sub (bodyOf Tryz.f109) [1, 1, 1, 0, 1, 0, 0, 1, 1, 1]) k (trimL (cfg.keep 109) (sub (bodyOf Tryz.f109) [1, 1, 1, 0, 1, 0, 0, 1, 1, 1]) al) H) (seqL (fun k al H => LPf 109 28 (sub (bodyOf Tryz.f109) [1, 1, 1, 0, 1, 0, 0]) k (trimL (cfg.keep 109) (sub (bodyOf Tryz.f109) [1, 1, 1, 0, 1, 0, 0]) al) H) (blockL 0 (k109_1 H0)))
def j109_6 (H0 : Hp) (x3 x5 x10 x11 x12 : AV) (H : Hp) : Res := CXf 109 28 (sub (bodyOf Tryz.f109) [1, 1, 1, 0, 1, 0, 0, 1, 1, 0, 0, 1, 1, 1]) (blockL 1 (k109_2 H0)) [(3, x3), (5, x5), (10, x10), (11, x11), (12, x12)] H
def j109_5 (H0 : Hp) (x3 x5 x10 x11 x12 : AV) (H : Hp) : Res := CXf 109 28 (sub (bodyOf Tryz.f109) [1, 1, 1, 0, 1, 0, 0, 1, 1, 0, 0, 1, 1]) (blockL 1 (k109_2 H0)) [(3, x3), (5, x5), (10, x10), (11, x11), (12, x12)] H
def j109_3 (H0 : Hp) (x3 x10 x11 x12 x13 : AV) (H : Hp) : Res := CXf 109 28 (sub (bodyOf Tryz.f109) [1, 1, 1, 0, 1, 0, 0, 1, 1]) (seqL (fun k al H => LPf 109 28 (sub (bodyOf Tryz.f109) [1, 1, 1, 0, 1, 0, 0]) k (trimL (cfg.keep 109) (sub (bodyOf Tryz.f109) [1, 1, 1, 0, 1, 0, 0]) al) H) (blockL 0 (k109_1 H0))) [(3, x3), (10, x10), (11, x11), (12, x12), (13, x13)] H
def j109_l1 (H0 : Hp) (x3 x10 x11 x12 : AV) (H : Hp) : Res := LPf 109 28 (sub (bodyOf Tryz.f109) [1, 1, 1, 0, 1, 0, 0]) (blockL 0 (k109_1 H0)) [(3, x3), (10, x10), (11, x11), (12, x12)] H
def j109_1 (H0 : Hp) (x0 : AV) (H : Hp) : Res := CXf 109 28 (sub (bodyOf Tryz.f109) [1, 1]) (retL cfg 28 109 Tryz.f109 H0) [(0, x0)] H
def b109_2 (H : Hp) : Res :=
  some ((.int .i64 0), H)
theorem e109_2 (H0 : Hp) (H : Hp) : j109_2 H0 H = b109_2 H := (CXM_eq [3, 6, 9, 11, 12, 13] _ _ _ _).trans (by kernel_rfl)
theorem m109_2 : L0 (b109_2) (b109_2) := fun _ =>
  le_refl _
def b109_4 (j109_l1 : A4) (x3 x10 x11 x12 : AV) (H : Hp) : Res :=
  bnd (ibin .add x12 (.int .i64 1)) fun t27 =>
  j109_l1 x3 x10 x11 t27 H
theorem e109_4 (H0 : Hp) (x3 x10 x11 x12 : AV) (H : Hp) : j109_4 H0 x3 x10 x11 x12 H = b109_4 (j109_l1 H0) x3 x10 x11 x12 H := (CXM_eq [3, 6, 9, 11, 12, 13] _ _ _ _).trans (by kernel_rfl)
theorem m109_4 {j109_l1 dj109_l1 : A4} (hj109_l1 : L4 j109_l1 dj109_l1) : L4 (b109_4 j109_l1) (b109_4 dj109_l1) := fun _ _ _ _ _ =>
  bR fun _ => hj109_l1 _ _ _ _ _
def b109_6 (j109_4 : A4) (x3 x5 x10 x11 x12 : AV) (H : Hp) : Res :=
  bnd (afield 0 x5) fun t25 =>
  bnd (aload false 1 t25 H) fun t26 =>
  bnd (amapSet .string x3 t26 (.bool true) H) fun r_11 =>
  j109_4 x3 x10 x11 x12 r_11.2
theorem e109_6 (H0 : Hp) (x3 x5 x10 x11 x12 : AV) (H : Hp) : j109_6 H0 x3 x5 x10 x11 x12 H = b109_6 (j109_4 H0) x3 x5 x10 x11 x12 H := (CXM_eq [3, 6, 9, 11, 12, 13] _ _ _ _).trans (by kernel_rfl)
theorem m109_6 {j109_4 dj109_4 : A4} (hj109_4 : L4 j109_4 dj109_4) : L5 (b109_6 j109_4) (b109_6 dj109_4) := fun _ _ _ _ _ _ =>
  bR fun _ => bR fun _ => bR fun _ => hj109_4 _ _ _ _ _
def b109_5 (j109_6 : A5) (x3 x5 x10 x11 x12 : AV) (H : Hp) : Res :=
  bnd (afield 0 x5) fun t21 =>
  bnd (aload false 1 t21 H) fun t22 =>
  bnd (alookup .string (.bool false) false x3 t22 H) fun t23 =>
  cnd t23
    (some ((.int .i64 6), H))
    (j109_6 x3 x5 x10 x11 x12 H)
theorem e109_5 (H0 : Hp) (x3 x5 x10 x11 x12 : AV) (H : Hp) : j109_5 H0 x3 x5 x10 x11 x12 H = b109_5 (j109_6 H0) x3 x5 x10 x11 x12 H := (CXM_eq [3, 6, 9, 11, 12, 13] _ _ _ _).trans (by kernel_rfl)
theorem m109_5 {j109_6 dj109_6 : A5} (hj109_6 : L5 j109_6 dj109_6) : L5 (b109_5 j109_6) (b109_5 dj109_6) := fun _ _ _ _ _ _ =>
  bR fun _ => bR fun _ => bR fun _ => bK (le_refl _) (hj109_6 _ _ _ _ _ _)
def b109_3 (q108 : A1) (j109_5 : A5) (x3 x10 x11 x12 x13 : AV) (H : Hp) : Res :=
  bnd (aindexS 5 x10 x12) fun t14 =>
  bnd (aload true 5 t14 H) fun t15 =>
  bnd (some ((.ptr H.length 0), H ++ [.cells [(.str []), (.int .u64 0), (.int .u64 0), (.int .u64 0), (.int .u64 0)]])) fun r5 =>
  bnd (astoreU 5 r5.1 t15 r5.2) fun r_8 =>
  bnd (afield 0 r5.1) fun t16 =>
  bnd (aload false 1 t16 r_8.2) fun t17 =>
  bnd (q108 t17 r_8.2) fun r18 =>
  bnd (aun .not r18.1) fun t19 =>
  cnd t19
    (some ((.int .i64 4), r18.2))
    (j109_5 x3 r5.1 x10 x11 x12 r18.2)
theorem e109_3 (H0 : Hp) (x3 x10 x11 x12 x13 : AV) (H : Hp) : j109_3 H0 x3 x10 x11 x12 x13 H = b109_3 q108 (j109_5 H0) x3 x10 x11 x12 x13 H := (CXM_eq [3, 6, 9, 11, 12, 13] _ _ _ _).trans (by kernel_rfl)
theorem m109_3 {q108 dq108 : A1} (hq108 : L1 q108 dq108) {j109_5 dj109_5 : A5} (hj109_5 : L5 j109_5 dj109_5) : L5 (b109_3 q108 j109_5) (b109_3 dq108 dj109_5) := fun _ _ _ _ _ _ =>
  bR fun _ => bR fun _ => bR fun _ => bR fun _ => bR fun _ => bR fun _ => bC (hq108 _ _) fun _ => bR fun _ => bK (le_refl _) (hj109_5 _ _ _ _ _ _)
def b109_l1 (j109_2 : A0) (j109_3 : A5) (x3 x10 x11 x12 : AV) (H : Hp) : Res :=
  bnd (ibin .lss x12 x11) fun t13 =>
  cnd t13
    (j109_3 x3 x10 x11 x12 t13 H)
    (j109_2 H)
theorem e109_l1 (H0 : Hp) (x3 x10 x11 x12 : AV) (H : Hp) : j109_l1 H0 x3 x10 x11 x12 H = b109_l1 (j109_2 H0) (j109_3 H0) x3 x10 x11 x12 H := (LPL_eqm (C := cfg) [3, 6, 9, 11, 12, 13] (tame_block 0 (k109_1_tame H0)) _ _).trans (by kernel_rfl)
theorem m109_l1 {j109_2 dj109_2 : A0} (hj109_2 : L0 j109_2 dj109_2) {j109_3 dj109_3 : A5} (hj109_3 : L5 j109_3 dj109_3) : L4 (b109_l1 j109_2 j109_3) (b109_l1 dj109_2 dj109_3) := fun _ _ _ _ _ =>
  bR fun _ => bK (hj109_3 _ _ _ _ _ _) (hj109_2 _)
def b109_1 (j109_l1 : A4) (x0 : AV) (H : Hp) : Res :=
  bnd (some ((.map H.length), H ++ [.map [] 0])) fun r9 =>
  bnd (alenD (.slice 146) x0) fun t11 =>
  j109_l1 r9.1 x0 t11 (.int .i64 0) r9.2
theorem e109_1 (H0 : Hp) (x0 : AV) (H : Hp) : j109_1 H0 x0 H = b109_1 (j109_l1 H0) x0 H := (CXM_eq [3, 6, 9, 11, 12, 13] _ _ _ _).trans (by kernel_rfl)
theorem m109_1 {j109_l1 dj109_l1 : A4} (hj109_l1 : L4 j109_l1 dj109_l1) : L1 (b109_1 j109_l1) (b109_1 dj109_l1) := fun _ _ =>
  bR fun _ => bR fun _ => hj109_l1 _ _ _ _ _
def rj109_2 : A0 := b109_2
theorem sj109_2 (H0 : Hp) : L0 (rj109_2) (j109_2 H0) := fun _ => le_eq (m109_2 _) (e109_2 H0 _)
def rj109_4 (j109_l1 : A4) : A4 := b109_4 j109_l1
theorem sj109_4 (H0 : Hp) {yj109_l1 : A4} (hj109_l1 : L4 yj109_l1 (j109_l1 H0)) : L4 (rj109_4 yj109_l1) (j109_4 H0) := fun _ _ _ _ _ => le_eq (m109_4 hj109_l1 _ _ _ _ _) (e109_4 H0 _ _ _ _ _)
def rj109_6 (j109_l1 : A4) : A5 := b109_6 (rj109_4 j109_l1)
theorem sj109_6 (H0 : Hp) {yj109_l1 : A4} (hj109_l1 : L4 yj109_l1 (j109_l1 H0)) : L5 (rj109_6 yj109_l1) (j109_6 H0) := fun _ _ _ _ _ _ => le_eq (m109_6 (sj109_4 H0 hj109_l1) _ _ _ _ _ _) (e109_6 H0 _ _ _ _ _ _)
def rj109_5 (j109_l1 : A4) : A5 := b109_5 (rj109_6 j109_l1)
theorem sj109_5 (H0 : Hp) {yj109_l1 : A4} (hj109_l1 : L4 yj109_l1 (j109_l1 H0)) : L5 (rj109_5 yj109_l1) (j109_5 H0) := fun _ _ _ _ _ _ => le_eq (m109_5 (sj109_6 H0 hj109_l1) _ _ _ _ _ _) (e109_5 H0 _ _ _ _ _ _)
def rj109_3 (j109_l1 : A4) : A5 := b109_3 rq108 (rj109_5 j109_l1)
theorem sj109_3 (H0 : Hp) {yj109_l1 : A4} (hj109_l1 : L4 yj109_l1 (j109_l1 H0)) : L5 (rj109_3 yj109_l1) (j109_3 H0) := fun _ _ _ _ _ _ => le_eq (m109_3 sq108 (sj109_5 H0 hj109_l1) _ _ _ _ _ _) (e109_3 H0 _ _ _ _ _ _)
def rj109_l1 (n : Nat) : A4 := @Nat.rec (fun _ => A4) (fun _ _ _ _ _ => none) (fun _ j109_l1 => b109_l1 (rj109_2) (rj109_3 j109_l1)) n
theorem sj109_l1 (H0 : Hp) (n : Nat) : L4 (rj109_l1 n) (j109_l1 H0) := by
  induction n with
  | zero => exact fun _ _ _ _ _ => le_none _
  | succ n hj109_l1 => exact fun _ _ _ _ _ => le_eq (m109_l1 (sj109_2 H0) (sj109_3 H0 hj109_l1) _ _ _ _ _) (e109_l1 H0 _ _ _ _ _)
def rj109_1 : A1 := b109_1 (rj109_l1 100000)
theorem sj109_1 (H0 : Hp) : L1 (rj109_1) (j109_1 H0) := fun _ _ => le_eq (m109_1 (sj109_l1 H0 100000) _ _) (e109_1 H0 _ _)
def bc109 (j109_1 : A1) (p0 : AV) (H : Hp) : Res :=
  bnd (alenD (.slice 146) p0) fun t7 =>
  bnd (ibin .gtr t7 (.int .i64 24)) fun t8 =>
  cnd t8
    (some ((.int .i64 3), H))
    (j109_1 p0 H)
theorem ec109 (p0 : AV) (H : Hp) : c109 p0 H = bc109 (j109_1 H) p0 H := (callw_cxm (C := cfg) (fn := Tryz.f109) (c := bodyOf Tryz.f109) (n := 28) [3, 6, 9, 11, 12, 13] Tryz.func109 (by kernel_rfl) (by kernel_rfl) [p0] (by kernel_rfl) H).trans (by kernel_rfl)
theorem mc109 {j109_1 dj109_1 : A1} (hj109_1 : L1 j109_1 dj109_1) : L1 (bc109 j109_1) (bc109 dj109_1) := fun _ _ =>
  bR fun _ => bR fun _ => bK (le_refl _) (hj109_1 _ _)
def rc109 : A1 := fun p0 H => bc109 (rj109_1) p0 H
theorem sc109 : L1 rc109 c109 := fun _ H => le_eq (mc109 (sj109_1 H) _ _) (ec109 _ _)
def q109 : A1 := fun p0 H => flatC (callw cfg 109) [p0] H
def rq109 : A1 := fun p0 H => flatC (ofL1 (rc109)) [p0] H
theorem sq109 : L1 rq109 q109 := fun _ _ => flat_le (ofL1_le (sc109)) _ _

def c110 (p0 : AV) (H : Hp) : Res := callw cfg 110 [p0] H
def j110_2 (H0 : Hp) (H : Hp) : Res := CXf 110 38 (sub (bodyOf Tryz.f110) [1, 1, 1, 1]) (retL cfg 38 110 Tryz.f110 H0) [] H
def k110_1 (H0 : Hp) : KL := seqL (fun k al H => CXf 110 38 (sub (bodyOf Tryz.f110) [1, 1, 1, 1]) k (trimL (cfg.keep 110) (sub (bodyOf Tryz.f110) [1, 1, 1, 1]) al) H) (retL cfg 38 110 Tryz.f110 H0)
theorem k110_1_tame (H0 : Hp) : Tame 38 (k110_1 H0) := tame_seq (C := cfg) (kp := cfg.keep 110) (sub (bodyOf Tryz.f110) [1, 1, 1, 1]) (tame_ret 110 Tryz.f110 H0)
def j110_4 (H0 : Hp) (x3 x10 x11 x12 : AV) (H : Hp) : Res := CXf 110 38 (sub (bodyOf Tryz.f110) [1, 1, 1, 0, 1, 0, 0, 1, 1, 1]) (seqL (fun k al H => LPf 110 38 (sub (bodyOf Tryz.f110) [1, 1, 1, 0, 1, 0, 0]) k (trimL (cfg.keep 110) (sub (bodyOf Tryz.f110) [1, 1, 1, 0, 1, 0, 0]) al) H) (blockL 0 (k110_1 H0))) [(3, x3), (10, x10), (11, x11), (12, x12)] H
def k110_2 (H0 : Hp) : KL := seqL (fun k al H => CXf 110 38 (sub (bodyOf Tryz.f110) [1, 1, 1, 0, 1, 0, 0, 1, 1, 1]) k (trimL (cfg.keep 110) (sub (bodyOf Tryz.f110) [1, 1, 1, 0, 1, 0, 0, 1, 1, 1]) al) H) (seqL (fun k al H => LPf 110 38 (sub (bodyOf Tryz.f110) [1, 1, 1, 0, 1, 0, 0]) k (trimL (cfg.keep 110) (sub (bodyOf Tryz.f110) [1, 1, 1, 0, 1, 0, 0]) al) H) (blockL 0 (k110_1 H0)))
def j110_6 (H0 : Hp) (x3 x5 x10 x11 x12 : AV) (H : Hp) : Res := CXf 110 38 (sub (bodyOf Tryz.f110) [1, 1, 1, 0, 1, 0, 0, 1, 1, 0, 0, 1, 1, 1]) (blockL 1 (k110_2 H0)) [(3, x3), (5, x5), (10, x10), (11, x11), (12, x12)] H
def j110_5 (H0 : Hp) (x3 x5 x10 x11 x12 : AV) (H : Hp) : Res := CXf 110 38 (sub (bodyOf Tryz.f110) [1, 1, 1, 0, 1, 0, 0, 1, 1, 0, 0, 1, 1]) (blockL 1 (k110_2 H0)) [(3, x3), (5, x5), (10, x10), (11, x11), (12, x12)] H
def j110_3 (H0 : Hp) (x3 x10 x11 x12 x13 : AV) (H : Hp) : Res := CXf 110 38 (sub (bodyOf Tryz.f110) [1, 1, 1, 0, 1, 0, 0, 1, 1]) (seqL (fun k al H => LPf 110 38 (sub (bodyOf Tryz.f110) [1, 1, 1, 0, 1, 0, 0]) k (trimL (cfg.keep 110) (sub (bodyOf Tryz.f110) [1, 1, 1, 0, 1, 0, 0]) al) H) (blockL 0 (k110_1 H0))) [(3, x3), (10, x10), (11, x11), (12, x12), (13, x13)] H
def j110_l1 (H0 : Hp) (x3 x10 x11 x12 : AV) (H : Hp) : Res := LPf 110 38 (sub (bodyOf Tryz.f110) [1, 1, 1, 0, 1, 0, 0]) (blockL 0 (k110_1 H0)) [(3, x3), (10, x10), (11, x11), (12, x12)] H
def j110_1 (H0 : Hp) (x0 : AV) (H : Hp) : Res := CXf 110 38 (sub (bodyOf Tryz.f110) [1, 1]) (retL cfg 38 110 Tryz.f110 H0) [(0, x0)] H
def b110_2 (H : Hp) : Res :=
  some ((.int .i64 0), H)
theorem e110_2 (H0 : Hp) (H : Hp) : j110_2 H0 H = b110_2 H := (CXM_eq [3, 6, 9, 11, 12, 13] _ _ _ _).trans (by kernel_rfl)
theorem m110_2 : L0 (b110_2) (b110_2) := fun _ =>
  le_refl _
def b110_4 (j110_l1 : A4) (x3 x10 x11 x12 : AV) (H : Hp) : Res :=
  bnd (ibin .add x12 (.int .i64 1)) fun t37 =>
  j110_l1 x3 x10 x11 t37 H
theorem e110_4 (H0 : Hp) (x3 x10 x11 x12 : AV) (H : Hp) : j110_4 H0 x3 x10 x11 x12 H = b110_4 (j110_l1 H0) x3 x10 x11 x12 H := (CXM_eq [3, 6, 9, 11, 12, 13] _ _ _ _).trans (by kernel_rfl)
theorem m110_4 {j110_l1 dj110_l1 : A4} (hj110_l1 : L4 j110_l1 dj110_l1) : L4 (b110_4 j110_l1) (b110_4 dj110_l1) := fun _ _ _ _ _ =>
  bR fun _ => hj110_l1 _ _ _ _ _
def b110_6 (j110_4 : A4) (x3 x5 x10 x11 x12 : AV) (H : Hp) : Res :=
  bnd (afield 0 x5) fun t35 =>
  bnd (aload false 1 t35 H) fun t36 =>
  bnd (amapSet .string x3 t36 (.bool true) H) fun r_11 =>
  j110_4 x3 x10 x11 x12 r_11.2
theorem e110_6 (H0 : Hp) (x3 x5 x10 x11 x12 : AV) (H : Hp) : j110_6 H0 x3 x5 x10 x11 x12 H = b110_6 (j110_4 H0) x3 x5 x10 x11 x12 H := (CXM_eq [3, 6, 9, 11, 12, 13] _ _ _ _).trans (by kernel_rfl)
theorem m110_6 {j110_4 dj110_4 : A4} (hj110_4 : L4 j110_4 dj110_4) : L5 (b110_6 j110_4) (b110_6 dj110_4) := fun _ _ _ _ _ _ =>
  bR fun _ => bR fun _ => bR fun _ => hj110_4 _ _ _ _ _
def b110_5 (j110_6 : A5) (x3 x5 x10 x11 x12 : AV) (H : Hp) : Res :=
  bnd (afield 0 x5) fun t31 =>
  bnd (aload false 1 t31 H) fun t32 =>
  bnd (alookup .string (.bool false) false x3 t32 H) fun t33 =>
  cnd t33
    (some ((.int .i64 6), H))
    (j110_6 x3 x5 x10 x11 x12 H)
theorem e110_5 (H0 : Hp) (x3 x5 x10 x11 x12 : AV) (H : Hp) : j110_5 H0 x3 x5 x10 x11 x12 H = b110_5 (j110_6 H0) x3 x5 x10 x11 x12 H := (CXM_eq [3, 6, 9, 11, 12, 13] _ _ _ _).trans (by kernel_rfl)
theorem m110_5 {j110_6 dj110_6 : A5} (hj110_6 : L5 j110_6 dj110_6) : L5 (b110_5 j110_6) (b110_5 dj110_6) := fun _ _ _ _ _ _ =>
  bR fun _ => bR fun _ => bR fun _ => bK (le_refl _) (hj110_6 _ _ _ _ _ _)
def b110_3 (j110_5 : A5) (x3 x10 x11 x12 x13 : AV) (H : Hp) : Res :=
  bnd (aindexS 2 x10 x12) fun t14 =>
  bnd (aload true 2 t14 H) fun t15 =>
  bnd (some ((.ptr H.length 0), H ++ [.cells [(.str []), (.int .i64 0)]])) fun r5 =>
  bnd (astoreU 2 r5.1 t15 r5.2) fun r_8 =>
  bnd (afield 0 r5.1) fun t16 =>
  bnd (aload false 1 t16 r_8.2) fun t17 =>
  bnd (alenD .string t17) fun t18 =>
  bnd (ibin .neq t18 (.int .i64 2)) fun t19 =>
  bnd (gdv t19 false (.tuple []) (afield 1 r5.1)) fun t21 =>
  bnd (gdv t19 false (.tuple []) (aload false 1 t21 r_8.2)) fun t22 =>
  bnd (gdv t19 false (.tuple []) (ibin .lss t22 (.int .i64 0))) fun t23 =>
  bnd (apick t19 (.bool true) t23) fun t24 =>
  bnd (gdv t24 false (.tuple []) (afield 1 r5.1)) fun t26 =>
  bnd (gdv t24 false (.tuple []) (aload false 1 t26 r_8.2)) fun t27 =>
  bnd (gdv t24 false (.tuple []) (ibin .gtr t27 (.int .i64 65535))) fun t28 =>
  bnd (apick t24 (.bool true) t28) fun t29 =>
  cnd t29
    (some ((.int .i64 2), r_8.2))
    (j110_5 x3 r5.1 x10 x11 x12 r_8.2)
theorem e110_3 (H0 : Hp) (x3 x10 x11 x12 x13 : AV) (H : Hp) : j110_3 H0 x3 x10 x11 x12 x13 H = b110_3 (j110_5 H0) x3 x10 x11 x12 x13 H := (CXM_eq [3, 6, 9, 11, 12, 13] _ _ _ _).trans (by kernel_rfl)
theorem m110_3 {j110_5 dj110_5 : A5} (hj110_5 : L5 j110_5 dj110_5) : L5 (b110_3 j110_5) (b110_3 dj110_5) := fun _ _ _ _ _ _ =>
  bR fun _ => bR fun _ => bR fun _ => bR fun _ => bR fun _ => bR fun _ => bR fun _ => bR fun _ => bR fun _ => bR fun _ => bR fun _ => bR fun _ => bR fun _ => bR fun _ => bR fun _ => bR fun _ => bK (le_refl _) (hj110_5 _ _ _ _ _ _)
def b110_l1 (j110_2 : A0) (j110_3 : A5) (x3 x10 x11 x12 : AV) (H : Hp) : Res :=
  bnd (ibin .lss x12 x11) fun t13 =>
  cnd t13
    (j110_3 x3 x10 x11 x12 t13 H)
    (j110_2 H)
theorem e110_l1 (H0 : Hp) (x3 x10 x11 x12 : AV) (H : Hp) : j110_l1 H0 x3 x10 x11 x12 H = b110_l1 (j110_2 H0) (j110_3 H0) x3 x10 x11 x12 H := (LPL_eqm (C := cfg) [3, 6, 9, 11, 12, 13] (tame_block 0 (k110_1_tame H0)) _ _).trans (by kernel_rfl)
theorem m110_l1 {j110_2 dj110_2 : A0} (hj110_2 : L0 j110_2 dj110_2) {j110_3 dj110_3 : A5} (hj110_3 : L5 j110_3 dj110_3) : L4 (b110_l1 j110_2 j110_3) (b110_l1 dj110_2 dj110_3) := fun _ _ _ _ _ =>
  bR fun _ => bK (hj110_3 _ _ _ _ _ _) (hj110_2 _)
def b110_1 (j110_l1 : A4) (x0 : AV) (H : Hp) : Res :=
  bnd (some ((.map H.length), H ++ [.map [] 0])) fun r9 =>
  bnd (alenD (.slice 116) x0) fun t11 =>
  j110_l1 r9.1 x0 t11 (.int .i64 0) r9.2
theorem e110_1 (H0 : Hp) (x0 : AV) (H : Hp) : j110_1 H0 x0 H = b110_1 (j110_l1 H0) x0 H := (CXM_eq [3, 6, 9, 11, 12, 13] _ _ _ _).trans (by kernel_rfl)
theorem m110_1 {j110_l1 dj110_l1 : A4} (hj110_l1 : L4 j110_l1 dj110_l1) : L1 (b110_1 j110_l1) (b110_1 dj110_l1) := fun _ _ =>
  bR fun _ => bR fun _ => hj110_l1 _ _ _ _ _
def rj110_2 : A0 := b110_2
theorem sj110_2 (H0 : Hp) : L0 (rj110_2) (j110_2 H0) := fun _ => le_eq (m110_2 _) (e110_2 H0 _)
def rj110_4 (j110_l1 : A4) : A4 := b110_4 j110_l1
theorem sj110_4 (H0 : Hp) {yj110_l1 : A4} (hj110_l1 : L4 yj110_l1 (j110_l1 H0)) : L4 (rj110_4 yj110_l1) (j110_4 H0) := fun _ _ _ _ _ => le_eq (m110_4 hj110_l1 _ _ _ _ _) (e110_4 H0 _ _ _ _ _)
def rj110_6 (j110_l1 : A4) : A5 := b110_6 (rj110_4 j110_l1)
theorem sj110_6 (H0 : Hp) {yj110_l1 : A4} (hj110_l1 : L4 yj110_l1 (j110_l1 H0)) : L5 (rj110_6 yj110_l1) (j110_6 H0) := fun _ _ _ _ _ _ => le_eq (m110_6 (sj110_4 H0 hj110_l1) _ _ _ _ _ _) (e110_6 H0 _ _ _ _ _ _)
def rj110_5 (j110_l1 : A4) : A5 := b110_5 (rj110_6 j110_l1)
theorem sj110_5 (H0 : Hp) {yj110_l1 : A4} (hj110_l1 : L4 yj110_l1 (j110_l1 H0)) : L5 (rj110_5 yj110_l1) (j110_5 H0) := fun _ _ _ _ _ _ => le_eq (m110_5 (sj110_6 H0 hj110_l1) _ _ _ _ _ _) (e110_5 H0 _ _ _ _ _ _)
def rj110_3 (j110_l1 : A4) : A5 := b110_3 (rj110_5 j110_l1)
theorem sj110_3 (H0 : Hp) {yj110_l1 : A4} (hj110_l1 : L4 yj110_l1 (j110_l1 H0)) : L5 (rj110_3 yj110_l1) (j110_3 H0) := fun _ _ _ _ _ _ => le_eq (m110_3 (sj110_5 H0 hj110_l1) _ _ _ _ _ _) (e110_3 H0 _ _ _ _ _ _)
def rj110_l1 (n : Nat) : A4 := @Nat.rec (fun _ => A4) (fun _ _ _ _ _ => none) (fun _ j110_l1 => b110_l1 (rj110_2) (rj110_3 j110_l1)) n
theorem sj110_l1 (H0 : Hp) (n : Nat) : L4 (rj110_l1 n) (j110_l1 H0) := by
  induction n with
  | zero => exact fun _ _ _ _ _ => le_none _
  | succ n hj110_l1 => exact fun _ _ _ _ _ => le_eq (m110_l1 (sj110_2 H0) (sj110_3 H0 hj110_l1) _ _ _ _ _) (e110_l1 H0 _ _ _ _ _)
def rj110_1 : A1 := b110_1 (rj110_l1 100000)
theorem sj110_1 (H0 : Hp) : L1 (rj110_1) (j110_1 H0) := fun _ _ => le_eq (m110_1 (sj110_l1 H0 100000) _ _) (e110_1 H0 _ _)
def bc110 (j110_1 : A1) (p0 : AV) (H : Hp) : Res :=
  bnd (alenD (.slice 116) p0) fun t7 =>
  bnd (ibin .gtr t7 (.int .i64 64)) fun t8 =>
  cnd t8
    (some ((.int .i64 3), H))
    (j110_1 p0 H)
theorem ec110 (p0 : AV) (H : Hp) : c110 p0 H = bc110 (j110_1 H) p0 H := (callw_cxm (C := cfg) (fn := Tryz.f110) (c := bodyOf Tryz.f110) (n := 38) [3, 6, 9, 11, 12, 13] Tryz.func110 (by kernel_rfl) (by kernel_rfl) [p0] (by kernel_rfl) H).trans (by kernel_rfl)
theorem mc110 {j110_1 dj110_1 : A1} (hj110_1 : L1 j110_1 dj110_1) : L1 (bc110 j110_1) (bc110 dj110_1) := fun _ _ =>
  bR fun _ => bR fun _ => bK (le_refl _) (hj110_1 _ _)
def rc110 : A1 := fun p0 H => bc110 (rj110_1) p0 H
theorem sc110 : L1 rc110 c110 := fun _ H => le_eq (mc110 (sj110_1 H) _ _) (ec110 _ _)
def q110 : A1 := fun p0 H => flatC (callw cfg 110) [p0] H
def rq110 : A1 := fun p0 H => flatC (ofL1 (rc110)) [p0] H
theorem sq110 : L1 rq110 q110 := fun _ _ => flat_le (ofL1_le (sc110)) _ _

def c90 (p0 : AV) (H : Hp) : Res := callw cfg 90 [p0] H
def j90_4 (H0 : Hp) (x1 : AV) (H : Hp) : Res := CXf 90 49 (sub (bodyOf Tryz.f90) [1, 1, 1, 1, 1]) (retL cfg 49 90 Tryz.f90 H0) [(1, x1)] H
def j90_3 (H0 : Hp) (x1 : AV) (H : Hp) : Res := CXf 90 49 (sub (bodyOf Tryz.f90) [1, 1, 1, 1]) (retL cfg 49 90 Tryz.f90 H0) [(1, x1)] H
def k90_1 (H0 : Hp) : KL := seqL (fun k al H => CXf 90 49 (sub (bodyOf Tryz.f90) [1, 1, 1, 1]) k (trimL (cfg.keep 90) (sub (bodyOf Tryz.f90) [1, 1, 1, 1]) al) H) (retL cfg 49 90 Tryz.f90 H0)
theorem k90_1_tame (H0 : Hp) : Tame 49 (k90_1 H0) := tame_seq (C := cfg) (kp := cfg.keep 90) (sub (bodyOf Tryz.f90) [1, 1, 1, 1]) (tame_ret 90 Tryz.f90 H0)
def j90_6 (H0 : Hp) (x1 x27 x28 x29 : AV) (H : Hp) : Res := CXf 90 49 (sub (bodyOf Tryz.f90) [1, 1, 1, 0, 1, 0, 0, 1, 1, 1]) (seqL (fun k al H => LPf 90 49 (sub (bodyOf Tryz.f90) [1, 1, 1, 0, 1, 0, 0]) k (trimL (cfg.keep 90) (sub (bodyOf Tryz.f90) [1, 1, 1, 0, 1, 0, 0]) al) H) (blockL 0 (k90_1 H0))) [(1, x1), (27, x27), (28, x28), (29, x29)] H
def j90_5 (H0 : Hp) (x1 x27 x28 x29 x30 : AV) (H : Hp) : Res := CXf 90 49 (sub (bodyOf Tryz.f90) [1, 1, 1, 0, 1, 0, 0, 1, 1]) (seqL (fun k al H => LPf 90 49 (sub (bodyOf Tryz.f90) [1, 1, 1, 0, 1, 0, 0]) k (trimL (cfg.keep 90) (sub (bodyOf Tryz.f90) [1, 1, 1, 0, 1, 0, 0]) al) H) (blockL 0 (k90_1 H0))) [(1, x1), (27, x27), (28, x28), (29, x29), (30, x30)] H
def j90_l1 (H0 : Hp) (x1 x27 x28 x29 : AV) (H : Hp) : Res := LPf 90 49 (sub (bodyOf Tryz.f90) [1, 1, 1, 0, 1, 0, 0]) (blockL 0 (k90_1 H0)) [(1, x1), (27, x27), (28, x28), (29, x29)] H
def j90_2 (H0 : Hp) (x1 : AV) (H : Hp) : Res := CXf 90 49 (sub (bodyOf Tryz.f90) [1, 1, 1]) (retL cfg 49 90 Tryz.f90 H0) [(1, x1)] H
def j90_1 (H0 : Hp) (x1 : AV) (H : Hp) : Res := CXf 90 49 (sub (bodyOf Tryz.f90) [1, 1]) (retL cfg 49 90 Tryz.f90 H0) [(1, x1)] H
def b90_4 (q110 : A1) (x1 : AV) (H : Hp) : Res :=
  bnd (afield 5 x1) fun t46 =>
  bnd (aload false 1 t46 H) fun t47 =>
  bnd (q110 t47 H) fun r48 =>
  some (r48.1, r48.2)
theorem e90_4 (H0 : Hp) (x1 : AV) (H : Hp) : j90_4 H0 x1 H = b90_4 q110 x1 H := (CXM_eq [3, 5, 7, 10, 11, 14] _ _ _ _).trans (by kernel_rfl)
theorem m90_4 {q110 dq110 : A1} (hq110 : L1 q110 dq110) : L1 (b90_4 q110) (b90_4 dq110) := fun _ _ =>
  bR fun _ => bR fun _ => bC (hq110 _ _) fun _ => le_refl _
def b90_3 (q109 : A1) (j90_4 : A1) (x1 : AV) (H : Hp) : Res :=
  bnd (afield 4 x1) fun t40 =>
  bnd (aload false 1 t40 H) fun t41 =>
  bnd (q109 t41 H) fun r42 =>
  bnd (ibin .neq r42.1 (.int .i64 0)) fun t44 =>
  cnd t44
    (some (r42.1, r42.2))
    (j90_4 x1 r42.2)
theorem e90_3 (H0 : Hp) (x1 : AV) (H : Hp) : j90_3 H0 x1 H = b90_3 q109 (j90_4 H0) x1 H := (CXM_eq [3, 5, 7, 10, 11, 14] _ _ _ _).trans (by kernel_rfl)
theorem m90_3 {q109 dq109 : A1} (hq109 : L1 q109 dq109) {j90_4 dj90_4 : A1} (hj90_4 : L1 j90_4 dj90_4) : L1 (b90_3 q109 j90_4) (b90_3 dq109 dj90_4) := fun _ _ =>
  bR fun _ => bR fun _ => bC (hq109 _ _) fun _ => bR fun _ => bK (le_refl _) (hj90_4 _ _)
def b90_6 (j90_l1 : A4) (x1 x27 x28 x29 : AV) (H : Hp) : Res :=
  bnd (ibin .add x29 (.int .i64 1)) fun t39 =>
  j90_l1 x1 x27 x28 t39 H
theorem e90_6 (H0 : Hp) (x1 x27 x28 x29 : AV) (H : Hp) : j90_6 H0 x1 x27 x28 x29 H = b90_6 (j90_l1 H0) x1 x27 x28 x29 H := (CXM_eq [3, 5, 7, 10, 11, 14] _ _ _ _).trans (by kernel_rfl)
theorem m90_6 {j90_l1 dj90_l1 : A4} (hj90_l1 : L4 j90_l1 dj90_l1) : L4 (b90_6 j90_l1) (b90_6 dj90_l1) := fun _ _ _ _ _ =>
  bR fun _ => hj90_l1 _ _ _ _ _
def b90_5 (j90_6 : A4) (x1 x27 x28 x29 x30 : AV) (H : Hp) : Res :=
  bnd (aindexS 1 x27 x29) fun t31 =>
  bnd (aload false 1 t31 H) fun t32 =>
  bnd (ibin .lss t32 (.int .i64 0)) fun t34 =>
  bnd (gdv t34 false (.tuple []) (some t32)) fun t36 =>
  bnd (gdv t34 false (.tuple []) (ibin .gtr t36 (.int .i64 65535))) fun t37 =>
  bnd (apick t34 (.bool true) t37) fun t38 =>
  cnd t38
    (some ((.int .i64 2), H))
    (j90_6 x1 x27 x28 x29 H)
theorem e90_5 (H0 : Hp) (x1 x27 x28 x29 x30 : AV) (H : Hp) : j90_5 H0 x1 x27 x28 x29 x30 H = b90_5 (j90_6 H0) x1 x27 x28 x29 x30 H := (CXM_eq [3, 5, 7, 10, 11, 14] _ _ _ _).trans (by kernel_rfl)
theorem m90_5 {j90_6 dj90_6 : A4} (hj90_6 : L4 j90_6 dj90_6) : L5 (b90_5 j90_6) (b90_5 dj90_6) := fun _ _ _ _ _ _ =>
  bR fun _ => bR fun _ => bR fun _ => bR fun _ => bR fun _ => bR fun _ => bK (le_refl _) (hj90_6 _ _ _ _ _)
def b90_l1 (j90_3 : A1) (j90_5 : A5) (x1 x27 x28 x29 : AV) (H : Hp) : Res :=
  bnd (ibin .lss x29 x28) fun t30 =>
  cnd t30
    (j90_5 x1 x27 x28 x29 t30 H)
    (j90_3 x1 H)
theorem e90_l1 (H0 : Hp) (x1 x27 x28 x29 : AV) (H : Hp) : j90_l1 H0 x1 x27 x28 x29 H = b90_l1 (j90_3 H0) (j90_5 H0) x1 x27 x28 x29 H := (LPL_eqm (C := cfg) [3, 5, 7, 10, 11, 14] (tame_block 0 (k90_1_tame H0)) _ _).trans (by kernel_rfl)
theorem m90_l1 {j90_3 dj90_3 : A1} (hj90_3 : L1 j90_3 dj90_3) {j90_5 dj90_5 : A5} (hj90_5 : L5 j90_5 dj90_5) : L4 (b90_l1 j90_3 j90_5) (b90_l1 dj90_3 dj90_5) := fun _ _ _ _ _ =>
  bR fun _ => bK (hj90_5 _ _ _ _ _ _) (hj90_3 _ _)
def b90_2 (j90_l1 : A4) (x1 : AV) (H : Hp) : Res :=
  bnd (afield 1 x1) fun t26 =>
  bnd (aload false 1 t26 H) fun t27 =>
  bnd (alenD (.slice 3) t27) fun t28 =>
  j90_l1 x1 t27 t28 (.int .i64 0) H
theorem e90_2 (H0 : Hp) (x1 : AV) (H : Hp) : j90_2 H0 x1 H = b90_2 (j90_l1 H0) x1 H := (CXM_eq [3, 5, 7, 10, 11, 14] _ _ _ _).trans (by kernel_rfl)
theorem m90_2 {j90_l1 dj90_l1 : A4} (hj90_l1 : L4 j90_l1 dj90_l1) : L1 (b90_2 j90_l1) (b90_2 dj90_l1) := fun _ _ =>
  bR fun _ => bR fun _ => bR fun _ => hj90_l1 _ _ _ _ _
def b90_1 (j90_2 : A1) (x1 : AV) (H : Hp) : Res :=
  bnd (afield 1 x1) fun t10 =>
  bnd (aload false 1 t10 H) fun t11 =>
  bnd (alenD (.slice 3) t11) fun t12 =>
  bnd (ibin .neq t12 (.int .i64 256)) fun t13 =>
  bnd (gdv t13 false (.tuple []) (afield 2 x1)) fun t15 =>
  bnd (gdv t13 false (.tuple []) (aload false 1 t15 H)) fun t16 =>
  bnd (gdv t13 false (.tuple []) (alenD .string t16)) fun t17 =>
  bnd (gdv t13 false (.tuple []) (ibin .neq t17 (.int .i64 256))) fun t18 =>
  bnd (apick t13 (.bool true) t18) fun t19 =>
  bnd (gdv t19 false (.tuple []) (afield 3 x1)) fun t21 =>
  bnd (gdv t19 false (.tuple []) (aload false 1 t21 H)) fun t22 =>
  bnd (gdv t19 false (.tuple []) (alenD .string t22)) fun t23 =>
  bnd (gdv t19 false (.tuple []) (ibin .neq t23 (.int .i64 256))) fun t24 =>
  bnd (apick t19 (.bool true) t24) fun t25 =>
  cnd t25
    (some ((.int .i64 2), H))
    (j90_2 x1 H)
theorem e90_1 (H0 : Hp) (x1 : AV) (H : Hp) : j90_1 H0 x1 H = b90_1 (j90_2 H0) x1 H := (CXM_eq [3, 5, 7, 10, 11, 14] _ _ _ _).trans (by kernel_rfl)
theorem m90_1 {j90_2 dj90_2 : A1} (hj90_2 : L1 j90_2 dj90_2) : L1 (b90_1 j90_2) (b90_1 dj90_2) := fun _ _ =>
  bR fun _ => bR fun _ => bR fun _ => bR fun _ => bR fun _ => bR fun _ => bR fun _ => bR fun _ => bR fun _ => bR fun _ => bR fun _ => bR fun _ => bR fun _ => bR fun _ => bK (le_refl _) (hj90_2 _ _)
def rj90_4 : A1 := b90_4 rq110
theorem sj90_4 (H0 : Hp) : L1 (rj90_4) (j90_4 H0) := fun _ _ => le_eq (m90_4 sq110 _ _) (e90_4 H0 _ _)
def rj90_3 : A1 := b90_3 rq109 (rj90_4)
theorem sj90_3 (H0 : Hp) : L1 (rj90_3) (j90_3 H0) := fun _ _ => le_eq (m90_3 sq109 (sj90_4 H0) _ _) (e90_3 H0 _ _)
def rj90_6 (j90_l1 : A4) : A4 := b90_6 j90_l1
theorem sj90_6 (H0 : Hp) {yj90_l1 : A4} (hj90_l1 : L4 yj90_l1 (j90_l1 H0)) : L4 (rj90_6 yj90_l1) (j90_6 H0) := fun _ _ _ _ _ => le_eq (m90_6 hj90_l1 _ _ _ _ _) (e90_6 H0 _ _ _ _ _)
def rj90_5 (j90_l1 : A4) : A5 := b90_5 (rj90_6 j90_l1)
theorem sj90_5 (H0 : Hp) {yj90_l1 : A4} (hj90_l1 : L4 yj90_l1 (j90_l1 H0)) : L5 (rj90_5 yj90_l1) (j90_5 H0) := fun _ _ _ _ _ _ => le_eq (m90_5 (sj90_6 H0 hj90_l1) _ _ _ _ _ _) (e90_5 H0 _ _ _ _ _ _)
def rj90_l1 (n : Nat) : A4 := @Nat.rec (fun _ => A4) (fun _ _ _ _ _ => none) (fun _ j90_l1 => b90_l1 (rj90_3) (rj90_5 j90_l1)) n
theorem sj90_l1 (H0 : Hp) (n : Nat) : L4 (rj90_l1 n) (j90_l1 H0) := by
  induction n with
  | zero => exact fun _ _ _ _ _ => le_none _
  | succ n hj90_l1 => exact fun _ _ _ _ _ => le_eq (m90_l1 (sj90_3 H0) (sj90_5 H0 hj90_l1) _ _ _ _ _) (e90_l1 H0 _ _ _ _ _)
def rj90_2 : A1 := b90_2 (rj90_l1 100000)
theorem sj90_2 (H0 : Hp) : L1 (rj90_2) (j90_2 H0) := fun _ _ => le_eq (m90_2 (sj90_l1 H0 100000) _ _) (e90_2 H0 _ _)
def rj90_1 : A1 := b90_1 (rj90_2)
theorem sj90_1 (H0 : Hp) : L1 (rj90_1) (j90_1 H0) := fun _ _ => le_eq (m90_1 (sj90_2 H0) _ _) (e90_1 H0 _ _)
def bc90 (q108 : A1) (j90_1 : A1) (p0 : AV) (H : Hp) : Res :=
  bnd (abox p0 H) fun r1 =>
  bnd (afield 0 r1.1) fun t6 =>
  bnd (aload false 1 t6 r1.2) fun t7 =>
  bnd (q108 t7 r1.2) fun r8 =>
  bnd (aun .not r8.1) fun t9 =>
  cnd t9
    (some ((.int .i64 4), r8.2))
    (j90_1 r1.1 r8.2)
theorem ec90 (p0 : AV) (H : Hp) : c90 p0 H = bc90 q108 (j90_1 H) p0 H := (callw_cxm (C := cfg) (fn := Tryz.f90) (c := bodyOf Tryz.f90) (n := 49) [3, 5, 7, 10, 11, 14] Tryz.func90 (by kernel_rfl) (by kernel_rfl) [p0] (by kernel_rfl) H).trans (by kernel_rfl)
theorem mc90 {q108 dq108 : A1} (hq108 : L1 q108 dq108) {j90_1 dj90_1 : A1} (hj90_1 : L1 j90_1 dj90_1) : L1 (bc90 q108 j90_1) (bc90 dq108 dj90_1) := fun _ _ =>
  bR fun _ => bR fun _ => bR fun _ => bC (hq108 _ _) fun _ => bR fun _ => bK (le_refl _) (hj90_1 _ _)
def rc90 : A1 := fun p0 H => bc90 rq108 (rj90_1) p0 H
theorem sc90 : L1 rc90 c90 := fun _ H => le_eq (mc90 sq108 (sj90_1 H) _ _) (ec90 _ _)
def q90 : A1 := fun p0 H => flatC (callw cfg 90) [p0] H
def rq90 : A1 := fun p0 H => flatC (ofL1 (rc90)) [p0] H
theorem sq90 : L1 rq90 q90 := fun _ _ => flat_le (ofL1_le (sc90)) _ _

def c111 (p0 p1 p2 : AV) (H : Hp) : Res := callw cfg 111 [p0, p1, p2] H
def j111_1 (H0 : Hp) (x7 : AV) (H : Hp) : Res := CXf 111 40 (sub (bodyOf Tryz.f111) [1, 1, 1]) (retL cfg 40 111 Tryz.f111 H0) [(7, x7)] H
def k111_1 (H0 : Hp) : KL := seqL (fun k al H => CXf 111 40 (sub (bodyOf Tryz.f111) [1, 1, 1]) k (trimL (cfg.keep 111) (sub (bodyOf Tryz.f111) [1, 1, 1]) al) H) (retL cfg 40 111 Tryz.f111 H0)
theorem k111_1_tame (H0 : Hp) : Tame 40 (k111_1 H0) := tame_seq (C := cfg) (kp := cfg.keep 111) (sub (bodyOf Tryz.f111) [1, 1, 1]) (tame_ret 111 Tryz.f111 H0)
def j111_3 (H0 : Hp) (x0 x1 x2 x7 x11 x12 : AV) (H : Hp) : Res := CXf 111 40 (sub (bodyOf Tryz.f111) [1, 1, 0, 1, 0, 0, 1, 1, 1]) (seqL (fun k al H => LPf 111 40 (sub (bodyOf Tryz.f111) [1, 1, 0, 1, 0, 0]) k (trimL (cfg.keep 111) (sub (bodyOf Tryz.f111) [1, 1, 0, 1, 0, 0]) al) H) (blockL 0 (k111_1 H0))) [(0, x0), (1, x1), (2, x2), (7, x7), (11, x11), (12, x12)] H
def j111_2 (H0 : Hp) (x0 x1 x2 x7 x11 x12 x13 : AV) (H : Hp) : Res := CXf 111 40 (sub (bodyOf Tryz.f111) [1, 1, 0, 1, 0, 0, 1, 1]) (seqL (fun k al H => LPf 111 40 (sub (bodyOf Tryz.f111) [1, 1, 0, 1, 0, 0]) k (trimL (cfg.keep 111) (sub (bodyOf Tryz.f111) [1, 1, 0, 1, 0, 0]) al) H) (blockL 0 (k111_1 H0))) [(0, x0), (1, x1), (2, x2), (7, x7), (11, x11), (12, x12), (13, x13)] H
def j111_l1 (H0 : Hp) (x0 x1 x2 x7 x11 x12 : AV) (H : Hp) : Res := LPf 111 40 (sub (bodyOf Tryz.f111) [1, 1, 0, 1, 0, 0]) (blockL 0 (k111_1 H0)) [(0, x0), (1, x1), (2, x2), (7, x7), (11, x11), (12, x12)] H
def b111_1 (x7 : AV) (H : Hp) : Res :=
  bnd (cvRd x7 H) fun t39 =>
  some (t39, H)
theorem e111_1 (H0 : Hp) (x7 : AV) (H : Hp) : j111_1 H0 x7 H = b111_1 x7 H := (CXM_eq [4, 8, 9] _ _ _ _).trans (by kernel_rfl)
theorem m111_1 : L1 (b111_1) (b111_1) := fun _ _ =>
  bR fun _ => le_refl _
def b111_3 (j111_l1 : A6) (x0 x1 x2 x7 x11 x12 : AV) (H : Hp) : Res :=
  bnd (ibin .add x12 (.int .i64 1)) fun t37 =>
  j111_l1 x0 x1 x2 x7 x11 t37 H
theorem e111_3 (H0 : Hp) (x0 x1 x2 x7 x11 x12 : AV) (H : Hp) : j111_3 H0 x0 x1 x2 x7 x11 x12 H = b111_3 (j111_l1 H0) x0 x1 x2 x7 x11 x12 H := (CXM_eq [4, 8, 9] _ _ _ _).trans (by kernel_rfl)
theorem m111_3 {j111_l1 dj111_l1 : A6} (hj111_l1 : L6 j111_l1 dj111_l1) : L6 (b111_3 j111_l1) (b111_3 dj111_l1) := fun _ _ _ _ _ _ _ =>
  bR fun _ => hj111_l1 _ _ _ _ _ _ _
def b111_2 (j111_3 : A6) (x0 x1 x2 x7 x11 x12 x13 : AV) (H : Hp) : Res :=
  bnd (cvInt .u8 x12) fun t18 =>
  bnd (aindexS 1 x7 x12) fun t19 =>
  bnd (astoreU 1 t19 t18 H) fun r_8 =>
  bnd (cvInt .u8 x12) fun t21 =>
  bnd (ibin .geq t21 x0) fun t23 =>
  bnd (gdv t23 true (.tuple []) (some x12)) fun t25 =>
  bnd (gdv t23 true (.tuple []) (cvInt .u8 t25)) fun t26 =>
  bnd (gdv t23 true (.tuple []) (some x1)) fun t27 =>
  bnd (gdv t23 true (.tuple []) (ibin .leq t26 t27)) fun t28 =>
  bnd (apick t23 t28 (.bool false)) fun t29 =>
  cnd t29
    (bnd (ibin .add x12 x2) fun t34 =>
    bnd (cvInt .u8 t34) fun t35 =>
    bnd (aindexS 1 x7 x12) fun t36 =>
    bnd (astoreU 1 t36 t35 r_8.2) fun r_19 =>
    j111_3 x0 x1 x2 x7 x11 x12 r_19.2)
    (j111_3 x0 x1 x2 x7 x11 x12 r_8.2)
theorem e111_2 (H0 : Hp) (x0 x1 x2 x7 x11 x12 x13 : AV) (H : Hp) : j111_2 H0 x0 x1 x2 x7 x11 x12 x13 H = b111_2 (j111_3 H0) x0 x1 x2 x7 x11 x12 x13 H := (CXM_eq [4, 8, 9] _ _ _ _).trans (by kernel_rfl)
theorem m111_2 {j111_3 dj111_3 : A6} (hj111_3 : L6 j111_3 dj111_3) : L7 (b111_2 j111_3) (b111_2 dj111_3) := fun _ _ _ _ _ _ _ _ =>
  bR fun _ => bR fun _ => bR fun _ => bR fun _ => bR fun _ => bR fun _ => bR fun _ => bR fun _ => bR fun _ => bR fun _ => bK (bR fun _ => bR fun _ => bR fun _ => bR fun _ => hj111_3 _ _ _ _ _ _ _) (hj111_3 _ _ _ _ _ _ _)
def b111_l1 (j111_1 : A1) (j111_2 : A7) (x0 x1 x2 x7 x11 x12 : AV) (H : Hp) : Res :=
  bnd (ibin .lss x12 x11) fun t13 =>
  cnd t13
    (j111_2 x0 x1 x2 x7 x11 x12 t13 H)
    (j111_1 x7 H)
theorem e111_l1 (H0 : Hp) (x0 x1 x2 x7 x11 x12 : AV) (H : Hp) : j111_l1 H0 x0 x1 x2 x7 x11 x12 H = b111_l1 (j111_1 H0) (j111_2 H0) x0 x1 x2 x7 x11 x12 H := (LPL_eqm (C := cfg) [4, 8, 9] (tame_block 0 (k111_1_tame H0)) _ _).trans (by kernel_rfl)
theorem m111_l1 {j111_1 dj111_1 : A1} (hj111_1 : L1 j111_1 dj111_1) {j111_2 dj111_2 : A7} (hj111_2 : L7 j111_2 dj111_2) : L6 (b111_l1 j111_1 j111_2) (b111_l1 dj111_1 dj111_2) := fun _ _ _ _ _ _ _ =>
  bR fun _ => bK (hj111_2 _ _ _ _ _ _ _ _) (hj111_1 _ _)
def rj111_1 : A1 := b111_1
theorem sj111_1 (H0 : Hp) : L1 (rj111_1) (j111_1 H0) := fun _ _ => le_eq (m111_1 _ _) (e111_1 H0 _ _)
def rj111_3 (j111_l1 : A6) : A6 := b111_3 j111_l1
theorem sj111_3 (H0 : Hp) {yj111_l1 : A6} (hj111_l1 : L6 yj111_l1 (j111_l1 H0)) : L6 (rj111_3 yj111_l1) (j111_3 H0) := fun _ _ _ _ _ _ _ => le_eq (m111_3 hj111_l1 _ _ _ _ _ _ _) (e111_3 H0 _ _ _ _ _ _ _)
def rj111_2 (j111_l1 : A6) : A7 := b111_2 (rj111_3 j111_l1)
theorem sj111_2 (H0 : Hp) {yj111_l1 : A6} (hj111_l1 : L6 yj111_l1 (j111_l1 H0)) : L7 (rj111_2 yj111_l1) (j111_2 H0) := fun _ _ _ _ _ _ _ _ => le_eq (m111_2 (sj111_3 H0 hj111_l1) _ _ _ _ _ _ _ _) (e111_2 H0 _ _ _ _ _ _ _ _)
def rj111_l1 (n : Nat) : A6 := @Nat.rec (fun _ => A6) (fun _ _ _ _ _ _ _ => none) (fun _ j111_l1 => b111_l1 (rj111_1) (rj111_2 j111_l1)) n
theorem sj111_l1 (H0 : Hp) (n : Nat) : L6 (rj111_l1 n) (j111_l1 H0) := by
  induction n with
  | zero => exact fun _ _ _ _ _ _ _ => le_none _
  | succ n hj111_l1 => exact fun _ _ _ _ _ _ _ => le_eq (m111_l1 (sj111_1 H0) (sj111_2 H0 hj111_l1) _ _ _ _ _ _ _) (e111_l1 H0 _ _ _ _ _ _ _)
def bc111 (j111_l1 : A6) (p0 p1 p2 : AV) (H : Hp) : Res :=
  bnd (amake 1 1 false (.int .u8 0) (.int .i64 256) (.int .i64 256) H) fun r9 =>
  bnd (alenD (.slice 5) r9.1) fun t11 =>
  j111_l1 p0 p1 p2 r9.1 t11 (.int .i64 0) r9.2
theorem ec111 (p0 p1 p2 : AV) (H : Hp) : c111 p0 p1 p2 H = bc111 (j111_l1 H) p0 p1 p2 H := (callw_cxm (C := cfg) (fn := Tryz.f111) (c := bodyOf Tryz.f111) (n := 40) [4, 8, 9] Tryz.func111 (by kernel_rfl) (by kernel_rfl) [p0, p1, p2] (by kernel_rfl) H).trans (by kernel_rfl)
theorem mc111 {j111_l1 dj111_l1 : A6} (hj111_l1 : L6 j111_l1 dj111_l1) : L3 (bc111 j111_l1) (bc111 dj111_l1) := fun _ _ _ _ =>
  bR fun _ => bR fun _ => hj111_l1 _ _ _ _ _ _ _
def rc111 : A3 := fun p0 p1 p2 H => bc111 (rj111_l1 100000) p0 p1 p2 H
theorem sc111 : L3 rc111 c111 := fun _ _ _ H => le_eq (mc111 (sj111_l1 H 100000) _ _ _ _) (ec111 _ _ _ _)
def q111 : A3 := fun p0 p1 p2 H => flatC (callw cfg 111) [p0, p1, p2] H
def rq111 : A3 := fun p0 p1 p2 H => flatC (ofL3 (rc111)) [p0, p1, p2] H
theorem sq111 : L3 rq111 q111 := fun _ _ _ _ => flat_le (ofL3_le (sc111)) _ _

def c91 (H : Hp) : Res := callw cfg 91 [] H
def j91_1 (H0 : Hp) (x0 x1 : AV) (H : Hp) : Res := CXf 91 18 (sub (bodyOf Tryz.f91) [1, 1, 1]) (retL cfg 18 91 Tryz.f91 H0) [(0, x0), (1, x1)] H
def k91_1 (H0 : Hp) : KL := seqL (fun k al H => CXf 91 18 (sub (bodyOf Tryz.f91) [1, 1, 1]) k (trimL (cfg.keep 91) (sub (bodyOf Tryz.f91) [1, 1, 1]) al) H) (retL cfg 18 91 Tryz.f91 H0)
theorem k91_1_tame (H0 : Hp) : Tame 18 (k91_1 H0) := tame_seq (C := cfg) (kp := cfg.keep 91) (sub (bodyOf Tryz.f91) [1, 1, 1]) (tame_ret 91 Tryz.f91 H0)
def j91_3 (H0 : Hp) (x0 x1 x5 x6 : AV) (H : Hp) : Res := CXf 91 18 (sub (bodyOf Tryz.f91) [1, 1, 0, 1, 0, 0, 1, 1, 1]) (seqL (fun k al H => LPf 91 18 (sub (bodyOf Tryz.f91) [1, 1, 0, 1, 0, 0]) k (trimL (cfg.keep 91) (sub (bodyOf Tryz.f91) [1, 1, 0, 1, 0, 0]) al) H) (blockL 0 (k91_1 H0))) [(0, x0), (1, x1), (5, x5), (6, x6)] H
def j91_2 (H0 : Hp) (x0 x1 x5 x6 x7 : AV) (H : Hp) : Res := CXf 91 18 (sub (bodyOf Tryz.f91) [1, 1, 0, 1, 0, 0, 1, 1]) (seqL (fun k al H => LPf 91 18 (sub (bodyOf Tryz.f91) [1, 1, 0, 1, 0, 0]) k (trimL (cfg.keep 91) (sub (bodyOf Tryz.f91) [1, 1, 0, 1, 0, 0]) al) H) (blockL 0 (k91_1 H0))) [(0, x0), (1, x1), (5, x5), (6, x6), (7, x7)] H
def j91_l1 (H0 : Hp) (x0 x1 x5 x6 : AV) (H : Hp) : Res := LPf 91 18 (sub (bodyOf Tryz.f91) [1, 1, 0, 1, 0, 0]) (blockL 0 (k91_1 H0)) [(0, x0), (1, x1), (5, x5), (6, x6)] H
def b91_1 (q111 : A3) (x0 x1 : AV) (H : Hp) : Res :=
  bnd (q111 (.int .u8 65) (.int .u8 90) (.int .i64 32) H) fun r15 =>
  bnd (q111 (.int .u8 97) (.int .u8 122) (.int .i64 (-32)) r15.2) fun r16 =>
  bnd ((afill [(0, 1, (.str [112, 111, 115, 105, 120])), (1, 1, x1), (2, 1, r15.1), (3, 1, r16.1)] [(.str []), .nils, (.str []), (.str []), .nils, .nils]).map .agg) fun t17 =>
  bnd (astoreU 6 x0 t17 r16.2) fun r_6 =>
  bnd (aload true 6 x0 r_6.2) fun v0 =>
  some (v0, r_6.2)
theorem e91_1 (H0 : Hp) (x0 x1 : AV) (H : Hp) : j91_1 H0 x0 x1 H = b91_1 q111 x0 x1 H := (CXM_eq [4, 6, 7] _ _ _ _).trans (by kernel_rfl)
theorem m91_1 {q111 dq111 : A3} (hq111 : L3 q111 dq111) : L2 (b91_1 q111) (b91_1 dq111) := fun _ _ _ =>
  bC (hq111 _ _ _ _) fun _ => bC (hq111 _ _ _ _) fun _ => bR fun _ => bR fun _ => bR fun _ => le_refl _
def b91_3 (j91_l1 : A4) (x0 x1 x5 x6 : AV) (H : Hp) : Res :=
  bnd (ibin .add x6 (.int .i64 1)) fun t13 =>
  j91_l1 x0 x1 x5 t13 H
theorem e91_3 (H0 : Hp) (x0 x1 x5 x6 : AV) (H : Hp) : j91_3 H0 x0 x1 x5 x6 H = b91_3 (j91_l1 H0) x0 x1 x5 x6 H := (CXM_eq [4, 6, 7] _ _ _ _).trans (by kernel_rfl)
theorem m91_3 {j91_l1 dj91_l1 : A4} (hj91_l1 : L4 j91_l1 dj91_l1) : L4 (b91_3 j91_l1) (b91_3 dj91_l1) := fun _ _ _ _ _ =>
  bR fun _ => hj91_l1 _ _ _ _ _
def b91_2 (j91_3 : A4) (x0 x1 x5 x6 x7 : AV) (H : Hp) : Res :=
  bnd (aindexS 1 x1 x6) fun t12 =>
  bnd (astoreU 1 t12 x6 H) fun r_12 =>
  j91_3 x0 x1 x5 x6 r_12.2
theorem e91_2 (H0 : Hp) (x0 x1 x5 x6 x7 : AV) (H : Hp) : j91_2 H0 x0 x1 x5 x6 x7 H = b91_2 (j91_3 H0) x0 x1 x5 x6 x7 H := (CXM_eq [4, 6, 7] _ _ _ _).trans (by kernel_rfl)
theorem m91_2 {j91_3 dj91_3 : A4} (hj91_3 : L4 j91_3 dj91_3) : L5 (b91_2 j91_3) (b91_2 dj91_3) := fun _ _ _ _ _ _ =>
  bR fun _ => bR fun _ => hj91_3 _ _ _ _ _
def b91_l1 (j91_1 : A2) (j91_2 : A5) (x0 x1 x5 x6 : AV) (H : Hp) : Res :=
  bnd (ibin .lss x6 x5) fun t7 =>
  cnd t7
    (j91_2 x0 x1 x5 x6 t7 H)
    (j91_1 x0 x1 H)
theorem e91_l1 (H0 : Hp) (x0 x1 x5 x6 : AV) (H : Hp) : j91_l1 H0 x0 x1 x5 x6 H = b91_l1 (j91_1 H0) (j91_2 H0) x0 x1 x5 x6 H := (LPL_eqm (C := cfg) [4, 6, 7] (tame_block 0 (k91_1_tame H0)) _ _).trans (by kernel_rfl)
theorem m91_l1 {j91_1 dj91_1 : A2} (hj91_1 : L2 j91_1 dj91_1) {j91_2 dj91_2 : A5} (hj91_2 : L5 j91_2 dj91_2) : L4 (b91_l1 j91_1 j91_2) (b91_l1 dj91_1 dj91_2) := fun _ _ _ _ _ =>
  bR fun _ => bK (hj91_2 _ _ _ _ _ _) (hj91_1 _ _ _)
def rj91_1 : A2 := b91_1 rq111
theorem sj91_1 (H0 : Hp) : L2 (rj91_1) (j91_1 H0) := fun _ _ _ => le_eq (m91_1 sq111 _ _ _) (e91_1 H0 _ _ _)
def rj91_3 (j91_l1 : A4) : A4 := b91_3 j91_l1
theorem sj91_3 (H0 : Hp) {yj91_l1 : A4} (hj91_l1 : L4 yj91_l1 (j91_l1 H0)) : L4 (rj91_3 yj91_l1) (j91_3 H0) := fun _ _ _ _ _ => le_eq (m91_3 hj91_l1 _ _ _ _ _) (e91_3 H0 _ _ _ _ _)
def rj91_2 (j91_l1 : A4) : A5 := b91_2 (rj91_3 j91_l1)
theorem sj91_2 (H0 : Hp) {yj91_l1 : A4} (hj91_l1 : L4 yj91_l1 (j91_l1 H0)) : L5 (rj91_2 yj91_l1) (j91_2 H0) := fun _ _ _ _ _ _ => le_eq (m91_2 (sj91_3 H0 hj91_l1) _ _ _ _ _ _) (e91_2 H0 _ _ _ _ _ _)
def rj91_l1 (n : Nat) : A4 := @Nat.rec (fun _ => A4) (fun _ _ _ _ _ => none) (fun _ j91_l1 => b91_l1 (rj91_1) (rj91_2 j91_l1)) n
theorem sj91_l1 (H0 : Hp) (n : Nat) : L4 (rj91_l1 n) (j91_l1 H0) := by
  induction n with
  | zero => exact fun _ _ _ _ _ => le_none _
  | succ n hj91_l1 => exact fun _ _ _ _ _ => le_eq (m91_l1 (sj91_1 H0) (sj91_2 H0 hj91_l1) _ _ _ _ _) (e91_l1 H0 _ _ _ _ _)
def bc91 (j91_l1 : A4) (H : Hp) : Res :=
  bnd (some ((.ptr H.length 0), H ++ [.cells [(.str []), .nils, (.str []), (.str []), .nils, .nils]])) fun r0 =>
  bnd (amake 1 8 false (.int .i64 0) (.int .i64 256) (.int .i64 256) r0.2) fun r3 =>
  bnd (alenD (.slice 3) r3.1) fun t5 =>
  j91_l1 r0.1 r3.1 t5 (.int .i64 0) r3.2
theorem ec91 (H : Hp) : c91 H = bc91 (j91_l1 H) H := (callw_cxm (C := cfg) (fn := Tryz.f91) (c := bodyOf Tryz.f91) (n := 18) [4, 6, 7] Tryz.func91 (by kernel_rfl) (by kernel_rfl) [] (by kernel_rfl) H).trans (by kernel_rfl)
theorem mc91 {j91_l1 dj91_l1 : A4} (hj91_l1 : L4 j91_l1 dj91_l1) : L0 (bc91 j91_l1) (bc91 dj91_l1) := fun _ =>
  bR fun _ => bR fun _ => bR fun _ => hj91_l1 _ _ _ _ _
def rc91 : A0 := fun H => bc91 (rj91_l1 100000) H
theorem sc91 : L0 rc91 c91 := fun H => le_eq (mc91 (sj91_l1 H 100000) _) (ec91 _)
def q91 : A0 := fun H => flatC (callw cfg 91) [] H
def rq91 : A0 := fun H => flatC (ofL0 (rc91)) [] H
theorem sq91 : L0 rq91 q91 := fun _ => flat_le (ofL0_le (sc91)) _ _

def c65 (p0 : AV) (H : Hp) : Res := callw cfg 65 [p0] H
def j65_1 (H0 : Hp) (x1 x2 : AV) (H : Hp) : Res := CXf 65 16 (sub (bodyOf Tryz.f65) [1, 1]) (retL cfg 16 65 Tryz.f65 H0) [(1, x1), (2, x2)] H
def b65_1 (x1 x2 : AV) (H : Hp) : Res :=
  bnd (amake 1 8 false (.int .i64 0) (.int .i64 256) (.int .i64 256) H) fun r8 =>
  bnd (afield 1 x1) fun t10 =>
  bnd (aload false 1 t10 r8.2) fun t11 =>
  bnd (acopy 1 r8.1 t11 r8.2) fun r12 =>
  bnd (afield 1 x1) fun t14 =>
  bnd (astoreU 1 t14 r8.1 r12.2) fun r_8 =>
  bnd (aload true 6 x1 r_8.2) fun t15 =>
  bnd (astoreU 6 x2 t15 r_8.2) fun r_10 =>
  bnd (aload true 6 x2 r_10.2) fun v2 =>
  some (v2, r_10.2)
theorem e65_1 (H0 : Hp) (x1 x2 : AV) (H : Hp) : j65_1 H0 x1 x2 H = b65_1 x1 x2 H := (CXM_eq [3] _ _ _ _).trans (by kernel_rfl)
theorem m65_1 : L2 (b65_1) (b65_1) := fun _ _ _ =>
  bR fun _ => bR fun _ => bR fun _ => bR fun _ => bR fun _ => bR fun _ => bR fun _ => bR fun _ => bR fun _ => le_refl _
def rj65_1 : A2 := b65_1
theorem sj65_1 (H0 : Hp) : L2 (rj65_1) (j65_1 H0) := fun _ _ _ => le_eq (m65_1 _ _ _) (e65_1 H0 _ _ _)
def bc65 (q90 : A1) (q91 : A0) (j65_1 : A2) (p0 : AV) (H : Hp) : Res :=
  bnd (abox p0 H) fun r1 =>
  bnd (some ((.ptr r1.2.length 0), r1.2 ++ [.cells [(.str []), .nils, (.str []), (.str []), .nils, .nils]])) fun r2 =>
  bnd (aload true 6 r1.1 r2.2) fun t4 =>
  bnd (q90 t4 r2.2) fun r5 =>
  bnd (ibin .neq r5.1 (.int .i64 0)) fun t6 =>
  cnd t6
    (bnd (q91 r5.2) fun r7 =>
    bnd (astoreU 6 r2.1 r7.1 r7.2) fun r_16 =>
    bnd (aload true 6 r2.1 r_16.2) fun v2 =>
    some (v2, r_16.2))
    (j65_1 r1.1 r2.1 r5.2)
theorem ec65 (p0 : AV) (H : Hp) : c65 p0 H = bc65 q90 q91 (j65_1 H) p0 H := (callw_cxm (C := cfg) (fn := Tryz.f65) (c := bodyOf Tryz.f65) (n := 16) [3] Tryz.func65 (by kernel_rfl) (by kernel_rfl) [p0] (by kernel_rfl) H).trans (by kernel_rfl)
theorem mc65 {q90 dq90 : A1} (hq90 : L1 q90 dq90) {q91 dq91 : A0} (hq91 : L0 q91 dq91) {j65_1 dj65_1 : A2} (hj65_1 : L2 j65_1 dj65_1) : L1 (bc65 q90 q91 j65_1) (bc65 dq90 dq91 dj65_1) := fun _ _ =>
  bR fun _ => bR fun _ => bR fun _ => bC (hq90 _ _) fun _ => bR fun _ => bK (bC (hq91 _) fun _ => bR fun _ => bR fun _ => le_refl _) (hj65_1 _ _ _)
def rc65 : A1 := fun p0 H => bc65 rq90 rq91 (rj65_1) p0 H
theorem sc65 : L1 rc65 c65 := fun _ H => le_eq (mc65 sq90 sq91 (sj65_1 H) _ _) (ec65 _ _)
def q65 : A1 := fun p0 H => flatC (callw cfg 65) [p0] H
def rq65 : A1 := fun p0 H => flatC (ofL1 (rc65)) [p0] H
theorem sq65 : L1 rq65 q65 := fun _ _ => flat_le (ofL1_le (sc65)) _ _

def c92 (p0 p1 : AV) (H : Hp) : Res := callw cfg 92 [p0, p1] H
def bc92 (p0 p1 : AV) (H : Hp) : Res :=
  bnd (extC .cmp [p0, p1] H) fun r7 =>
  some (r7.1, r7.2)
theorem ec92 (p0 p1 : AV) (H : Hp) : c92 p0 p1 H = bc92 p0 p1 H := (callw_cxm (C := cfg) (fn := Tryz.f92) (c := bodyOf Tryz.f92) (n := 8) [] Tryz.func92 (by kernel_rfl) (by kernel_rfl) [p0, p1] (by kernel_rfl) H).trans (by kernel_rfl)
theorem mc92 : L2 (bc92) (bc92) := fun _ _ _ =>
  bR fun _ => le_refl _
def rc92 : A2 := fun p0 p1 H => bc92 p0 p1 H
theorem sc92 : L2 rc92 c92 := fun _ _ H => le_eq (mc92 _ _ _) (ec92 _ _ _)
def q92 : A2 := fun p0 p1 H => flatC (callw cfg 92) [p0, p1] H
def rq92 : A2 := fun p0 p1 H => flatC (ofL2 (rc92)) [p0, p1] H
theorem sq92 : L2 rq92 q92 := fun _ _ _ => flat_le (ofL2_le (sc92)) _ _

def c69 (p0 p1 : AV) (H : Hp) : Res := callw cfg 69 [p0, p1] H
def bc69 (q92 : A2) (p0 p1 : AV) (H : Hp) : Res :=
  bnd (q92 p0 p1 H) fun r7 =>
  some (r7.1, r7.2)
theorem ec69 (p0 p1 : AV) (H : Hp) : c69 p0 p1 H = bc69 q92 p0 p1 H := (callw_cxm (C := cfg) (fn := Tryz.f69) (c := bodyOf Tryz.f69) (n := 8) [] Tryz.func69 (by kernel_rfl) (by kernel_rfl) [p0, p1] (by kernel_rfl) H).trans (by kernel_rfl)
theorem mc69 {q92 dq92 : A2} (hq92 : L2 q92 dq92) : L2 (bc69 q92) (bc69 dq92) := fun _ _ _ =>
  bC (hq92 _ _ _) fun _ => le_refl _
def rc69 : A2 := fun p0 p1 H => bc69 rq92 p0 p1 H
theorem sc69 : L2 rc69 c69 := fun _ _ H => le_eq (mc69 sq92 _ _ _) (ec69 _ _ _)
def q69 : A2 := fun p0 p1 H => flatC (callw cfg 69) [p0, p1] H
def rq69 : A2 := fun p0 p1 H => flatC (ofL2 (rc69)) [p0, p1] H
theorem sq69 : L2 rq69 q69 := fun _ _ _ => flat_le (ofL2_le (sc69)) _ _

def c45 (p0 p1 p2 : AV) (H : Hp) : Res := callw cfg 45 [p0, p1, p2] H
def j45_3 (H0 : Hp) (x1 x2 : AV) (H : Hp) : Res := CXf 45 60 (sub (bodyOf Tryz.f45) [1, 1, 1, 1, 1, 1, 1]) (retL cfg 60 45 Tryz.f45 H0) [(1, x1), (2, x2)] H
def j45_2 (H0 : Hp) (x1 x2 x8 x9 : AV) (H : Hp) : Res := CXf 45 60 (sub (bodyOf Tryz.f45) [1, 1, 1, 1, 1, 1]) (retL cfg 60 45 Tryz.f45 H0) [(1, x1), (2, x2), (8, x8), (9, x9)] H
def j45_1 (H0 : Hp) (x1 x2 x8 x9 : AV) (H : Hp) : Res := CXf 45 60 (sub (bodyOf Tryz.f45) [1, 1, 1, 1, 1]) (retL cfg 60 45 Tryz.f45 H0) [(1, x1), (2, x2), (8, x8), (9, x9)] H
def k45_1 (H0 : Hp) : KL := seqL (fun k al H => CXf 45 60 (sub (bodyOf Tryz.f45) [1, 1, 1, 1, 1]) k (trimL (cfg.keep 45) (sub (bodyOf Tryz.f45) [1, 1, 1, 1, 1]) al) H) (retL cfg 60 45 Tryz.f45 H0)
theorem k45_1_tame (H0 : Hp) : Tame 60 (k45_1 H0) := tame_seq (C := cfg) (kp := cfg.keep 45) (sub (bodyOf Tryz.f45) [1, 1, 1, 1, 1]) (tame_ret 45 Tryz.f45 H0)
def j45_5 (H0 : Hp) (x1 x2 x8 x9 x24 x25 : AV) (H : Hp) : Res := CXf 45 60 (sub (bodyOf Tryz.f45) [1, 1, 1, 1, 0, 1, 0, 0, 1, 1, 1]) (seqL (fun k al H => LPf 45 60 (sub (bodyOf Tryz.f45) [1, 1, 1, 1, 0, 1, 0, 0]) k (trimL (cfg.keep 45) (sub (bodyOf Tryz.f45) [1, 1, 1, 1, 0, 1, 0, 0]) al) H) (blockL 0 (k45_1 H0))) [(1, x1), (2, x2), (8, x8), (9, x9), (24, x24), (25, x25)] H
def k45_2 (H0 : Hp) : KL := seqL (fun k al H => CXf 45 60 (sub (bodyOf Tryz.f45) [1, 1, 1, 1, 0, 1, 0, 0, 1, 1, 1]) k (trimL (cfg.keep 45) (sub (bodyOf Tryz.f45) [1, 1, 1, 1, 0, 1, 0, 0, 1, 1, 1]) al) H) (seqL (fun k al H => LPf 45 60 (sub (bodyOf Tryz.f45) [1, 1, 1, 1, 0, 1, 0, 0]) k (trimL (cfg.keep 45) (sub (bodyOf Tryz.f45) [1, 1, 1, 1, 0, 1, 0, 0]) al) H) (blockL 0 (k45_1 H0)))
def j45_6 (H0 : Hp) (x1 x2 x8 x9 x10 x24 x25 : AV) (H : Hp) : Res := CXf 45 60 (sub (bodyOf Tryz.f45) [1, 1, 1, 1, 0, 1, 0, 0, 1, 1, 0, 0, 1, 1]) (blockL 1 (k45_2 H0)) [(1, x1), (2, x2), (8, x8), (9, x9), (10, x10), (24, x24), (25, x25)] H
def j45_4 (H0 : Hp) (x1 x2 x8 x9 x24 x25 x26 : AV) (H : Hp) : Res := CXf 45 60 (sub (bodyOf Tryz.f45) [1, 1, 1, 1, 0, 1, 0, 0, 1, 1]) (seqL (fun k al H => LPf 45 60 (sub (bodyOf Tryz.f45) [1, 1, 1, 1, 0, 1, 0, 0]) k (trimL (cfg.keep 45) (sub (bodyOf Tryz.f45) [1, 1, 1, 1, 0, 1, 0, 0]) al) H) (blockL 0 (k45_1 H0))) [(1, x1), (2, x2), (8, x8), (9, x9), (24, x24), (25, x25), (26, x26)] H
def j45_l1 (H0 : Hp) (x1 x2 x8 x9 x24 x25 : AV) (H : Hp) : Res := LPf 45 60 (sub (bodyOf Tryz.f45) [1, 1, 1, 1, 0, 1, 0, 0]) (blockL 0 (k45_1 H0)) [(1, x1), (2, x2), (8, x8), (9, x9), (24, x24), (25, x25)] H
def b45_3 (q69 : A2) (x1 x2 : AV) (H : Hp) : Res :=
  bnd (q69 x1 x2 H) fun r59 =>
  some (r59.1, r59.2)
theorem e45_3 (H0 : Hp) (x1 x2 : AV) (H : Hp) : j45_3 H0 x1 x2 H = b45_3 q69 x1 x2 H := (CXM_eq [6, 9, 11, 12, 14, 16] _ _ _ _).trans (by kernel_rfl)
theorem m45_3 {q69 dq69 : A2} (hq69 : L2 q69 dq69) : L2 (b45_3 q69) (b45_3 dq69) := fun _ _ _ =>
  bC (hq69 _ _ _) fun _ => le_refl _
def b45_2 (j45_3 : A2) (x1 x2 x8 x9 : AV) (H : Hp) : Res :=
  bnd (alenD (.slice 3) x8) fun t53 =>
  bnd (alenD (.slice 3) x9) fun t55 =>
  bnd (ibin .gtr t53 t55) fun t56 =>
  cnd t56
    (some ((.int .i64 1), H))
    (j45_3 x1 x2 H)
theorem e45_2 (H0 : Hp) (x1 x2 x8 x9 : AV) (H : Hp) : j45_2 H0 x1 x2 x8 x9 H = b45_2 (j45_3 H0) x1 x2 x8 x9 H := (CXM_eq [6, 9, 11, 12, 14, 16] _ _ _ _).trans (by kernel_rfl)
theorem m45_2 {j45_3 dj45_3 : A2} (hj45_3 : L2 j45_3 dj45_3) : L4 (b45_2 j45_3) (b45_2 dj45_3) := fun _ _ _ _ _ =>
  bR fun _ => bR fun _ => bR fun _ => bK (le_refl _) (hj45_3 _ _ _)
def b45_1 (j45_2 : A4) (x1 x2 x8 x9 : AV) (H : Hp) : Res :=
  bnd (alenD (.slice 3) x8) fun t48 =>
  bnd (alenD (.slice 3) x9) fun t50 =>
  bnd (ibin .lss t48 t50) fun t51 =>
  cnd t51
    (some ((.int .i64 (-1)), H))
    (j45_2 x1 x2 x8 x9 H)
theorem e45_1 (H0 : Hp) (x1 x2 x8 x9 : AV) (H : Hp) : j45_1 H0 x1 x2 x8 x9 H = b45_1 (j45_2 H0) x1 x2 x8 x9 H := (CXM_eq [6, 9, 11, 12, 14, 16] _ _ _ _).trans (by kernel_rfl)
theorem m45_1 {j45_2 dj45_2 : A4} (hj45_2 : L4 j45_2 dj45_2) : L4 (b45_1 j45_2) (b45_1 dj45_2) := fun _ _ _ _ _ =>
  bR fun _ => bR fun _ => bR fun _ => bK (le_refl _) (hj45_2 _ _ _ _ _)
def b45_5 (j45_l1 : A6) (x1 x2 x8 x9 x24 x25 : AV) (H : Hp) : Res :=
  bnd (ibin .add x25 (.int .i64 1)) fun t46 =>
  j45_l1 x1 x2 x8 x9 x24 t46 H
theorem e45_5 (H0 : Hp) (x1 x2 x8 x9 x24 x25 : AV) (H : Hp) : j45_5 H0 x1 x2 x8 x9 x24 x25 H = b45_5 (j45_l1 H0) x1 x2 x8 x9 x24 x25 H := (CXM_eq [6, 9, 11, 12, 14, 16] _ _ _ _).trans (by kernel_rfl)
theorem m45_5 {j45_l1 dj45_l1 : A6} (hj45_l1 : L6 j45_l1 dj45_l1) : L6 (b45_5 j45_l1) (b45_5 dj45_l1) := fun _ _ _ _ _ _ _ =>
  bR fun _ => hj45_l1 _ _ _ _ _ _ _
def b45_6 (j45_5 : A6) (x1 x2 x8 x9 x10 x24 x25 : AV) (H : Hp) : Res :=
  bnd (aindexS 1 x8 x10) fun t39 =>
  bnd (aload false 1 t39 H) fun t40 =>
  bnd (aindexS 1 x9 x10) fun t43 =>
  bnd (aload false 1 t43 H) fun t44 =>
  bnd (ibin .gtr t40 t44) fun t45 =>
  cnd t45
    (some ((.int .i64 1), H))
    (j45_5 x1 x2 x8 x9 x24 x25 H)
theorem e45_6 (H0 : Hp) (x1 x2 x8 x9 x10 x24 x25 : AV) (H : Hp) : j45_6 H0 x1 x2 x8 x9 x10 x24 x25 H = b45_6 (j45_5 H0) x1 x2 x8 x9 x10 x24 x25 H := (CXM_eq [6, 9, 11, 12, 14, 16] _ _ _ _).trans (by kernel_rfl)
theorem m45_6 {j45_5 dj45_5 : A6} (hj45_5 : L6 j45_5 dj45_5) : L7 (b45_6 j45_5) (b45_6 dj45_5) := fun _ _ _ _ _ _ _ _ =>
  bR fun _ => bR fun _ => bR fun _ => bR fun _ => bR fun _ => bK (le_refl _) (hj45_5 _ _ _ _ _ _ _)
def b45_4 (j45_6 : A7) (x1 x2 x8 x9 x24 x25 x26 : AV) (H : Hp) : Res :=
  bnd (aindexS 1 x8 x25) fun t30 =>
  bnd (aload false 1 t30 H) fun t31 =>
  bnd (aindexS 1 x9 x25) fun t34 =>
  bnd (aload false 1 t34 H) fun t35 =>
  bnd (ibin .lss t31 t35) fun t36 =>
  cnd t36
    (some ((.int .i64 (-1)), H))
    (j45_6 x1 x2 x8 x9 x25 x24 x25 H)
theorem e45_4 (H0 : Hp) (x1 x2 x8 x9 x24 x25 x26 : AV) (H : Hp) : j45_4 H0 x1 x2 x8 x9 x24 x25 x26 H = b45_4 (j45_6 H0) x1 x2 x8 x9 x24 x25 x26 H := (CXM_eq [6, 9, 11, 12, 14, 16] _ _ _ _).trans (by kernel_rfl)
theorem m45_4 {j45_6 dj45_6 : A7} (hj45_6 : L7 j45_6 dj45_6) : L7 (b45_4 j45_6) (b45_4 dj45_6) := fun _ _ _ _ _ _ _ _ =>
  bR fun _ => bR fun _ => bR fun _ => bR fun _ => bR fun _ => bK (le_refl _) (hj45_6 _ _ _ _ _ _ _ _)
def b45_l1 (j45_1 : A4) (j45_4 : A7) (x1 x2 x8 x9 x24 x25 : AV) (H : Hp) : Res :=
  bnd (ibin .lss x25 x24) fun t26 =>
  cnd t26
    (j45_4 x1 x2 x8 x9 x24 x25 t26 H)
    (j45_1 x1 x2 x8 x9 H)
theorem e45_l1 (H0 : Hp) (x1 x2 x8 x9 x24 x25 : AV) (H : Hp) : j45_l1 H0 x1 x2 x8 x9 x24 x25 H = b45_l1 (j45_1 H0) (j45_4 H0) x1 x2 x8 x9 x24 x25 H := (LPL_eqm (C := cfg) [6, 9, 11, 12, 14, 16] (tame_block 0 (k45_1_tame H0)) _ _).trans (by kernel_rfl)
theorem m45_l1 {j45_1 dj45_1 : A4} (hj45_1 : L4 j45_1 dj45_1) {j45_4 dj45_4 : A7} (hj45_4 : L7 j45_4 dj45_4) : L6 (b45_l1 j45_1 j45_4) (b45_l1 dj45_1 dj45_4) := fun _ _ _ _ _ _ _ =>
  bR fun _ => bK (hj45_4 _ _ _ _ _ _ _ _) (hj45_1 _ _ _ _ _)
def rj45_3 (gV : AV → List AV → Hp → Res) : A2 := b45_3 rq69
theorem sj45_3 (H0 : Hp) {gV : AV → List AV → Hp → Res} (hV : LV gV (acall cfg (callw cfg))) : L2 (rj45_3 gV) (j45_3 H0) := fun _ _ _ => le_eq (m45_3 sq69 _ _ _) (e45_3 H0 _ _ _)
def rj45_2 (gV : AV → List AV → Hp → Res) : A4 := b45_2 (rj45_3 gV)
theorem sj45_2 (H0 : Hp) {gV : AV → List AV → Hp → Res} (hV : LV gV (acall cfg (callw cfg))) : L4 (rj45_2 gV) (j45_2 H0) := fun _ _ _ _ _ => le_eq (m45_2 (sj45_3 H0 hV) _ _ _ _ _) (e45_2 H0 _ _ _ _ _)
def rj45_1 (gV : AV → List AV → Hp → Res) : A4 := b45_1 (rj45_2 gV)
theorem sj45_1 (H0 : Hp) {gV : AV → List AV → Hp → Res} (hV : LV gV (acall cfg (callw cfg))) : L4 (rj45_1 gV) (j45_1 H0) := fun _ _ _ _ _ => le_eq (m45_1 (sj45_2 H0 hV) _ _ _ _ _) (e45_1 H0 _ _ _ _ _)
def rj45_5 (gV : AV → List AV → Hp → Res) (j45_l1 : A6) : A6 := b45_5 j45_l1
theorem sj45_5 (H0 : Hp) {gV : AV → List AV → Hp → Res} (hV : LV gV (acall cfg (callw cfg))) {yj45_l1 : A6} (hj45_l1 : L6 yj45_l1 (j45_l1 H0)) : L6 (rj45_5 gV yj45_l1) (j45_5 H0) := fun _ _ _ _ _ _ _ => le_eq (m45_5 hj45_l1 _ _ _ _ _ _ _) (e45_5 H0 _ _ _ _ _ _ _)
def rj45_6 (gV : AV → List AV → Hp → Res) (j45_l1 : A6) : A7 := b45_6 (rj45_5 gV j45_l1)
theorem sj45_6 (H0 : Hp) {gV : AV → List AV → Hp → Res} (hV : LV gV (acall cfg (callw cfg))) {yj45_l1 : A6} (hj45_l1 : L6 yj45_l1 (j45_l1 H0)) : L7 (rj45_6 gV yj45_l1) (j45_6 H0) := fun _ _ _ _ _ _ _ _ => le_eq (m45_6 (sj45_5 H0 hV hj45_l1) _ _ _ _ _ _ _ _) (e45_6 H0 _ _ _ _ _ _ _ _)
def rj45_4 (gV : AV → List AV → Hp → Res) (j45_l1 : A6) : A7 := b45_4 (rj45_6 gV j45_l1)
theorem sj45_4 (H0 : Hp) {gV : AV → List AV → Hp → Res} (hV : LV gV (acall cfg (callw cfg))) {yj45_l1 : A6} (hj45_l1 : L6 yj45_l1 (j45_l1 H0)) : L7 (rj45_4 gV yj45_l1) (j45_4 H0) := fun _ _ _ _ _ _ _ _ => le_eq (m45_4 (sj45_6 H0 hV hj45_l1) _ _ _ _ _ _ _ _) (e45_4 H0 _ _ _ _ _ _ _ _)
def rj45_l1 (gV : AV → List AV → Hp → Res) (n : Nat) : A6 := @Nat.rec (fun _ => A6) (fun _ _ _ _ _ _ _ => none) (fun _ j45_l1 => b45_l1 (rj45_1 gV) (rj45_4 gV j45_l1)) n
theorem sj45_l1 (H0 : Hp) {gV : AV → List AV → Hp → Res} (hV : LV gV (acall cfg (callw cfg))) (n : Nat) : L6 (rj45_l1 gV n) (j45_l1 H0) := by
  induction n with
  | zero => exact fun _ _ _ _ _ _ _ => le_none _
  | succ n hj45_l1 => exact fun _ _ _ _ _ _ _ => le_eq (m45_l1 (sj45_1 H0 hV) (sj45_4 H0 hV hj45_l1) _ _ _ _ _ _ _) (e45_l1 H0 _ _ _ _ _ _ _)
def bc45 (q65 : A1) (j45_l1 : A6) (cV : AV → List AV → Hp → Res) (p0 p1 p2 : AV) (H : Hp) : Res :=
  bnd (abox p0 H) fun r3 =>
  bnd (aload true 6 r3.1 r3.2) fun t11 =>
  bnd (q65 t11 r3.2) fun r12 =>
  bnd (astoreU 6 r3.1 r12.1 r12.2) fun r_4 =>
  frzK r3.1 r_4.2 fun z3 z3H =>
  bnd (some (.fn (.func 66) [] [z3])) fun t13 =>
  bnd (qC cfg cV t13 [p1] z3H) fun r16 =>
  bnd (cV t13 [p2] r16.2) fun r19 =>
  bnd (alenD (.slice 3) r16.1) fun t21 =>
  bnd (alenD (.slice 3) r19.1) fun t23 =>
  bnd (amin2 t21 t23) fun t24 =>
  j45_l1 p1 p2 r16.1 r19.1 t24 (.int .i64 0) r19.2
theorem ec45 (p0 p1 p2 : AV) (H : Hp) : c45 p0 p1 p2 H = bc45 q65 (j45_l1 H) (acall cfg (callw cfg)) p0 p1 p2 H := (callw_cxm (C := cfg) (fn := Tryz.f45) (c := bodyOf Tryz.f45) (n := 60) [6, 9, 11, 12, 14, 16] Tryz.func45 (by kernel_rfl) (by kernel_rfl) [p0, p1, p2] (by kernel_rfl) H).trans (by kernel_rfl)
theorem mc45 {q65 dq65 : A1} (hq65 : L1 q65 dq65) {j45_l1 dj45_l1 : A6} (hj45_l1 : L6 j45_l1 dj45_l1) {cV dcV : AV → List AV → Hp → Res} (hcV : LV cV dcV) : L3 (bc45 q65 j45_l1 cV) (bc45 dq65 dj45_l1 dcV) := fun _ _ _ _ =>
  bR fun _ => bR fun _ => bC (hq65 _ _) fun _ => bR fun _ => bF fun _ _ => bR fun _ => bC (qC_le hcV _ _ _) fun _ => bC (hcV _ _ _) fun _ => bR fun _ => bR fun _ => bR fun _ => hj45_l1 _ _ _ _ _ _ _
def rc45 (gV : AV → List AV → Hp → Res) : A3 := fun p0 p1 p2 H => bc45 rq65 (rj45_l1 gV 100000) gV p0 p1 p2 H
theorem sc45 {gV : AV → List AV → Hp → Res} (hV : LV gV (acall cfg (callw cfg))) : L3 (rc45 gV) c45 := fun _ _ _ H => le_eq (mc45 sq65 (sj45_l1 H hV 100000) hV _ _ _ _) (ec45 _ _ _ _)
def q45 : A3 := fun p0 p1 p2 H => flatC (callw cfg 45) [p0, p1, p2] H
def rq45 (gV : AV → List AV → Hp → Res) : A3 := fun p0 p1 p2 H => flatC (ofL3 (rc45 gV)) [p0, p1, p2] H
theorem sq45 {gV : AV → List AV → Hp → Res} (hV : LV gV (acall cfg (callw cfg))) : L3 (rq45 gV) q45 := fun _ _ _ _ => flat_le (ofL3_le (sc45 hV)) _ _

def c75 (p0 : AV) (H : Hp) : Res := callw cfg 75 [p0] H
def j75_1 (H0 : Hp) (x3 : AV) (H : Hp) : Res := CXf 75 23 (sub (bodyOf Tryz.f75) [1, 1, 1]) (retL cfg 23 75 Tryz.f75 H0) [(3, x3)] H
def k75_1 (H0 : Hp) : KL := seqL (fun k al H => CXf 75 23 (sub (bodyOf Tryz.f75) [1, 1, 1]) k (trimL (cfg.keep 75) (sub (bodyOf Tryz.f75) [1, 1, 1]) al) H) (retL cfg 23 75 Tryz.f75 H0)
theorem k75_1_tame (H0 : Hp) : Tame 23 (k75_1 H0) := tame_seq (C := cfg) (kp := cfg.keep 75) (sub (bodyOf Tryz.f75) [1, 1, 1]) (tame_ret 75 Tryz.f75 H0)
def j75_2 (H0 : Hp) (x0 x3 : AV) (H : Hp) : Res := CXf 75 23 (sub (bodyOf Tryz.f75) [1, 1, 0, 0, 0, 1]) (seqL (fun k al H => LPf 75 23 (sub (bodyOf Tryz.f75) [1, 1, 0, 0, 0]) k (trimL (cfg.keep 75) (sub (bodyOf Tryz.f75) [1, 1, 0, 0, 0]) al) H) (blockL 0 (k75_1 H0))) [(0, x0), (3, x3)] H
def j75_l1 (H0 : Hp) (x0 x3 : AV) (H : Hp) : Res := LPf 75 23 (sub (bodyOf Tryz.f75) [1, 1, 0, 0, 0]) (blockL 0 (k75_1 H0)) [(0, x0), (3, x3)] H
def b75_1 (x3 : AV) (H : Hp) : Res :=
  some (x3, H)
theorem e75_1 (H0 : Hp) (x3 : AV) (H : Hp) : j75_1 H0 x3 H = b75_1 x3 H := (CXM_eq [3, 4] _ _ _ _).trans (by kernel_rfl)
theorem m75_1 : L1 (b75_1) (b75_1) := fun _ _ =>
  le_refl _
def b75_2 (j75_l1 : A2) (x0 x3 : AV) (H : Hp) : Res :=
  bnd (ibin .add x3 (.int .i64 1)) fun t21 =>
  j75_l1 x0 t21 H
theorem e75_2 (H0 : Hp) (x0 x3 : AV) (H : Hp) : j75_2 H0 x0 x3 H = b75_2 (j75_l1 H0) x0 x3 H := (CXM_eq [3, 4] _ _ _ _).trans (by kernel_rfl)
theorem m75_2 {j75_l1 dj75_l1 : A2} (hj75_l1 : L2 j75_l1 dj75_l1) : L2 (b75_2 j75_l1) (b75_2 dj75_l1) := fun _ _ _ =>
  bR fun _ => hj75_l1 _ _ _
def b75_l1 (j75_1 : A1) (j75_2 : A2) (x0 x3 : AV) (H : Hp) : Res :=
  bnd (alenD .string x0) fun t6 =>
  bnd (ibin .lss x3 t6) fun t7 =>
  bnd (gdv t7 true (.tuple []) (some x0)) fun t9 =>
  bnd (gdv t7 true (.tuple []) (some x3)) fun t10 =>
  bnd (gdv t7 true (.tuple []) (aindexStr t9 t10)) fun t11 =>
  bnd (gdv t7 true (.tuple []) (ibin .geq t11 (.int .u8 48))) fun t12 =>
  bnd (apick t7 t12 (.bool false)) fun t13 =>
  bnd (gdv t13 true (.tuple []) (some x0)) fun t15 =>
  bnd (gdv t13 true (.tuple []) (some x3)) fun t16 =>
  bnd (gdv t13 true (.tuple []) (aindexStr t15 t16)) fun t17 =>
  bnd (gdv t13 true (.tuple []) (ibin .leq t17 (.int .u8 57))) fun t18 =>
  bnd (apick t13 t18 (.bool false)) fun t19 =>
  cnd t19
    (j75_2 x0 x3 H)
    (j75_1 x3 H)
theorem e75_l1 (H0 : Hp) (x0 x3 : AV) (H : Hp) : j75_l1 H0 x0 x3 H = b75_l1 (j75_1 H0) (j75_2 H0) x0 x3 H := (LPL_eqm (C := cfg) [3, 4] (tame_block 0 (k75_1_tame H0)) _ _).trans (by kernel_rfl)
theorem m75_l1 {j75_1 dj75_1 : A1} (hj75_1 : L1 j75_1 dj75_1) {j75_2 dj75_2 : A2} (hj75_2 : L2 j75_2 dj75_2) : L2 (b75_l1 j75_1 j75_2) (b75_l1 dj75_1 dj75_2) := fun _ _ _ =>
  bR fun _ => bR fun _ => bR fun _ => bR fun _ => bR fun _ => bR fun _ => bR fun _ => bR fun _ => bR fun _ => bR fun _ => bR fun _ => bR fun _ => bK (hj75_2 _ _ _) (hj75_1 _ _)
def rj75_1 : A1 := b75_1
theorem sj75_1 (H0 : Hp) : L1 (rj75_1) (j75_1 H0) := fun _ _ => le_eq (m75_1 _ _) (e75_1 H0 _ _)
def rj75_2 (j75_l1 : A2) : A2 := b75_2 j75_l1
theorem sj75_2 (H0 : Hp) {yj75_l1 : A2} (hj75_l1 : L2 yj75_l1 (j75_l1 H0)) : L2 (rj75_2 yj75_l1) (j75_2 H0) := fun _ _ _ => le_eq (m75_2 hj75_l1 _ _ _) (e75_2 H0 _ _ _)
def rj75_l1 (n : Nat) : A2 := @Nat.rec (fun _ => A2) (fun _ _ _ => none) (fun _ j75_l1 => b75_l1 (rj75_1) (rj75_2 j75_l1)) n
theorem sj75_l1 (H0 : Hp) (n : Nat) : L2 (rj75_l1 n) (j75_l1 H0) := by
  induction n with
  | zero => exact fun _ _ _ => le_none _
  | succ n hj75_l1 => exact fun _ _ _ => le_eq (m75_l1 (sj75_1 H0) (sj75_2 H0 hj75_l1) _ _ _) (e75_l1 H0 _ _ _)
def bc75 (j75_l1 : A2) (p0 : AV) (H : Hp) : Res :=
  j75_l1 p0 (.int .i64 0) H
theorem ec75 (p0 : AV) (H : Hp) : c75 p0 H = bc75 (j75_l1 H) p0 H := (callw_cxm (C := cfg) (fn := Tryz.f75) (c := bodyOf Tryz.f75) (n := 23) [3, 4] Tryz.func75 (by kernel_rfl) (by kernel_rfl) [p0] (by kernel_rfl) H).trans (by kernel_rfl)
theorem mc75 {j75_l1 dj75_l1 : A2} (hj75_l1 : L2 j75_l1 dj75_l1) : L1 (bc75 j75_l1) (bc75 dj75_l1) := fun _ _ =>
  hj75_l1 _ _ _
def rc75 : A1 := fun p0 H => bc75 (rj75_l1 100000) p0 H
theorem sc75 : L1 rc75 c75 := fun _ H => le_eq (mc75 (sj75_l1 H 100000) _ _) (ec75 _ _)
def q75 : A1 := fun p0 H => flatC (callw cfg 75) [p0] H
def rq75 : A1 := fun p0 H => flatC (ofL1 (rc75)) [p0] H
theorem sq75 : L1 rq75 q75 := fun _ _ => flat_le (ofL1_le (sc75)) _ _

def c99 (p0 : AV) (H : Hp) : Res := callw cfg 99 [p0] H
def j99_1 (H0 : Hp) (x3 : AV) (H : Hp) : Res := CXf 99 23 (sub (bodyOf Tryz.f99) [1, 1, 1]) (retL cfg 23 99 Tryz.f99 H0) [(3, x3)] H
def k99_1 (H0 : Hp) : KL := seqL (fun k al H => CXf 99 23 (sub (bodyOf Tryz.f99) [1, 1, 1]) k (trimL (cfg.keep 99) (sub (bodyOf Tryz.f99) [1, 1, 1]) al) H) (retL cfg 23 99 Tryz.f99 H0)
theorem k99_1_tame (H0 : Hp) : Tame 23 (k99_1 H0) := tame_seq (C := cfg) (kp := cfg.keep 99) (sub (bodyOf Tryz.f99) [1, 1, 1]) (tame_ret 99 Tryz.f99 H0)
def j99_3 (H0 : Hp) (x0 x3 x5 : AV) (H : Hp) : Res := CXf 99 23 (sub (bodyOf Tryz.f99) [1, 1, 0, 1, 0, 0, 1, 1, 1]) (seqL (fun k al H => LPf 99 23 (sub (bodyOf Tryz.f99) [1, 1, 0, 1, 0, 0]) k (trimL (cfg.keep 99) (sub (bodyOf Tryz.f99) [1, 1, 0, 1, 0, 0]) al) H) (blockL 0 (k99_1 H0))) [(0, x0), (3, x3), (5, x5)] H
def j99_2 (H0 : Hp) (x0 x3 x5 x6 : AV) (H : Hp) : Res := CXf 99 23 (sub (bodyOf Tryz.f99) [1, 1, 0, 1, 0, 0, 1, 1]) (seqL (fun k al H => LPf 99 23 (sub (bodyOf Tryz.f99) [1, 1, 0, 1, 0, 0]) k (trimL (cfg.keep 99) (sub (bodyOf Tryz.f99) [1, 1, 0, 1, 0, 0]) al) H) (blockL 0 (k99_1 H0))) [(0, x0), (3, x3), (5, x5), (6, x6)] H
def j99_l1 (H0 : Hp) (x0 x3 x5 : AV) (H : Hp) : Res := LPf 99 23 (sub (bodyOf Tryz.f99) [1, 1, 0, 1, 0, 0]) (blockL 0 (k99_1 H0)) [(0, x0), (3, x3), (5, x5)] H
def b99_1 (x3 : AV) (H : Hp) : Res :=
  some (x3, H)
theorem e99_1 (H0 : Hp) (x3 : AV) (H : Hp) : j99_1 H0 x3 H = b99_1 x3 H := (CXM_eq [4, 8, 9] _ _ _ _).trans (by kernel_rfl)
theorem m99_1 : L1 (b99_1) (b99_1) := fun _ _ =>
  le_refl _
def b99_3 (j99_l1 : A3) (x0 x3 x5 : AV) (H : Hp) : Res :=
  bnd (ibin .add x5 (.int .i64 1)) fun t21 =>
  j99_l1 x0 x3 t21 H
theorem e99_3 (H0 : Hp) (x0 x3 x5 : AV) (H : Hp) : j99_3 H0 x0 x3 x5 H = b99_3 (j99_l1 H0) x0 x3 x5 H := (CXM_eq [4, 8, 9] _ _ _ _).trans (by kernel_rfl)
theorem m99_3 {j99_l1 dj99_l1 : A3} (hj99_l1 : L3 j99_l1 dj99_l1) : L3 (b99_3 j99_l1) (b99_3 dj99_l1) := fun _ _ _ _ =>
  bR fun _ => hj99_l1 _ _ _ _
def b99_2 (j99_3 : A3) (x0 x3 x5 x6 : AV) (H : Hp) : Res :=
  bnd (ibin .mul x3 (.int .i64 10)) fun t9 =>
  bnd (alenD .string x0) fun t12 =>
  bnd (ibin .lss x5 t12) fun t13 =>
  cnd t13
    (bnd (aindexStr x0 x5) fun t17 =>
    bnd (ibin .sub t17 (.int .u8 48)) fun t18 =>
    bnd (cvInt .i64 t18) fun t19 =>
    bnd (ibin .add t9 t19) fun t20 =>
    j99_3 x0 t20 x5 H)
    (j99_3 x0 t9 x5 H)
theorem e99_2 (H0 : Hp) (x0 x3 x5 x6 : AV) (H : Hp) : j99_2 H0 x0 x3 x5 x6 H = b99_2 (j99_3 H0) x0 x3 x5 x6 H := (CXM_eq [4, 8, 9] _ _ _ _).trans (by kernel_rfl)
theorem m99_2 {j99_3 dj99_3 : A3} (hj99_3 : L3 j99_3 dj99_3) : L4 (b99_2 j99_3) (b99_2 dj99_3) := fun _ _ _ _ _ =>
  bR fun _ => bR fun _ => bR fun _ => bK (bR fun _ => bR fun _ => bR fun _ => bR fun _ => hj99_3 _ _ _ _) (hj99_3 _ _ _ _)
def b99_l1 (j99_1 : A1) (j99_2 : A4) (x0 x3 x5 : AV) (H : Hp) : Res :=
  bnd (ibin .lss x5 (.int .i64 4)) fun t6 =>
  cnd t6
    (j99_2 x0 x3 x5 t6 H)
    (j99_1 x3 H)
theorem e99_l1 (H0 : Hp) (x0 x3 x5 : AV) (H : Hp) : j99_l1 H0 x0 x3 x5 H = b99_l1 (j99_1 H0) (j99_2 H0) x0 x3 x5 H := (LPL_eqm (C := cfg) [4, 8, 9] (tame_block 0 (k99_1_tame H0)) _ _).trans (by kernel_rfl)
theorem m99_l1 {j99_1 dj99_1 : A1} (hj99_1 : L1 j99_1 dj99_1) {j99_2 dj99_2 : A4} (hj99_2 : L4 j99_2 dj99_2) : L3 (b99_l1 j99_1 j99_2) (b99_l1 dj99_1 dj99_2) := fun _ _ _ _ =>
  bR fun _ => bK (hj99_2 _ _ _ _ _) (hj99_1 _ _)
def rj99_1 : A1 := b99_1
theorem sj99_1 (H0 : Hp) : L1 (rj99_1) (j99_1 H0) := fun _ _ => le_eq (m99_1 _ _) (e99_1 H0 _ _)
def rj99_3 (j99_l1 : A3) : A3 := b99_3 j99_l1
theorem sj99_3 (H0 : Hp) {yj99_l1 : A3} (hj99_l1 : L3 yj99_l1 (j99_l1 H0)) : L3 (rj99_3 yj99_l1) (j99_3 H0) := fun _ _ _ _ => le_eq (m99_3 hj99_l1 _ _ _ _) (e99_3 H0 _ _ _ _)
def rj99_2 (j99_l1 : A3) : A4 := b99_2 (rj99_3 j99_l1)
theorem sj99_2 (H0 : Hp) {yj99_l1 : A3} (hj99_l1 : L3 yj99_l1 (j99_l1 H0)) : L4 (rj99_2 yj99_l1) (j99_2 H0) := fun _ _ _ _ _ => le_eq (m99_2 (sj99_3 H0 hj99_l1) _ _ _ _ _) (e99_2 H0 _ _ _ _ _)
def rj99_l1 (n : Nat) : A3 := @Nat.rec (fun _ => A3) (fun _ _ _ _ => none) (fun _ j99_l1 => b99_l1 (rj99_1) (rj99_2 j99_l1)) n
theorem sj99_l1 (H0 : Hp) (n : Nat) : L3 (rj99_l1 n) (j99_l1 H0) := by
  induction n with
  | zero => exact fun _ _ _ _ => le_none _
  | succ n hj99_l1 => exact fun _ _ _ _ => le_eq (m99_l1 (sj99_1 H0) (sj99_2 H0 hj99_l1) _ _ _ _) (e99_l1 H0 _ _ _ _)
def bc99 (j99_l1 : A3) (p0 : AV) (H : Hp) : Res :=
  j99_l1 p0 (.int .i64 0) (.int .i64 0) H
theorem ec99 (p0 : AV) (H : Hp) : c99 p0 H = bc99 (j99_l1 H) p0 H := (callw_cxm (C := cfg) (fn := Tryz.f99) (c := bodyOf Tryz.f99) (n := 23) [4, 8, 9] Tryz.func99 (by kernel_rfl) (by kernel_rfl) [p0] (by kernel_rfl) H).trans (by kernel_rfl)
theorem mc99 {j99_l1 dj99_l1 : A3} (hj99_l1 : L3 j99_l1 dj99_l1) : L1 (bc99 j99_l1) (bc99 dj99_l1) := fun _ _ =>
  hj99_l1 _ _ _ _
def rc99 : A1 := fun p0 H => bc99 (rj99_l1 100000) p0 H
theorem sc99 : L1 rc99 c99 := fun _ H => le_eq (mc99 (sj99_l1 H 100000) _ _) (ec99 _ _)
def q99 : A1 := fun p0 H => flatC (callw cfg 99) [p0] H
def rq99 : A1 := fun p0 H => flatC (ofL1 (rc99)) [p0] H
theorem sq99 : L1 rq99 q99 := fun _ _ => flat_le (ofL1_le (sc99)) _ _

def c76 (p0 p1 : AV) (H : Hp) : Res := callw cfg 76 [p0, p1] H
def j76_1 (H0 : Hp) (x1 x5 : AV) (H : Hp) : Res := CXf 76 29 (sub (bodyOf Tryz.f76) [1, 1, 1]) (retL cfg 29 76 Tryz.f76 H0) [(1, x1), (5, x5)] H
def k76_1 (H0 : Hp) : KL := seqL (fun k al H => CXf 76 29 (sub (bodyOf Tryz.f76) [1, 1, 1]) k (trimL (cfg.keep 76) (sub (bodyOf Tryz.f76) [1, 1, 1]) al) H) (retL cfg 29 76 Tryz.f76 H0)
theorem k76_1_tame (H0 : Hp) : Tame 29 (k76_1 H0) := tame_seq (C := cfg) (kp := cfg.keep 76) (sub (bodyOf Tryz.f76) [1, 1, 1]) (tame_ret 76 Tryz.f76 H0)
def j76_3 (H0 : Hp) (x0 x1 x5 x8 x9 : AV) (H : Hp) : Res := CXf 76 29 (sub (bodyOf Tryz.f76) [1, 1, 0, 1, 0, 0, 1, 1, 1]) (seqL (fun k al H => LPf 76 29 (sub (bodyOf Tryz.f76) [1, 1, 0, 1, 0, 0]) k (trimL (cfg.keep 76) (sub (bodyOf Tryz.f76) [1, 1, 0, 1, 0, 0]) al) H) (blockL 0 (k76_1 H0))) [(0, x0), (1, x1), (5, x5), (8, x8), (9, x9)] H
def j76_2 (H0 : Hp) (x0 x1 x5 x8 x9 x10 : AV) (H : Hp) : Res := CXf 76 29 (sub (bodyOf Tryz.f76) [1, 1, 0, 1, 0, 0, 1, 1]) (seqL (fun k al H => LPf 76 29 (sub (bodyOf Tryz.f76) [1, 1, 0, 1, 0, 0]) k (trimL (cfg.keep 76) (sub (bodyOf Tryz.f76) [1, 1, 0, 1, 0, 0]) al) H) (blockL 0 (k76_1 H0))) [(0, x0), (1, x1), (5, x5), (8, x8), (9, x9), (10, x10)] H
def j76_l1 (H0 : Hp) (x0 x1 x5 x8 x9 : AV) (H : Hp) : Res := LPf 76 29 (sub (bodyOf Tryz.f76) [1, 1, 0, 1, 0, 0]) (blockL 0 (k76_1 H0)) [(0, x0), (1, x1), (5, x5), (8, x8), (9, x9)] H
def b76_1 (q99 : A1) (x1 x5 : AV) (H : Hp) : Res :=
  bnd (ibin .mul x5 (.int .i64 10000)) fun t24 =>
  bnd (q99 x1 H) fun r26 =>
  bnd (ibin .add t24 r26.1) fun t27 =>
  bnd (amin2 (.int .i64 10000000000001) t27) fun t28 =>
  some (t28, r26.2)
theorem e76_1 (H0 : Hp) (x1 x5 : AV) (H : Hp) : j76_1 H0 x1 x5 H = b76_1 q99 x1 x5 H := (CXM_eq [4, 8, 9] _ _ _ _).trans (by kernel_rfl)
theorem m76_1 {q99 dq99 : A1} (hq99 : L1 q99 dq99) : L2 (b76_1 q99) (b76_1 dq99) := fun _ _ _ =>
  bR fun _ => bC (hq99 _ _) fun _ => bR fun _ => bR fun _ => le_refl _
def b76_3 (j76_l1 : A5) (x0 x1 x5 x8 x9 : AV) (H : Hp) : Res :=
  bnd (ibin .add x9 (.int .i64 1)) fun t22 =>
  j76_l1 x0 x1 x5 x8 t22 H
theorem e76_3 (H0 : Hp) (x0 x1 x5 x8 x9 : AV) (H : Hp) : j76_3 H0 x0 x1 x5 x8 x9 H = b76_3 (j76_l1 H0) x0 x1 x5 x8 x9 H := (CXM_eq [4, 8, 9] _ _ _ _).trans (by kernel_rfl)
theorem m76_3 {j76_l1 dj76_l1 : A5} (hj76_l1 : L5 j76_l1 dj76_l1) : L5 (b76_3 j76_l1) (b76_3 dj76_l1) := fun _ _ _ _ _ _ =>
  bR fun _ => hj76_l1 _ _ _ _ _ _
def b76_2 (j76_3 : A5) (x0 x1 x5 x8 x9 x10 : AV) (H : Hp) : Res :=
  bnd (ibin .mul (.int .i64 10) x5) fun t13 =>
  bnd (aindexStr x0 x9) fun t16 =>
  bnd (ibin .sub t16 (.int .u8 48)) fun t17 =>
  bnd (cvInt .i64 t17) fun t18 =>
  bnd (ibin .add t13 t18) fun t19 =>
  bnd (ibin .gtr t19 (.int .i64 1000000000)) fun t21 =>
  cnd t21
    (some ((.int .i64 10000000000001), H))
    (j76_3 x0 x1 t19 x8 x9 H)
theorem e76_2 (H0 : Hp) (x0 x1 x5 x8 x9 x10 : AV) (H : Hp) : j76_2 H0 x0 x1 x5 x8 x9 x10 H = b76_2 (j76_3 H0) x0 x1 x5 x8 x9 x10 H := (CXM_eq [4, 8, 9] _ _ _ _).trans (by kernel_rfl)
theorem m76_2 {j76_3 dj76_3 : A5} (hj76_3 : L5 j76_3 dj76_3) : L6 (b76_2 j76_3) (b76_2 dj76_3) := fun _ _ _ _ _ _ _ =>
  bR fun _ => bR fun _ => bR fun _ => bR fun _ => bR fun _ => bR fun _ => bK (le_refl _) (hj76_3 _ _ _ _ _ _)
def b76_l1 (j76_1 : A2) (j76_2 : A6) (x0 x1 x5 x8 x9 : AV) (H : Hp) : Res :=
  bnd (ibin .lss x9 x8) fun t10 =>
  cnd t10
    (j76_2 x0 x1 x5 x8 x9 t10 H)
    (j76_1 x1 x5 H)
theorem e76_l1 (H0 : Hp) (x0 x1 x5 x8 x9 : AV) (H : Hp) : j76_l1 H0 x0 x1 x5 x8 x9 H = b76_l1 (j76_1 H0) (j76_2 H0) x0 x1 x5 x8 x9 H := (LPL_eqm (C := cfg) [4, 8, 9] (tame_block 0 (k76_1_tame H0)) _ _).trans (by kernel_rfl)
theorem m76_l1 {j76_1 dj76_1 : A2} (hj76_1 : L2 j76_1 dj76_1) {j76_2 dj76_2 : A6} (hj76_2 : L6 j76_2 dj76_2) : L5 (b76_l1 j76_1 j76_2) (b76_l1 dj76_1 dj76_2) := fun _ _ _ _ _ _ =>
  bR fun _ => bK (hj76_2 _ _ _ _ _ _ _) (hj76_1 _ _ _)
def rj76_1 : A2 := b76_1 rq99
theorem sj76_1 (H0 : Hp) : L2 (rj76_1) (j76_1 H0) := fun _ _ _ => le_eq (m76_1 sq99 _ _ _) (e76_1 H0 _ _ _)
def rj76_3 (j76_l1 : A5) : A5 := b76_3 j76_l1
theorem sj76_3 (H0 : Hp) {yj76_l1 : A5} (hj76_l1 : L5 yj76_l1 (j76_l1 H0)) : L5 (rj76_3 yj76_l1) (j76_3 H0) := fun _ _ _ _ _ _ => le_eq (m76_3 hj76_l1 _ _ _ _ _ _) (e76_3 H0 _ _ _ _ _ _)
def rj76_2 (j76_l1 : A5) : A6 := b76_2 (rj76_3 j76_l1)
theorem sj76_2 (H0 : Hp) {yj76_l1 : A5} (hj76_l1 : L5 yj76_l1 (j76_l1 H0)) : L6 (rj76_2 yj76_l1) (j76_2 H0) := fun _ _ _ _ _ _ _ => le_eq (m76_2 (sj76_3 H0 hj76_l1) _ _ _ _ _ _ _) (e76_2 H0 _ _ _ _ _ _ _)
def rj76_l1 (n : Nat) : A5 := @Nat.rec (fun _ => A5) (fun _ _ _ _ _ _ => none) (fun _ j76_l1 => b76_l1 (rj76_1) (rj76_2 j76_l1)) n
theorem sj76_l1 (H0 : Hp) (n : Nat) : L5 (rj76_l1 n) (j76_l1 H0) := by
  induction n with
  | zero => exact fun _ _ _ _ _ _ => le_none _
  | succ n hj76_l1 => exact fun _ _ _ _ _ _ => le_eq (m76_l1 (sj76_1 H0) (sj76_2 H0 hj76_l1) _ _ _ _ _ _) (e76_l1 H0 _ _ _ _ _ _)
def bc76 (j76_l1 : A5) (p0 p1 : AV) (H : Hp) : Res :=
  bnd (alenD .string p0) fun t8 =>
  j76_l1 p0 p1 (.int .i64 0) t8 (.int .i64 0) H
theorem ec76 (p0 p1 : AV) (H : Hp) : c76 p0 p1 H = bc76 (j76_l1 H) p0 p1 H := (callw_cxm (C := cfg) (fn := Tryz.f76) (c := bodyOf Tryz.f76) (n := 29) [4, 8, 9] Tryz.func76 (by kernel_rfl) (by kernel_rfl) [p0, p1] (by kernel_rfl) H).trans (by kernel_rfl)
theorem mc76 {j76_l1 dj76_l1 : A5} (hj76_l1 : L5 j76_l1 dj76_l1) : L2 (bc76 j76_l1) (bc76 dj76_l1) := fun _ _ _ =>
  bR fun _ => hj76_l1 _ _ _ _ _ _
def rc76 : A2 := fun p0 p1 H => bc76 (rj76_l1 100000) p0 p1 H
theorem sc76 : L2 rc76 c76 := fun _ _ H => le_eq (mc76 (sj76_l1 H 100000) _ _ _) (ec76 _ _ _)
def q76 : A2 := fun p0 p1 H => flatC (callw cfg 76) [p0, p1] H
def rq76 : A2 := fun p0 p1 H => flatC (ofL2 (rc76)) [p0, p1] H
theorem sq76 : L2 rq76 q76 := fun _ _ _ => flat_le (ofL2_le (sc76)) _ _

def c51 (p0 : AV) (H : Hp) : Res := callw cfg 51 [p0] H
def j51_5 (H0 : Hp) (x9 x11 : AV) (H : Hp) : Res := CXf 51 116 (sub (bodyOf Tryz.f51) [1, 1, 1, 1, 1, 1, 1, 1, 1, 1, 1]) (retL cfg 116 51 Tryz.f51 H0) [(9, x9), (11, x11)] H
def j51_4 (H0 : Hp) (x5 x7 x8 x9 : AV) (H : Hp) : Res := CXf 51 116 (sub (bodyOf Tryz.f51) [1, 1, 1, 1, 1, 1, 1, 1, 1]) (retL cfg 116 51 Tryz.f51 H0) [(5, x5), (7, x7), (8, x8), (9, x9)] H
def j51_3 (H0 : Hp) (x5 x6 x7 x8 x9 : AV) (H : Hp) : Res := CXf 51 116 (sub (bodyOf Tryz.f51) [1, 1, 1, 1, 1, 1, 1, 1]) (retL cfg 116 51 Tryz.f51 H0) [(5, x5), (6, x6), (7, x7), (8, x8), (9, x9)] H
def j51_2 (H0 : Hp) (x0 x4 x5 : AV) (H : Hp) : Res := CXf 51 116 (sub (bodyOf Tryz.f51) [1, 1, 1, 1, 1]) (retL cfg 116 51 Tryz.f51 H0) [(0, x0), (4, x4), (5, x5)] H
def j51_1 (H0 : Hp) (x0 x4 : AV) (H : Hp) : Res := CXf 51 116 (sub (bodyOf Tryz.f51) [1, 1, 1]) (retL cfg 116 51 Tryz.f51 H0) [(0, x0), (4, x4)] H
def k51_1 (H0 : Hp) : KL := seqL (fun k al H => CXf 51 116 (sub (bodyOf Tryz.f51) [1, 1, 1]) k (trimL (cfg.keep 51) (sub (bodyOf Tryz.f51) [1, 1, 1]) al) H) (retL cfg 116 51 Tryz.f51 H0)
theorem k51_1_tame (H0 : Hp) : Tame 116 (k51_1 H0) := tame_seq (C := cfg) (kp := cfg.keep 51) (sub (bodyOf Tryz.f51) [1, 1, 1]) (tame_ret 51 Tryz.f51 H0)
def j51_6 (H0 : Hp) (x0 x4 : AV) (H : Hp) : Res := CXf 51 116 (sub (bodyOf Tryz.f51) [1, 1, 0, 0, 0, 1]) (seqL (fun k al H => LPf 51 116 (sub (bodyOf Tryz.f51) [1, 1, 0, 0, 0]) k (trimL (cfg.keep 51) (sub (bodyOf Tryz.f51) [1, 1, 0, 0, 0]) al) H) (blockL 0 (k51_1 H0))) [(0, x0), (4, x4)] H
def j51_l1 (H0 : Hp) (x0 x4 : AV) (H : Hp) : Res := LPf 51 116 (sub (bodyOf Tryz.f51) [1, 1, 0, 0, 0]) (blockL 0 (k51_1 H0)) [(0, x0), (4, x4)] H
def b51_5 (x9 x11 : AV) (H : Hp) : Res :=
  some ((.tuple [x11, x9]), H)
theorem e51_5 (H0 : Hp) (x9 x11 : AV) (H : Hp) : j51_5 H0 x9 x11 H = b51_5 x9 x11 H := (CXM_eq [3, 4, 7, 14, 16, 19] _ _ _ _).trans (by kernel_rfl)
theorem m51_5 : L2 (b51_5) (b51_5) := fun _ _ _ =>
  le_refl _
def b51_4 (q76 : A2) (j51_5 : A2) (x5 x7 x8 x9 : AV) (H : Hp) : Res :=
  bnd (q76 x7 x8 H) fun r109 =>
  bnd (amin2 (.int .i64 10000000000000) r109.1) fun t110 =>
  cnd x5
    (bnd (aun .neg t110) fun t113 =>
    j51_5 x9 t113 r109.2)
    (j51_5 x9 t110 r109.2)
theorem e51_4 (H0 : Hp) (x5 x7 x8 x9 : AV) (H : Hp) : j51_4 H0 x5 x7 x8 x9 H = b51_4 q76 (j51_5 H0) x5 x7 x8 x9 H := (CXM_eq [3, 4, 7, 14, 16, 19] _ _ _ _).trans (by kernel_rfl)
theorem m51_4 {q76 dq76 : A2} (hq76 : L2 q76 dq76) {j51_5 dj51_5 : A2} (hj51_5 : L2 j51_5 dj51_5) : L4 (b51_4 q76 j51_5) (b51_4 dq76 dj51_5) := fun _ _ _ _ _ =>
  bC (hq76 _ _ _) fun _ => bR fun _ => bK (bR fun _ => hj51_5 _ _ _) (hj51_5 _ _ _)
def b51_3 (j51_4 : A4) (x5 x6 x7 x8 x9 : AV) (H : Hp) : Res :=
  bnd (ibin .eql x6 (.int .i64 0)) fun t102 =>
  bnd (gdv t102 true (.tuple []) (some x8)) fun t104 =>
  bnd (gdv t102 true (.tuple []) (sbin .eql t104 (.str []))) fun t105 =>
  bnd (apick t102 t105 (.bool false)) fun t106 =>
  cnd t106
    (some ((.tuple [(.int .i64 0), (.int .i64 0)]), H))
    (j51_4 x5 x7 x8 x9 H)
theorem e51_3 (H0 : Hp) (x5 x6 x7 x8 x9 : AV) (H : Hp) : j51_3 H0 x5 x6 x7 x8 x9 H = b51_3 (j51_4 H0) x5 x6 x7 x8 x9 H := (CXM_eq [3, 4, 7, 14, 16, 19] _ _ _ _).trans (by kernel_rfl)
theorem m51_3 {j51_4 dj51_4 : A4} (hj51_4 : L4 j51_4 dj51_4) : L5 (b51_3 j51_4) (b51_3 dj51_4) := fun _ _ _ _ _ _ =>
  bR fun _ => bR fun _ => bR fun _ => bR fun _ => bK (le_refl _) (hj51_4 _ _ _ _ _)
def b51_2 (q75 : A1) (j51_3 : A5) (x0 x4 x5 : AV) (H : Hp) : Res :=
  bnd (asliceS x0 (some x4) none none) fun t57 =>
  bnd (q75 t57 H) fun r58 =>
  bnd (ibin .add x4 r58.1) fun t63 =>
  bnd (asliceS x0 (some x4) (some t63) none) fun t64 =>
  bnd (ibin .add x4 r58.1) fun t67 =>
  bnd (alenD .string x0) fun t70 =>
  bnd (ibin .lss t67 t70) fun t71 =>
  bnd (gdv t71 true (.tuple []) (some x0)) fun t73 =>
  bnd (gdv t71 true (.tuple []) (some t67)) fun t74 =>
  bnd (gdv t71 true (.tuple []) (aindexStr t73 t74)) fun t75 =>
  bnd (gdv t71 true (.tuple []) (ibin .eql t75 (.int .u8 46))) fun t76 =>
  bnd (apick t71 t76 (.bool false)) fun t77 =>
  cnd t77
    (bnd (ibin .add t67 (.int .i64 1)) fun t80 =>
    bnd (asliceS x0 (some t80) none none) fun t81 =>
    bnd (q75 t81 r58.2) fun r82 =>
    bnd (ibin .gtr r58.1 (.int .i64 0)) fun t84 =>
    bnd (gdv t84 false (.tuple []) (some r82.1)) fun t86 =>
    bnd (gdv t84 false (.tuple []) (ibin .gtr t86 (.int .i64 0))) fun t87 =>
    bnd (apick t84 (.bool true) t87) fun t88 =>
    cnd t88
      (bnd (ibin .add t67 (.int .i64 1)) fun t91 =>
      bnd (ibin .add t67 (.int .i64 1)) fun t93 =>
      bnd (ibin .add t93 r82.1) fun t95 =>
      bnd (asliceS x0 (some t91) (some t95) none) fun t96 =>
      bnd (ibin .add (.int .i64 1) r82.1) fun t99 =>
      bnd (ibin .add t67 t99) fun t100 =>
      j51_3 x5 r58.1 t64 t96 t100 r82.2)
      (j51_3 x5 r58.1 t64 (.str []) t67 r82.2))
    (j51_3 x5 r58.1 t64 (.str []) t67 r58.2)
theorem e51_2 (H0 : Hp) (x0 x4 x5 : AV) (H : Hp) : j51_2 H0 x0 x4 x5 H = b51_2 q75 (j51_3 H0) x0 x4 x5 H := (CXM_eq [3, 4, 7, 14, 16, 19] _ _ _ _).trans (by kernel_rfl)
theorem m51_2 {q75 dq75 : A1} (hq75 : L1 q75 dq75) {j51_3 dj51_3 : A5} (hj51_3 : L5 j51_3 dj51_3) : L3 (b51_2 q75 j51_3) (b51_2 dq75 dj51_3) := fun _ _ _ _ =>
  bR fun _ => bC (hq75 _ _) fun _ => bR fun _ => bR fun _ => bR fun _ => bR fun _ => bR fun _ => bR fun _ => bR fun _ => bR fun _ => bR fun _ => bR fun _ => bK (bR fun _ => bR fun _ => bC (hq75 _ _) fun _ => bR fun _ => bR fun _ => bR fun _ => bR fun _ => bK (bR fun _ => bR fun _ => bR fun _ => bR fun _ => bR fun _ => bR fun _ => hj51_3 _ _ _ _ _ _) (hj51_3 _ _ _ _ _ _)) (hj51_3 _ _ _ _ _ _)
def b51_1 (j51_2 : A3) (x0 x4 : AV) (H : Hp) : Res :=
  bnd (alenD .string x0) fun t32 =>
  bnd (ibin .lss x4 t32) fun t33 =>
  bnd (gdv t33 true (.tuple []) (some x0)) fun t35 =>
  bnd (gdv t33 true (.tuple []) (some x4)) fun t36 =>
  bnd (gdv t33 true (.tuple []) (aindexStr t35 t36)) fun t37 =>
  bnd (gdv t33 true (.tuple []) (ibin .eql t37 (.int .u8 45))) fun t38 =>
  bnd (apick t33 t38 (.bool false)) fun t39 =>
  bnd (gdv t39 false (.tuple []) (some x4)) fun t42 =>
  bnd (gdv t39 false (.tuple []) (some x0)) fun t43 =>
  bnd (gdv t39 false (.tuple []) (alenD .string t43)) fun t44 =>
  bnd (gdv t39 false (.tuple []) (ibin .lss t42 t44)) fun t45 =>
  bnd (gdv t39 false (.tuple []) (some t45)) fun t46 =>
  bnd (gdv t46 true (.tuple []) (some x0)) fun t47 =>
  bnd (gdv t46 true (.tuple []) (some x4)) fun t48 =>
  bnd (gdv t46 true (.tuple []) (aindexStr t47 t48)) fun t49 =>
  bnd (gdv t46 true (.tuple []) (ibin .eql t49 (.int .u8 43))) fun t50 =>
  bnd (gdv t39 false (.tuple []) (apick t46 t50 (.bool false))) fun t51 =>
  bnd (apick t39 (.bool true) t51) fun t52 =>
  cnd t52
    (bnd (ibin .add x4 (.int .i64 1)) fun t54 =>
    j51_2 x0 t54 t39 H)
    (j51_2 x0 x4 t39 H)
theorem e51_1 (H0 : Hp) (x0 x4 : AV) (H : Hp) : j51_1 H0 x0 x4 H = b51_1 (j51_2 H0) x0 x4 H := (CXM_eq [3, 4, 7, 14, 16, 19] _ _ _ _).trans (by kernel_rfl)
theorem m51_1 {j51_2 dj51_2 : A3} (hj51_2 : L3 j51_2 dj51_2) : L2 (b51_1 j51_2) (b51_1 dj51_2) := fun _ _ _ =>
  bR fun _ => bR fun _ => bR fun _ => bR fun _ => bR fun _ => bR fun _ => bR fun _ => bR fun _ => bR fun _ => bR fun _ => bR fun _ => bR fun _ => bR fun _ => bR fun _ => bR fun _ => bR fun _ => bR fun _ => bR fun _ => bK (bR fun _ => hj51_2 _ _ _ _) (hj51_2 _ _ _ _)
def b51_6 (j51_l1 : A2) (x0 x4 : AV) (H : Hp) : Res :=
  bnd (ibin .add x4 (.int .i64 1)) fun t29 =>
  j51_l1 x0 t29 H
theorem e51_6 (H0 : Hp) (x0 x4 : AV) (H : Hp) : j51_6 H0 x0 x4 H = b51_6 (j51_l1 H0) x0 x4 H := (CXM_eq [3, 4, 7, 14, 16, 19] _ _ _ _).trans (by kernel_rfl)
theorem m51_6 {j51_l1 dj51_l1 : A2} (hj51_l1 : L2 j51_l1 dj51_l1) : L2 (b51_6 j51_l1) (b51_6 dj51_l1) := fun _ _ _ =>
  bR fun _ => hj51_l1 _ _ _
def b51_l1 (j51_1 : A2) (j51_6 : A2) (x0 x4 : AV) (H : Hp) : Res :=
  bnd (alenD .string x0) fun t14 =>
  bnd (ibin .lss x4 t14) fun t15 =>
  bnd (gdv t15 true (.tuple []) (some x0)) fun t17 =>
  bnd (gdv t15 true (.tuple []) (some x4)) fun t18 =>
  bnd (gdv t15 true (.tuple []) (aindexStr t17 t18)) fun t19 =>
  bnd (gdv t15 true (.tuple []) (ibin .eql t19 (.int .u8 32))) fun t20 =>
  bnd (gdv t15 true (.tuple []) (some t20)) fun t21 =>
  bnd (gdv t21 false (.tuple []) (some x0)) fun t22 =>
  bnd (gdv t21 false (.tuple []) (some x4)) fun t23 =>
  bnd (gdv t21 false (.tuple []) (aindexStr t22 t23)) fun t24 =>
  bnd (gdv t21 false (.tuple []) (ibin .eql t24 (.int .u8 9))) fun t25 =>
  bnd (gdv t15 true (.tuple []) (apick t21 (.bool true) t25)) fun t26 =>
  bnd (apick t15 t26 (.bool false)) fun t27 =>
  cnd t27
    (j51_6 x0 x4 H)
    (j51_1 x0 x4 H)
theorem e51_l1 (H0 : Hp) (x0 x4 : AV) (H : Hp) : j51_l1 H0 x0 x4 H = b51_l1 (j51_1 H0) (j51_6 H0) x0 x4 H := (LPL_eqm (C := cfg) [3, 4, 7, 14, 16, 19] (tame_block 0 (k51_1_tame H0)) _ _).trans (by kernel_rfl)
theorem m51_l1 {j51_1 dj51_1 : A2} (hj51_1 : L2 j51_1 dj51_1) {j51_6 dj51_6 : A2} (hj51_6 : L2 j51_6 dj51_6) : L2 (b51_l1 j51_1 j51_6) (b51_l1 dj51_1 dj51_6) := fun _ _ _ =>
  bR fun _ => bR fun _ => bR fun _ => bR fun _ => bR fun _ => bR fun _ => bR fun _ => bR fun _ => bR fun _ => bR fun _ => bR fun _ => bR fun _ => bR fun _ => bK (hj51_6 _ _ _) (hj51_1 _ _ _)
def rj51_5 : A2 := b51_5
theorem sj51_5 (H0 : Hp) : L2 (rj51_5) (j51_5 H0) := fun _ _ _ => le_eq (m51_5 _ _ _) (e51_5 H0 _ _ _)
def rj51_4 : A4 := b51_4 rq76 (rj51_5)
theorem sj51_4 (H0 : Hp) : L4 (rj51_4) (j51_4 H0) := fun _ _ _ _ _ => le_eq (m51_4 sq76 (sj51_5 H0) _ _ _ _ _) (e51_4 H0 _ _ _ _ _)
def rj51_3 : A5 := b51_3 (rj51_4)
theorem sj51_3 (H0 : Hp) : L5 (rj51_3) (j51_3 H0) := fun _ _ _ _ _ _ => le_eq (m51_3 (sj51_4 H0) _ _ _ _ _ _) (e51_3 H0 _ _ _ _ _ _)
def rj51_2 : A3 := b51_2 rq75 (rj51_3)
theorem sj51_2 (H0 : Hp) : L3 (rj51_2) (j51_2 H0) := fun _ _ _ _ => le_eq (m51_2 sq75 (sj51_3 H0) _ _ _ _) (e51_2 H0 _ _ _ _)
def rj51_1 : A2 := b51_1 (rj51_2)
theorem sj51_1 (H0 : Hp) : L2 (rj51_1) (j51_1 H0) := fun _ _ _ => le_eq (m51_1 (sj51_2 H0) _ _ _) (e51_1 H0 _ _ _)
def rj51_6 (j51_l1 : A2) : A2 := b51_6 j51_l1
theorem sj51_6 (H0 : Hp) {yj51_l1 : A2} (hj51_l1 : L2 yj51_l1 (j51_l1 H0)) : L2 (rj51_6 yj51_l1) (j51_6 H0) := fun _ _ _ => le_eq (m51_6 hj51_l1 _ _ _) (e51_6 H0 _ _ _)
def rj51_l1 (n : Nat) : A2 := @Nat.rec (fun _ => A2) (fun _ _ _ => none) (fun _ j51_l1 => b51_l1 (rj51_1) (rj51_6 j51_l1)) n
theorem sj51_l1 (H0 : Hp) (n : Nat) : L2 (rj51_l1 n) (j51_l1 H0) := by
  induction n with
  | zero => exact fun _ _ _ => le_none _
  | succ n hj51_l1 => exact fun _ _ _ => le_eq (m51_l1 (sj51_1 H0) (sj51_6 H0 hj51_l1) _ _ _) (e51_l1 H0 _ _ _)
def bc51 (j51_l1 : A2) (p0 : AV) (H : Hp) : Res :=
  j51_l1 p0 (.int .i64 0) H
theorem ec51 (p0 : AV) (H : Hp) : c51 p0 H = bc51 (j51_l1 H) p0 H := (callw_cxm (C := cfg) (fn := Tryz.f51) (c := bodyOf Tryz.f51) (n := 116) [3, 4, 7, 14, 16, 19] Tryz.func51 (by kernel_rfl) (by kernel_rfl) [p0] (by kernel_rfl) H).trans (by kernel_rfl)
theorem mc51 {j51_l1 dj51_l1 : A2} (hj51_l1 : L2 j51_l1 dj51_l1) : L1 (bc51 j51_l1) (bc51 dj51_l1) := fun _ _ =>
  hj51_l1 _ _ _
def rc51 : A1 := fun p0 H => bc51 (rj51_l1 100000) p0 H
theorem sc51 : L1 rc51 c51 := fun _ H => le_eq (mc51 (sj51_l1 H 100000) _ _) (ec51 _ _)
def q51 : A1 := fun p0 H => flatC (callw cfg 51) [p0] H
def rq51 : A1 := fun p0 H => flatC (ofL1 (rc51)) [p0] H
theorem sq51 : L1 rq51 q51 := fun _ _ => flat_le (ofL1_le (sc51)) _ _

def c52 (p0 p1 : AV) (H : Hp) : Res := callw cfg 52 [p0, p1] H
def j52_1 (H0 : Hp) (H : Hp) : Res := CXf 52 13 (sub (bodyOf Tryz.f52) [1, 1]) (retL cfg 13 52 Tryz.f52 H0) [] H
def b52_1 (H : Hp) : Res :=
  some ((.int .i64 0), H)
theorem e52_1 (H0 : Hp) (H : Hp) : j52_1 H0 H = b52_1 H := (CXM_eq [5] _ _ _ _).trans (by kernel_rfl)
theorem m52_1 : L0 (b52_1) (b52_1) := fun _ =>
  le_refl _
def rj52_1 : A0 := b52_1
theorem sj52_1 (H0 : Hp) : L0 (rj52_1) (j52_1 H0) := fun _ => le_eq (m52_1 _) (e52_1 H0 _)
def bc52 (j52_1 : A0) (p0 p1 : AV) (H : Hp) : Res :=
  bnd (ibin .lss p0 p1) fun t8 =>
  cnd t8
    (some ((.int .i64 (-1)), H))
    (bnd (ibin .gtr p0 p1) fun t12 =>
    cnd t12
      (some ((.int .i64 1), H))
      (j52_1 H))
theorem ec52 (p0 p1 : AV) (H : Hp) : c52 p0 p1 H = bc52 (j52_1 H) p0 p1 H := (callw_cxm (C := cfg) (fn := Tryz.f52) (c := bodyOf Tryz.f52) (n := 13) [5] Tryz.func52 (by kernel_rfl) (by kernel_rfl) [p0, p1] (by kernel_rfl) H).trans (by kernel_rfl)
theorem mc52 {j52_1 dj52_1 : A0} (hj52_1 : L0 j52_1 dj52_1) : L2 (bc52 j52_1) (bc52 dj52_1) := fun _ _ _ =>
  bR fun _ => bK (le_refl _) (bR fun _ => bK (le_refl _) (hj52_1 _))
def rc52 : A2 := fun p0 p1 H => bc52 (rj52_1) p0 p1 H
theorem sc52 : L2 rc52 c52 := fun _ _ H => le_eq (mc52 (sj52_1 H) _ _ _) (ec52 _ _ _)
def q52 : A2 := fun p0 p1 H => flatC (callw cfg 52) [p0, p1] H
def rq52 : A2 := fun p0 p1 H => flatC (ofL2 (rc52)) [p0, p1] H
theorem sq52 : L2 rq52 q52 := fun _ _ _ => flat_le (ofL2_le (sc52)) _ _

def c40 (p0 p1 p2 p3 : AV) (H : Hp) : Res := callw cfg 40 [p0, p1, p2, p3] H
def j40_2 (H0 : Hp) (x4 x5 x6 x7 x9 : AV) (H : Hp) : Res := CXf 40 50 (sub (bodyOf Tryz.f40) [1, 1, 1, 1]) (retL cfg 50 40 Tryz.f40 H0) [(4, x4), (5, x5), (6, x6), (7, x7), (9, x9)] H
def j40_1 (H0 : Hp) (x4 x5 x6 x7 x9 : AV) (H : Hp) : Res := CXf 40 50 (sub (bodyOf Tryz.f40) [1, 1, 1]) (retL cfg 50 40 Tryz.f40 H0) [(4, x4), (5, x5), (6, x6), (7, x7), (9, x9)] H
def b40_2 (q45 : A3) (cV : AV → List AV → Hp → Res) (x4 x5 x6 x7 x9 : AV) (H : Hp) : Res :=
  bnd (some (.fn (.func 53) [] [x5, x6, x7])) fun t36 =>
  bnd (cV t36 [(.int .i64 8), (.fn (.func 54) [] [])] H) fun r38 =>
  bnd (cV t36 [(.int .i64 16), (.fn (.func 56) [] [])] r38.2) fun r40 =>
  frzK x4 r40.2 fun z4 z4H =>
  bnd (some (.fn (.func 57) [] [z4])) fun t42 =>
  bnd (cV t36 [(.int .i64 4), t42] z4H) fun r43 =>
  bnd (aload true 6 z4 r43.2) fun t45 =>
  bnd (aload false 1 x6 r43.2) fun t46 =>
  bnd (aload false 1 x7 r43.2) fun t47 =>
  bnd (q45 t45 t46 t47 r43.2) fun r48 =>
  bnd (ibin .mul x9 r48.1) fun t49 =>
  some (t49, r48.2)
theorem e40_2 (H0 : Hp) (x4 x5 x6 x7 x9 : AV) (H : Hp) : j40_2 H0 x4 x5 x6 x7 x9 H = b40_2 q45 (acall cfg (callw cfg)) x4 x5 x6 x7 x9 H := (CXM_eq [4, 8] _ _ _ _).trans (by kernel_rfl)
theorem m40_2 {q45 dq45 : A3} (hq45 : L3 q45 dq45) {cV dcV : AV → List AV → Hp → Res} (hcV : LV cV dcV) : L5 (b40_2 q45 cV) (b40_2 dq45 dcV) := fun _ _ _ _ _ _ =>
  bR fun _ => bC (hcV _ _ _) fun _ => bC (hcV _ _ _) fun _ => bF fun _ _ => bR fun _ => bC (hcV _ _ _) fun _ => bR fun _ => bR fun _ => bR fun _ => bC (hq45 _ _ _ _) fun _ => bR fun _ => le_refl _
def b40_1 (q51 : A1) (q52 : A2) (j40_2 : A5) (x4 x5 x6 x7 x9 : AV) (H : Hp) : Res :=
  bnd (aload false 1 x5 H) fun t18 =>
  bnd (ibin .and t18 (.int .i64 1)) fun t19 =>
  bnd (ibin .neq t19 (.int .i64 0)) fun t20 =>
  cnd t20
    (bnd (aload false 1 x6 H) fun t22 =>
    bnd (q51 t22 H) fun r23 =>
    bnd (aext r23.1 0) fun t24 =>
    bnd (aext r23.1 1) fun t25 =>
    bnd (aload false 1 x7 r23.2) fun t27 =>
    bnd (q51 t27 r23.2) fun r28 =>
    bnd (aext r28.1 0) fun t29 =>
    bnd (aext r28.1 1) fun t30 =>
    bnd (q52 t24 t29 r28.2) fun r34 =>
    bnd (ibin .mul x9 r34.1) fun t35 =>
    some (t35, r34.2))
    (j40_2 x4 x5 x6 x7 x9 H)
theorem e40_1 (H0 : Hp) (x4 x5 x6 x7 x9 : AV) (H : Hp) : j40_1 H0 x4 x5 x6 x7 x9 H = b40_1 q51 q52 (j40_2 H0) x4 x5 x6 x7 x9 H := (CXM_eq [4, 8] _ _ _ _).trans (by kernel_rfl)
theorem m40_1 {q51 dq51 : A1} (hq51 : L1 q51 dq51) {q52 dq52 : A2} (hq52 : L2 q52 dq52) {j40_2 dj40_2 : A5} (hj40_2 : L5 j40_2 dj40_2) : L5 (b40_1 q51 q52 j40_2) (b40_1 dq51 dq52 dj40_2) := fun _ _ _ _ _ _ =>
  bR fun _ => bR fun _ => bR fun _ => bK (bR fun _ => bC (hq51 _ _) fun _ => bR fun _ => bR fun _ => bR fun _ => bC (hq51 _ _) fun _ => bR fun _ => bR fun _ => bC (hq52 _ _ _) fun _ => bR fun _ => le_refl _) (hj40_2 _ _ _ _ _ _)
def rj40_2 (gV : AV → List AV → Hp → Res) : A5 := b40_2 (rq45 gV) gV
theorem sj40_2 (H0 : Hp) {gV : AV → List AV → Hp → Res} (hV : LV gV (acall cfg (callw cfg))) : L5 (rj40_2 gV) (j40_2 H0) := fun _ _ _ _ _ _ => le_eq (m40_2 (sq45 hV) hV _ _ _ _ _ _) (e40_2 H0 _ _ _ _ _ _)
def rj40_1 (gV : AV → List AV → Hp → Res) : A5 := b40_1 rq51 rq52 (rj40_2 gV)
theorem sj40_1 (H0 : Hp) {gV : AV → List AV → Hp → Res} (hV : LV gV (acall cfg (callw cfg))) : L5 (rj40_1 gV) (j40_1 H0) := fun _ _ _ _ _ _ => le_eq (m40_1 sq51 sq52 (sj40_2 H0 hV) _ _ _ _ _ _) (e40_1 H0 _ _ _ _ _ _)
def bc40 (j40_1 : A5) (p0 p1 p2 p3 : AV) (H : Hp) : Res :=
  bnd (abox p0 H) fun r4 =>
  bnd (abox p1 r4.2) fun r5 =>
  bnd (abox p2 r5.2) fun r6 =>
  bnd (abox p3 r6.2) fun r7 =>
  bnd (aload false 1 r5.1 r7.2) fun t15 =>
  bnd (ibin .and t15 (.int .i64 2)) fun t16 =>
  bnd (ibin .neq t16 (.int .i64 0)) fun t17 =>
  cnd t17
    (j40_1 r4.1 r5.1 r6.1 r7.1 (.int .i64 (-1)) r7.2)
    (j40_1 r4.1 r5.1 r6.1 r7.1 (.int .i64 1) r7.2)
theorem ec40 (p0 p1 p2 p3 : AV) (H : Hp) : c40 p0 p1 p2 p3 H = bc40 (j40_1 H) p0 p1 p2 p3 H := (callw_cxm (C := cfg) (fn := Tryz.f40) (c := bodyOf Tryz.f40) (n := 50) [4, 8] Tryz.func40 (by kernel_rfl) (by kernel_rfl) [p0, p1, p2, p3] (by kernel_rfl) H).trans (by kernel_rfl)
theorem mc40 {j40_1 dj40_1 : A5} (hj40_1 : L5 j40_1 dj40_1) : L4 (bc40 j40_1) (bc40 dj40_1) := fun _ _ _ _ _ =>
  bR fun _ => bR fun _ => bR fun _ => bR fun _ => bR fun _ => bR fun _ => bR fun _ => bK (hj40_1 _ _ _ _ _ _) (hj40_1 _ _ _ _ _ _)
def rc40 (gV : AV → List AV → Hp → Res) : A4 := fun p0 p1 p2 p3 H => bc40 (rj40_1 gV) p0 p1 p2 p3 H
theorem sc40 {gV : AV → List AV → Hp → Res} (hV : LV gV (acall cfg (callw cfg))) : L4 (rc40 gV) c40 := fun _ _ _ _ H => le_eq (mc40 (sj40_1 H hV) _ _ _ _ _) (ec40 _ _ _ _ _)
def q40 : A4 := fun p0 p1 p2 p3 H => flatC (callw cfg 40) [p0, p1, p2, p3] H
def rq40 (gV : AV → List AV → Hp → Res) : A4 := fun p0 p1 p2 p3 H => flatC (ofL4 (rc40 gV)) [p0, p1, p2, p3] H
theorem sq40 {gV : AV → List AV → Hp → Res} (hV : LV gV (acall cfg (callw cfg))) : L4 (rq40 gV) q40 := fun _ _ _ _ _ => flat_le (ofL4_le (sc40 hV)) _ _

def c81 (p0 : AV) (H : Hp) : Res := callw cfg 81 [p0] H
def bc81 (p0 : AV) (H : Hp) : Res :=
  bnd (ibin .eql p0 (.int .u8 32)) fun t4 =>
  bnd (gdv t4 false (.tuple []) (some p0)) fun t6 =>
  bnd (gdv t4 false (.tuple []) (ibin .eql t6 (.int .u8 9))) fun t7 =>
  bnd (apick t4 (.bool true) t7) fun t8 =>
  some (t8, H)
theorem ec81 (p0 : AV) (H : Hp) : c81 p0 H = bc81 p0 H := (callw_cxm (C := cfg) (fn := Tryz.f81) (c := bodyOf Tryz.f81) (n := 9) [] Tryz.func81 (by kernel_rfl) (by kernel_rfl) [p0] (by kernel_rfl) H).trans (by kernel_rfl)
theorem mc81 : L1 (bc81) (bc81) := fun _ _ =>
  bR fun _ => bR fun _ => bR fun _ => bR fun _ => le_refl _
def rc81 : A1 := fun p0 H => bc81 p0 H
theorem sc81 : L1 rc81 c81 := fun _ H => le_eq (mc81 _ _) (ec81 _ _)

def c104 (p0 p1 : AV) (H : Hp) : Res := callw cfg 104 [p0, p1] H
def bc104 (p0 p1 : AV) (H : Hp) : Res :=
  bnd (extC .indexByte [p0, p1] H) fun r7 =>
  some (r7.1, r7.2)
theorem ec104 (p0 p1 : AV) (H : Hp) : c104 p0 p1 H = bc104 p0 p1 H := (callw_cxm (C := cfg) (fn := Tryz.f104) (c := bodyOf Tryz.f104) (n := 8) [] Tryz.func104 (by kernel_rfl) (by kernel_rfl) [p0, p1] (by kernel_rfl) H).trans (by kernel_rfl)
theorem mc104 : L2 (bc104) (bc104) := fun _ _ _ =>
  bR fun _ => le_refl _
def rc104 : A2 := fun p0 p1 H => bc104 p0 p1 H
theorem sc104 : L2 rc104 c104 := fun _ _ H => le_eq (mc104 _ _ _) (ec104 _ _ _)

def c85 (p0 p1 : AV) (H : Hp) : Res := callw cfg 85 [p0, p1] H
def bc85 (c104 : A2) (p0 p1 : AV) (H : Hp) : Res :=
  bnd (c104 p0 p1 H) fun r7 =>
  some (r7.1, r7.2)
theorem ec85 (p0 p1 : AV) (H : Hp) : c85 p0 p1 H = bc85 c104 p0 p1 H := (callw_cxm (C := cfg) (fn := Tryz.f85) (c := bodyOf Tryz.f85) (n := 8) [] Tryz.func85 (by kernel_rfl) (by kernel_rfl) [p0, p1] (by kernel_rfl) H).trans (by kernel_rfl)
theorem mc85 {c104 dc104 : A2} (hc104 : L2 c104 dc104) : L2 (bc85 c104) (bc85 dc104) := fun _ _ _ =>
  bC (hc104 _ _ _) fun _ => le_refl _
def rc85 : A2 := fun p0 p1 H => bc85 rc104 p0 p1 H
theorem sc85 : L2 rc85 c85 := fun _ _ H => le_eq (mc85 sc104 _ _ _) (ec85 _ _ _)

def c59 (p0 p1 p2 : AV) (H : Hp) : Res := callw cfg 59 [p0, p1, p2] H
def j59_2 (H0 : Hp) (H : Hp) : Res := CXf 59 83 (sub (bodyOf Tryz.f59) [1, 1, 1]) (retL cfg 83 59 Tryz.f59 H0) [] H
def k59_1 (H0 : Hp) : KL := seqL (fun k al H => CXf 59 83 (sub (bodyOf Tryz.f59) [1, 1, 1]) k (trimL (cfg.keep 59) (sub (bodyOf Tryz.f59) [1, 1, 1]) al) H) (retL cfg 83 59 Tryz.f59 H0)
theorem k59_1_tame (H0 : Hp) : Tame 83 (k59_1 H0) := tame_seq (C := cfg) (kp := cfg.keep 59) (sub (bodyOf Tryz.f59) [1, 1, 1]) (tame_ret 59 Tryz.f59 H0)
def j59_4 (H0 : Hp) (x0 x1 x6 x11 : AV) (H : Hp) : Res := CXf 59 83 (sub (bodyOf Tryz.f59) [1, 1, 0, 1, 0, 0, 1, 1]) (seqL (fun k al H => LPf 59 83 (sub (bodyOf Tryz.f59) [1, 1, 0, 1, 0, 0]) k (trimL (cfg.keep 59) (sub (bodyOf Tryz.f59) [1, 1, 0, 1, 0, 0]) al) H) (blockL 2 (k59_1 H0))) [(0, x0), (1, x1), (6, x6), (11, x11)] H
def k59_2 (H0 : Hp) : KL := seqL (fun k al H => CXf 59 83 (sub (bodyOf Tryz.f59) [1, 1, 0, 1, 0, 0, 1, 1]) k (trimL (cfg.keep 59) (sub (bodyOf Tryz.f59) [1, 1, 0, 1, 0, 0, 1, 1]) al) H) (seqL (fun k al H => LPf 59 83 (sub (bodyOf Tryz.f59) [1, 1, 0, 1, 0, 0]) k (trimL (cfg.keep 59) (sub (bodyOf Tryz.f59) [1, 1, 0, 1, 0, 0]) al) H) (blockL 2 (k59_1 H0)))
theorem k59_2_tame (H0 : Hp) : Tame 83 (k59_2 H0) := tame_seq (C := cfg) (kp := cfg.keep 59) (sub (bodyOf Tryz.f59) [1, 1, 0, 1, 0, 0, 1, 1]) (tame_loop (C := cfg) (kp := cfg.keep 59) (sub (bodyOf Tryz.f59) [1, 1, 0, 1, 0, 0]) (tame_block 2 (k59_1_tame H0)))
def j59_7 (H0 : Hp) (x0 x1 x7 x11 : AV) (H : Hp) : Res := CXf 59 83 (sub (bodyOf Tryz.f59) [1, 1, 0, 1, 0, 0, 1, 0, 0, 1, 1, 1, 1]) (blockL 3 (k59_2 H0)) [(0, x0), (1, x1), (7, x7), (11, x11)] H
def j59_6 (H0 : Hp) (x0 x1 x6 x7 x11 : AV) (H : Hp) : Res := CXf 59 83 (sub (bodyOf Tryz.f59) [1, 1, 0, 1, 0, 0, 1, 0, 0, 1, 1, 1]) (blockL 3 (k59_2 H0)) [(0, x0), (1, x1), (6, x6), (7, x7), (11, x11)] H
def k59_3 (H0 : Hp) : KL := seqL (fun k al H => CXf 59 83 (sub (bodyOf Tryz.f59) [1, 1, 0, 1, 0, 0, 1, 0, 0, 1, 1, 1]) k (trimL (cfg.keep 59) (sub (bodyOf Tryz.f59) [1, 1, 0, 1, 0, 0, 1, 0, 0, 1, 1, 1]) al) H) (blockL 3 (k59_2 H0))
theorem k59_3_tame (H0 : Hp) : Tame 83 (k59_3 H0) := tame_seq (C := cfg) (kp := cfg.keep 59) (sub (bodyOf Tryz.f59) [1, 1, 0, 1, 0, 0, 1, 0, 0, 1, 1, 1]) (tame_block 3 (k59_2_tame H0))
def j59_8 (H0 : Hp) (x0 x1 x6 x7 x11 : AV) (H : Hp) : Res := CXf 59 83 (sub (bodyOf Tryz.f59) [1, 1, 0, 1, 0, 0, 1, 0, 0, 1, 1, 0, 0, 0, 1]) (seqL (fun k al H => LPf 59 83 (sub (bodyOf Tryz.f59) [1, 1, 0, 1, 0, 0, 1, 0, 0, 1, 1, 0, 0, 0]) k (trimL (cfg.keep 59) (sub (bodyOf Tryz.f59) [1, 1, 0, 1, 0, 0, 1, 0, 0, 1, 1, 0, 0, 0]) al) H) (blockL 6 (k59_3 H0))) [(0, x0), (1, x1), (6, x6), (7, x7), (11, x11)] H
def j59_l2 (H0 : Hp) (x0 x1 x6 x7 x11 : AV) (H : Hp) : Res := LPf 59 83 (sub (bodyOf Tryz.f59) [1, 1, 0, 1, 0, 0, 1, 0, 0, 1, 1, 0, 0, 0]) (blockL 6 (k59_3 H0)) [(0, x0), (1, x1), (6, x6), (7, x7), (11, x11)] H
def j59_5 (H0 : Hp) (x0 x1 x6 x7 x11 : AV) (H : Hp) : Res := CXf 59 83 (sub (bodyOf Tryz.f59) [1, 1, 0, 1, 0, 0, 1, 0, 0, 1, 1]) (blockL 3 (k59_2 H0)) [(0, x0), (1, x1), (6, x6), (7, x7), (11, x11)] H
def k59_4 (H0 : Hp) : KL := seqL (fun k al H => CXf 59 83 (sub (bodyOf Tryz.f59) [1, 1, 0, 1, 0, 0, 1, 0, 0, 1, 1]) k (trimL (cfg.keep 59) (sub (bodyOf Tryz.f59) [1, 1, 0, 1, 0, 0, 1, 0, 0, 1, 1]) al) H) (blockL 3 (k59_2 H0))
theorem k59_4_tame (H0 : Hp) : Tame 83 (k59_4 H0) := tame_seq (C := cfg) (kp := cfg.keep 59) (sub (bodyOf Tryz.f59) [1, 1, 0, 1, 0, 0, 1, 0, 0, 1, 1]) (tame_block 3 (k59_2_tame H0))
def j59_9 (H0 : Hp) (x0 x1 x6 x7 x11 : AV) (H : Hp) : Res := CXf 59 83 (sub (bodyOf Tryz.f59) [1, 1, 0, 1, 0, 0, 1, 0, 0, 1, 0, 0, 0, 1]) (seqL (fun k al H => LPf 59 83 (sub (bodyOf Tryz.f59) [1, 1, 0, 1, 0, 0, 1, 0, 0, 1, 0, 0, 0]) k (trimL (cfg.keep 59) (sub (bodyOf Tryz.f59) [1, 1, 0, 1, 0, 0, 1, 0, 0, 1, 0, 0, 0]) al) H) (blockL 4 (k59_4 H0))) [(0, x0), (1, x1), (6, x6), (7, x7), (11, x11)] H
def j59_l3 (H0 : Hp) (x0 x1 x6 x7 x11 : AV) (H : Hp) : Res := LPf 59 83 (sub (bodyOf Tryz.f59) [1, 1, 0, 1, 0, 0, 1, 0, 0, 1, 0, 0, 0]) (blockL 4 (k59_4 H0)) [(0, x0), (1, x1), (6, x6), (7, x7), (11, x11)] H
def j59_3 (H0 : Hp) (x0 x1 x6 x11 : AV) (H : Hp) : Res := CXf 59 83 (sub (bodyOf Tryz.f59) [1, 1, 0, 1, 0, 0, 1]) (seqL (fun k al H => LPf 59 83 (sub (bodyOf Tryz.f59) [1, 1, 0, 1, 0, 0]) k (trimL (cfg.keep 59) (sub (bodyOf Tryz.f59) [1, 1, 0, 1, 0, 0]) al) H) (blockL 2 (k59_1 H0))) [(0, x0), (1, x1), (6, x6), (11, x11)] H
def j59_l1 (H0 : Hp) (x0 x1 x6 x11 : AV) (H : Hp) : Res := LPf 59 83 (sub (bodyOf Tryz.f59) [1, 1, 0, 1, 0, 0]) (blockL 2 (k59_1 H0)) [(0, x0), (1, x1), (6, x6), (11, x11)] H
def j59_1 (H0 : Hp) (x0 x1 x6 : AV) (H : Hp) : Res := CXf 59 83 (sub (bodyOf Tryz.f59) [1, 1]) (retL cfg 83 59 Tryz.f59 H0) [(0, x0), (1, x1), (6, x6)] H
def k59_5 (H0 : Hp) : KL := seqL (fun k al H => CXf 59 83 (sub (bodyOf Tryz.f59) [1, 1]) k (trimL (cfg.keep 59) (sub (bodyOf Tryz.f59) [1, 1]) al) H) (retL cfg 83 59 Tryz.f59 H0)
theorem k59_5_tame (H0 : Hp) : Tame 83 (k59_5 H0) := tame_seq (C := cfg) (kp := cfg.keep 59) (sub (bodyOf Tryz.f59) [1, 1]) (tame_ret 59 Tryz.f59 H0)
def j59_10 (H0 : Hp) (x0 x1 x2 x6 x9 : AV) (H : Hp) : Res := CXf 59 83 (sub (bodyOf Tryz.f59) [1, 0, 1, 0, 1, 0, 0, 1]) (seqL (fun k al H => LPf 59 83 (sub (bodyOf Tryz.f59) [1, 0, 1, 0, 1, 0, 0]) k (trimL (cfg.keep 59) (sub (bodyOf Tryz.f59) [1, 0, 1, 0, 1, 0, 0]) al) H) (blockL 0 (k59_5 H0))) [(0, x0), (1, x1), (2, x2), (6, x6), (9, x9)] H
def k59_6 (H0 : Hp) : KL := seqL (fun k al H => CXf 59 83 (sub (bodyOf Tryz.f59) [1, 0, 1, 0, 1, 0, 0, 1]) k (trimL (cfg.keep 59) (sub (bodyOf Tryz.f59) [1, 0, 1, 0, 1, 0, 0, 1]) al) H) (seqL (fun k al H => LPf 59 83 (sub (bodyOf Tryz.f59) [1, 0, 1, 0, 1, 0, 0]) k (trimL (cfg.keep 59) (sub (bodyOf Tryz.f59) [1, 0, 1, 0, 1, 0, 0]) al) H) (blockL 0 (k59_5 H0)))
def j59_12 (H0 : Hp) (x0 x1 x2 x6 x9 x10 : AV) (H : Hp) : Res := CXf 59 83 (sub (bodyOf Tryz.f59) [1, 0, 1, 0, 1, 0, 0, 0, 0, 1, 1, 1]) (blockL 1 (k59_6 H0)) [(0, x0), (1, x1), (2, x2), (6, x6), (9, x9), (10, x10)] H
def j59_11 (H0 : Hp) (x0 x1 x2 x6 x9 x10 : AV) (H : Hp) : Res := CXf 59 83 (sub (bodyOf Tryz.f59) [1, 0, 1, 0, 1, 0, 0, 0, 0, 1, 1]) (blockL 1 (k59_6 H0)) [(0, x0), (1, x1), (2, x2), (6, x6), (9, x9), (10, x10)] H
def j59_l4 (H0 : Hp) (x0 x1 x2 x6 x9 : AV) (H : Hp) : Res := LPf 59 83 (sub (bodyOf Tryz.f59) [1, 0, 1, 0, 1, 0, 0]) (blockL 0 (k59_5 H0)) [(0, x0), (1, x1), (2, x2), (6, x6), (9, x9)] H
def b59_2 (H : Hp) : Res :=
  some ((.tuple [(.int .i64 0), (.int .i64 0), (.bool false)]), H)
theorem e59_2 (H0 : Hp) (H : Hp) : j59_2 H0 H = b59_2 H := (CXM_eq [3, 7, 9, 10, 12, 13, 15, 16, 17, 18, 20, 21] _ _ _ _).trans (by kernel_rfl)
theorem m59_2 : L0 (b59_2) (b59_2) := fun _ =>
  le_refl _
def b59_4 (j59_l1 : A4) (x0 x1 x6 x11 : AV) (H : Hp) : Res :=
  bnd (ibin .add x11 (.int .i64 1)) fun t50 =>
  j59_l1 x0 x1 x6 t50 H
theorem e59_4 (H0 : Hp) (x0 x1 x6 x11 : AV) (H : Hp) : j59_4 H0 x0 x1 x6 x11 H = b59_4 (j59_l1 H0) x0 x1 x6 x11 H := (CXM_eq [3, 7, 9, 10, 12, 13, 15, 16, 17, 18, 20, 21] _ _ _ _).trans (by kernel_rfl)
theorem m59_4 {j59_l1 dj59_l1 : A4} (hj59_l1 : L4 j59_l1 dj59_l1) : L4 (b59_4 j59_l1) (b59_4 dj59_l1) := fun _ _ _ _ _ =>
  bR fun _ => hj59_l1 _ _ _ _ _
def b59_7 (j59_4 : A4) (x0 x1 x7 x11 : AV) (H : Hp) : Res :=
  j59_4 x0 x1 x7 x11 H
theorem e59_7 (H0 : Hp) (x0 x1 x7 x11 : AV) (H : Hp) : j59_7 H0 x0 x1 x7 x11 H = b59_7 (j59_4 H0) x0 x1 x7 x11 H := (CXM_eq [3, 7, 9, 10, 12, 13, 15, 16, 17, 18, 20, 21] _ _ _ _).trans (by kernel_rfl)
theorem m59_7 {j59_4 dj59_4 : A4} (hj59_4 : L4 j59_4 dj59_4) : L4 (b59_7 j59_4) (b59_7 dj59_4) := fun _ _ _ _ _ =>
  hj59_4 _ _ _ _ _
def b59_6 (j59_7 : A4) (x0 x1 x6 x7 x11 : AV) (H : Hp) : Res :=
  bnd (ibin .eql x11 x1) fun t79 =>
  cnd t79
    (some ((.tuple [x6, x7, (.bool true)]), H))
    (j59_7 x0 x1 x7 x11 H)
theorem e59_6 (H0 : Hp) (x0 x1 x6 x7 x11 : AV) (H : Hp) : j59_6 H0 x0 x1 x6 x7 x11 H = b59_6 (j59_7 H0) x0 x1 x6 x7 x11 H := (CXM_eq [3, 7, 9, 10, 12, 13, 15, 16, 17, 18, 20, 21] _ _ _ _).trans (by kernel_rfl)
theorem m59_6 {j59_7 dj59_7 : A4} (hj59_7 : L4 j59_7 dj59_7) : L5 (b59_6 j59_7) (b59_6 dj59_7) := fun _ _ _ _ _ _ =>
  bR fun _ => bK (le_refl _) (hj59_7 _ _ _ _ _)
def b59_8 (j59_l2 : A5) (x0 x1 x6 x7 x11 : AV) (H : Hp) : Res :=
  bnd (ibin .add x7 (.int .i64 1)) fun t76 =>
  j59_l2 x0 x1 x6 t76 x11 H
theorem e59_8 (H0 : Hp) (x0 x1 x6 x7 x11 : AV) (H : Hp) : j59_8 H0 x0 x1 x6 x7 x11 H = b59_8 (j59_l2 H0) x0 x1 x6 x7 x11 H := (CXM_eq [3, 7, 9, 10, 12, 13, 15, 16, 17, 18, 20, 21] _ _ _ _).trans (by kernel_rfl)
theorem m59_8 {j59_l2 dj59_l2 : A5} (hj59_l2 : L5 j59_l2 dj59_l2) : L5 (b59_8 j59_l2) (b59_8 dj59_l2) := fun _ _ _ _ _ _ =>
  bR fun _ => hj59_l2 _ _ _ _ _ _
def b59_l2 (c81 : A1) (j59_6 : A5) (j59_8 : A5) (x0 x1 x6 x7 x11 : AV) (H : Hp) : Res :=
  bnd (alenD .string x0) fun t66 =>
  bnd (ibin .lss x7 t66) fun t67 =>
  bnd (gdv t67 true (.tuple []) (some x0)) fun t69 =>
  bnd (gdv t67 true (.tuple []) (some x7)) fun t70 =>
  bnd (gdv t67 true (.tuple []) (aindexStr t69 t70)) fun t71 =>
  bnd (gdv t67 true ((.tuple []), H) (c81 t71 H)) fun r72 =>
  bnd (gdv t67 true (.tuple []) (aun .not r72.1)) fun t73 =>
  bnd (apick t67 t73 (.bool false)) fun t74 =>
  cnd t74
    (j59_8 x0 x1 x6 x7 x11 r72.2)
    (j59_6 x0 x1 x6 x7 x11 r72.2)
theorem e59_l2 (H0 : Hp) (x0 x1 x6 x7 x11 : AV) (H : Hp) : j59_l2 H0 x0 x1 x6 x7 x11 H = b59_l2 c81 (j59_6 H0) (j59_8 H0) x0 x1 x6 x7 x11 H := (LPL_eqm (C := cfg) [3, 7, 9, 10, 12, 13, 15, 16, 17, 18, 20, 21] (tame_block 6 (k59_3_tame H0)) _ _).trans (by kernel_rfl)
theorem m59_l2 {c81 dc81 : A1} (hc81 : L1 c81 dc81) {j59_6 dj59_6 : A5} (hj59_6 : L5 j59_6 dj59_6) {j59_8 dj59_8 : A5} (hj59_8 : L5 j59_8 dj59_8) : L5 (b59_l2 c81 j59_6 j59_8) (b59_l2 dc81 dj59_6 dj59_8) := fun _ _ _ _ _ _ =>
  bR fun _ => bR fun _ => bR fun _ => bR fun _ => bR fun _ => bG (hc81 _ _) fun _ => bR fun _ => bR fun _ => bK (hj59_8 _ _ _ _ _ _) (hj59_6 _ _ _ _ _ _)
def b59_5 (j59_l2 : A5) (x0 x1 x6 x7 x11 : AV) (H : Hp) : Res :=
  j59_l2 x0 x1 x6 x7 x11 H
theorem e59_5 (H0 : Hp) (x0 x1 x6 x7 x11 : AV) (H : Hp) : j59_5 H0 x0 x1 x6 x7 x11 H = b59_5 (j59_l2 H0) x0 x1 x6 x7 x11 H := (CXM_eq [3, 7, 9, 10, 12, 13, 15, 16, 17, 18, 20, 21] _ _ _ _).trans (by kernel_rfl)
theorem m59_5 {j59_l2 dj59_l2 : A5} (hj59_l2 : L5 j59_l2 dj59_l2) : L5 (b59_5 j59_l2) (b59_5 dj59_l2) := fun _ _ _ _ _ _ =>
  hj59_l2 _ _ _ _ _ _
def b59_9 (j59_l3 : A5) (x0 x1 x6 x7 x11 : AV) (H : Hp) : Res :=
  bnd (ibin .add x7 (.int .i64 1)) fun t63 =>
  j59_l3 x0 x1 x6 t63 x11 H
theorem e59_9 (H0 : Hp) (x0 x1 x6 x7 x11 : AV) (H : Hp) : j59_9 H0 x0 x1 x6 x7 x11 H = b59_9 (j59_l3 H0) x0 x1 x6 x7 x11 H := (CXM_eq [3, 7, 9, 10, 12, 13, 15, 16, 17, 18, 20, 21] _ _ _ _).trans (by kernel_rfl)
theorem m59_9 {j59_l3 dj59_l3 : A5} (hj59_l3 : L5 j59_l3 dj59_l3) : L5 (b59_9 j59_l3) (b59_9 dj59_l3) := fun _ _ _ _ _ _ =>
  bR fun _ => hj59_l3 _ _ _ _ _ _
def b59_l3 (c81 : A1) (j59_5 : A5) (j59_9 : A5) (x0 x1 x6 x7 x11 : AV) (H : Hp) : Res :=
  bnd (alenD .string x0) fun t54 =>
  bnd (ibin .lss x7 t54) fun t55 =>
  bnd (gdv t55 true (.tuple []) (some x0)) fun t57 =>
  bnd (gdv t55 true (.tuple []) (some x7)) fun t58 =>
  bnd (gdv t55 true (.tuple []) (aindexStr t57 t58)) fun t59 =>
  bnd (gdv t55 true ((.tuple []), H) (c81 t59 H)) fun r60 =>
  bnd (apick t55 r60.1 (.bool false)) fun t61 =>
  cnd t61
    (j59_9 x0 x1 x6 x7 x11 r60.2)
    (j59_5 x0 x1 x6 x7 x11 r60.2)
theorem e59_l3 (H0 : Hp) (x0 x1 x6 x7 x11 : AV) (H : Hp) : j59_l3 H0 x0 x1 x6 x7 x11 H = b59_l3 c81 (j59_5 H0) (j59_9 H0) x0 x1 x6 x7 x11 H := (LPL_eqm (C := cfg) [3, 7, 9, 10, 12, 13, 15, 16, 17, 18, 20, 21] (tame_block 4 (k59_4_tame H0)) _ _).trans (by kernel_rfl)
theorem m59_l3 {c81 dc81 : A1} (hc81 : L1 c81 dc81) {j59_5 dj59_5 : A5} (hj59_5 : L5 j59_5 dj59_5) {j59_9 dj59_9 : A5} (hj59_9 : L5 j59_9 dj59_9) : L5 (b59_l3 c81 j59_5 j59_9) (b59_l3 dc81 dj59_5 dj59_9) := fun _ _ _ _ _ _ =>
  bR fun _ => bR fun _ => bR fun _ => bR fun _ => bR fun _ => bG (hc81 _ _) fun _ => bR fun _ => bK (hj59_9 _ _ _ _ _ _) (hj59_5 _ _ _ _ _ _)
def b59_3 (j59_l3 : A5) (x0 x1 x6 x11 : AV) (H : Hp) : Res :=
  j59_l3 x0 x1 x6 x6 x11 H
theorem e59_3 (H0 : Hp) (x0 x1 x6 x11 : AV) (H : Hp) : j59_3 H0 x0 x1 x6 x11 H = b59_3 (j59_l3 H0) x0 x1 x6 x11 H := (CXM_eq [3, 7, 9, 10, 12, 13, 15, 16, 17, 18, 20, 21] _ _ _ _).trans (by kernel_rfl)
theorem m59_3 {j59_l3 dj59_l3 : A5} (hj59_l3 : L5 j59_l3 dj59_l3) : L4 (b59_3 j59_l3) (b59_3 dj59_l3) := fun _ _ _ _ _ =>
  hj59_l3 _ _ _ _ _ _
def b59_l1 (j59_2 : A0) (j59_3 : A4) (x0 x1 x6 x11 : AV) (H : Hp) : Res :=
  bnd (alenD .string x0) fun t47 =>
  bnd (ibin .lss x6 t47) fun t48 =>
  cnd t48
    (j59_3 x0 x1 x6 x11 H)
    (j59_2 H)
theorem e59_l1 (H0 : Hp) (x0 x1 x6 x11 : AV) (H : Hp) : j59_l1 H0 x0 x1 x6 x11 H = b59_l1 (j59_2 H0) (j59_3 H0) x0 x1 x6 x11 H := (LPL_eqm (C := cfg) [3, 7, 9, 10, 12, 13, 15, 16, 17, 18, 20, 21] (tame_block 2 (k59_1_tame H0)) _ _).trans (by kernel_rfl)
theorem m59_l1 {j59_2 dj59_2 : A0} (hj59_2 : L0 j59_2 dj59_2) {j59_3 dj59_3 : A4} (hj59_3 : L4 j59_3 dj59_3) : L4 (b59_l1 j59_2 j59_3) (b59_l1 dj59_2 dj59_3) := fun _ _ _ _ _ =>
  bR fun _ => bR fun _ => bK (hj59_3 _ _ _ _ _) (hj59_2 _)
def b59_1 (j59_l1 : A4) (x0 x1 x6 : AV) (H : Hp) : Res :=
  j59_l1 x0 x1 x6 (.int .i64 1) H
theorem e59_1 (H0 : Hp) (x0 x1 x6 : AV) (H : Hp) : j59_1 H0 x0 x1 x6 H = b59_1 (j59_l1 H0) x0 x1 x6 H := (CXM_eq [3, 7, 9, 10, 12, 13, 15, 16, 17, 18, 20, 21] _ _ _ _).trans (by kernel_rfl)
theorem m59_1 {j59_l1 dj59_l1 : A4} (hj59_l1 : L4 j59_l1 dj59_l1) : L3 (b59_1 j59_l1) (b59_1 dj59_l1) := fun _ _ _ _ =>
  hj59_l1 _ _ _ _ _
def b59_10 (j59_l4 : A5) (x0 x1 x2 x6 x9 : AV) (H : Hp) : Res :=
  bnd (ibin .add x9 (.int .i64 1)) fun t19 =>
  j59_l4 x0 x1 x2 x6 t19 H
theorem e59_10 (H0 : Hp) (x0 x1 x2 x6 x9 : AV) (H : Hp) : j59_10 H0 x0 x1 x2 x6 x9 H = b59_10 (j59_l4 H0) x0 x1 x2 x6 x9 H := (CXM_eq [3, 7, 9, 10, 12, 13, 15, 16, 17, 18, 20, 21] _ _ _ _).trans (by kernel_rfl)
theorem m59_10 {j59_l4 dj59_l4 : A5} (hj59_l4 : L5 j59_l4 dj59_l4) : L5 (b59_10 j59_l4) (b59_10 dj59_l4) := fun _ _ _ _ _ _ =>
  bR fun _ => hj59_l4 _ _ _ _ _ _
def b59_12 (j59_10 : A5) (x0 x1 x2 x6 x9 x10 : AV) (H : Hp) : Res :=
  bnd (ibin .add x10 (.int .i64 1)) fun t43 =>
  bnd (ibin .add x6 t43) fun t44 =>
  j59_10 x0 x1 x2 t44 x9 H
theorem e59_12 (H0 : Hp) (x0 x1 x2 x6 x9 x10 : AV) (H : Hp) : j59_12 H0 x0 x1 x2 x6 x9 x10 H = b59_12 (j59_10 H0) x0 x1 x2 x6 x9 x10 H := (CXM_eq [3, 7, 9, 10, 12, 13, 15, 16, 17, 18, 20, 21] _ _ _ _).trans (by kernel_rfl)
theorem m59_12 {j59_10 dj59_10 : A5} (hj59_10 : L5 j59_10 dj59_10) : L6 (b59_12 j59_10) (b59_12 dj59_10) := fun _ _ _ _ _ _ _ =>
  bR fun _ => bR fun _ => hj59_10 _ _ _ _ _ _
def b59_11 (j59_12 : A6) (x0 x1 x2 x6 x9 x10 : AV) (H : Hp) : Res :=
  bnd (ibin .eql x9 x1) fun t36 =>
  cnd t36
    (bnd (ibin .add x6 x10) fun t40 =>
    some ((.tuple [x6, t40, (.bool true)]), H))
    (j59_12 x0 x1 x2 x6 x9 x10 H)
theorem e59_11 (H0 : Hp) (x0 x1 x2 x6 x9 x10 : AV) (H : Hp) : j59_11 H0 x0 x1 x2 x6 x9 x10 H = b59_11 (j59_12 H0) x0 x1 x2 x6 x9 x10 H := (CXM_eq [3, 7, 9, 10, 12, 13, 15, 16, 17, 18, 20, 21] _ _ _ _).trans (by kernel_rfl)
theorem m59_11 {j59_12 dj59_12 : A6} (hj59_12 : L6 j59_12 dj59_12) : L6 (b59_11 j59_12) (b59_11 dj59_12) := fun _ _ _ _ _ _ _ =>
  bR fun _ => bK (bR fun _ => le_refl _) (hj59_12 _ _ _ _ _ _ _)
def b59_l4 (c85 : A2) (j59_11 : A6) (x0 x1 x2 x6 x9 : AV) (H : Hp) : Res :=
  bnd (asliceS x0 (some x6) none none) fun t22 =>
  bnd (cvInt .u8 x2) fun t24 =>
  bnd (c85 t22 t24 H) fun r25 =>
  bnd (ibin .lss r25.1 (.int .i64 0)) fun t27 =>
  cnd t27
    (bnd (alenD .string x0) fun t30 =>
    bnd (ibin .eql x9 x1) fun t33 =>
    some ((.tuple [x6, t30, t33]), r25.2))
    (j59_11 x0 x1 x2 x6 x9 r25.1 r25.2)
theorem e59_l4 (H0 : Hp) (x0 x1 x2 x6 x9 : AV) (H : Hp) : j59_l4 H0 x0 x1 x2 x6 x9 H = b59_l4 c85 (j59_11 H0) x0 x1 x2 x6 x9 H := (LPL_eqm (C := cfg) [3, 7, 9, 10, 12, 13, 15, 16, 17, 18, 20, 21] (tame_block 0 (k59_5_tame H0)) _ _).trans (by kernel_rfl)
theorem m59_l4 {c85 dc85 : A2} (hc85 : L2 c85 dc85) {j59_11 dj59_11 : A6} (hj59_11 : L6 j59_11 dj59_11) : L5 (b59_l4 c85 j59_11) (b59_l4 dc85 dj59_11) := fun _ _ _ _ _ _ =>
  bR fun _ => bR fun _ => bC (hc85 _ _ _) fun _ => bR fun _ => bK (bR fun _ => bR fun _ => le_refl _) (hj59_11 _ _ _ _ _ _ _)
def rj59_2 : A0 := b59_2
theorem sj59_2 (H0 : Hp) : L0 (rj59_2) (j59_2 H0) := fun _ => le_eq (m59_2 _) (e59_2 H0 _)
def rj59_4 (j59_l1 : A4) : A4 := b59_4 j59_l1
theorem sj59_4 (H0 : Hp) {yj59_l1 : A4} (hj59_l1 : L4 yj59_l1 (j59_l1 H0)) : L4 (rj59_4 yj59_l1) (j59_4 H0) := fun _ _ _ _ _ => le_eq (m59_4 hj59_l1 _ _ _ _ _) (e59_4 H0 _ _ _ _ _)
def rj59_7 (j59_l1 : A4) : A4 := b59_7 (rj59_4 j59_l1)
theorem sj59_7 (H0 : Hp) {yj59_l1 : A4} (hj59_l1 : L4 yj59_l1 (j59_l1 H0)) : L4 (rj59_7 yj59_l1) (j59_7 H0) := fun _ _ _ _ _ => le_eq (m59_7 (sj59_4 H0 hj59_l1) _ _ _ _ _) (e59_7 H0 _ _ _ _ _)
def rj59_6 (j59_l1 : A4) : A5 := b59_6 (rj59_7 j59_l1)
theorem sj59_6 (H0 : Hp) {yj59_l1 : A4} (hj59_l1 : L4 yj59_l1 (j59_l1 H0)) : L5 (rj59_6 yj59_l1) (j59_6 H0) := fun _ _ _ _ _ _ => le_eq (m59_6 (sj59_7 H0 hj59_l1) _ _ _ _ _ _) (e59_6 H0 _ _ _ _ _ _)
def rj59_8 (j59_l2 : A5) : A5 := b59_8 j59_l2
theorem sj59_8 (H0 : Hp) {yj59_l2 : A5} (hj59_l2 : L5 yj59_l2 (j59_l2 H0)) : L5 (rj59_8 yj59_l2) (j59_8 H0) := fun _ _ _ _ _ _ => le_eq (m59_8 hj59_l2 _ _ _ _ _ _) (e59_8 H0 _ _ _ _ _ _)
def rj59_l2 (j59_l1 : A4) (n : Nat) : A5 := @Nat.rec (fun _ => A5) (fun _ _ _ _ _ _ => none) (fun _ j59_l2 => b59_l2 rc81 (rj59_6 j59_l1) (rj59_8 j59_l2)) n
theorem sj59_l2 (H0 : Hp) {yj59_l1 : A4} (hj59_l1 : L4 yj59_l1 (j59_l1 H0)) (n : Nat) : L5 (rj59_l2 yj59_l1 n) (j59_l2 H0) := by
  induction n with
  | zero => exact fun _ _ _ _ _ _ => le_none _
  | succ n hj59_l2 => exact fun _ _ _ _ _ _ => le_eq (m59_l2 sc81 (sj59_6 H0 hj59_l1) (sj59_8 H0 hj59_l2) _ _ _ _ _ _) (e59_l2 H0 _ _ _ _ _ _)
def rj59_5 (j59_l1 : A4) : A5 := b59_5 (rj59_l2 j59_l1 100000)
theorem sj59_5 (H0 : Hp) {yj59_l1 : A4} (hj59_l1 : L4 yj59_l1 (j59_l1 H0)) : L5 (rj59_5 yj59_l1) (j59_5 H0) := fun _ _ _ _ _ _ => le_eq (m59_5 (sj59_l2 H0 hj59_l1 100000) _ _ _ _ _ _) (e59_5 H0 _ _ _ _ _ _)
def rj59_9 (j59_l3 : A5) : A5 := b59_9 j59_l3
theorem sj59_9 (H0 : Hp) {yj59_l3 : A5} (hj59_l3 : L5 yj59_l3 (j59_l3 H0)) : L5 (rj59_9 yj59_l3) (j59_9 H0) := fun _ _ _ _ _ _ => le_eq (m59_9 hj59_l3 _ _ _ _ _ _) (e59_9 H0 _ _ _ _ _ _)
def rj59_l3 (j59_l1 : A4) (n : Nat) : A5 := @Nat.rec (fun _ => A5) (fun _ _ _ _ _ _ => none) (fun _ j59_l3 => b59_l3 rc81 (rj59_5 j59_l1) (rj59_9 j59_l3)) n
theorem sj59_l3 (H0 : Hp) {yj59_l1 : A4} (hj59_l1 : L4 yj59_l1 (j59_l1 H0)) (n : Nat) : L5 (rj59_l3 yj59_l1 n) (j59_l3 H0) := by
  induction n with
  | zero => exact fun _ _ _ _ _ _ => le_none _
  | succ n hj59_l3 => exact fun _ _ _ _ _ _ => le_eq (m59_l3 sc81 (sj59_5 H0 hj59_l1) (sj59_9 H0 hj59_l3) _ _ _ _ _ _) (e59_l3 H0 _ _ _ _ _ _)
def rj59_3 (j59_l1 : A4) : A4 := b59_3 (rj59_l3 j59_l1 100000)
theorem sj59_3 (H0 : Hp) {yj59_l1 : A4} (hj59_l1 : L4 yj59_l1 (j59_l1 H0)) : L4 (rj59_3 yj59_l1) (j59_3 H0) := fun _ _ _ _ _ => le_eq (m59_3 (sj59_l3 H0 hj59_l1 100000) _ _ _ _ _) (e59_3 H0 _ _ _ _ _)
def rj59_l1 (n : Nat) : A4 := @Nat.rec (fun _ => A4) (fun _ _ _ _ _ => none) (fun _ j59_l1 => b59_l1 (rj59_2) (rj59_3 j59_l1)) n
theorem sj59_l1 (H0 : Hp) (n : Nat) : L4 (rj59_l1 n) (j59_l1 H0) := by
  induction n with
  | zero => exact fun _ _ _ _ _ => le_none _
  | succ n hj59_l1 => exact fun _ _ _ _ _ => le_eq (m59_l1 (sj59_2 H0) (sj59_3 H0 hj59_l1) _ _ _ _ _) (e59_l1 H0 _ _ _ _ _)
def rj59_1 : A3 := b59_1 (rj59_l1 100000)
theorem sj59_1 (H0 : Hp) : L3 (rj59_1) (j59_1 H0) := fun _ _ _ _ => le_eq (m59_1 (sj59_l1 H0 100000) _ _ _ _) (e59_1 H0 _ _ _ _)
def rj59_10 (j59_l4 : A5) : A5 := b59_10 j59_l4
theorem sj59_10 (H0 : Hp) {yj59_l4 : A5} (hj59_l4 : L5 yj59_l4 (j59_l4 H0)) : L5 (rj59_10 yj59_l4) (j59_10 H0) := fun _ _ _ _ _ _ => le_eq (m59_10 hj59_l4 _ _ _ _ _ _) (e59_10 H0 _ _ _ _ _ _)
def rj59_12 (j59_l4 : A5) : A6 := b59_12 (rj59_10 j59_l4)
theorem sj59_12 (H0 : Hp) {yj59_l4 : A5} (hj59_l4 : L5 yj59_l4 (j59_l4 H0)) : L6 (rj59_12 yj59_l4) (j59_12 H0) := fun _ _ _ _ _ _ _ => le_eq (m59_12 (sj59_10 H0 hj59_l4) _ _ _ _ _ _ _) (e59_12 H0 _ _ _ _ _ _ _)
def rj59_11 (j59_l4 : A5) : A6 := b59_11 (rj59_12 j59_l4)
theorem sj59_11 (H0 : Hp) {yj59_l4 : A5} (hj59_l4 : L5 yj59_l4 (j59_l4 H0)) : L6 (rj59_11 yj59_l4) (j59_11 H0) := fun _ _ _ _ _ _ _ => le_eq (m59_11 (sj59_12 H0 hj59_l4) _ _ _ _ _ _ _) (e59_11 H0 _ _ _ _ _ _ _)
def rj59_l4 (n : Nat) : A5 := @Nat.rec (fun _ => A5) (fun _ _ _ _ _ _ => none) (fun _ j59_l4 => b59_l4 rc85 (rj59_11 j59_l4)) n
theorem sj59_l4 (H0 : Hp) (n : Nat) : L5 (rj59_l4 n) (j59_l4 H0) := by
  induction n with
  | zero => exact fun _ _ _ _ _ _ => le_none _
  | succ n hj59_l4 => exact fun _ _ _ _ _ _ => le_eq (m59_l4 sc85 (sj59_11 H0 hj59_l4) _ _ _ _ _ _) (e59_l4 H0 _ _ _ _ _ _)
def bc59 (j59_1 : A3) (j59_l4 : A5) (p0 p1 p2 : AV) (H : Hp) : Res :=
  bnd (ibin .geq p2 (.int .i64 0)) fun t13 =>
  bnd (gdv t13 true (.tuple []) (some p2)) fun t15 =>
  bnd (gdv t13 true (.tuple []) (ibin .leq t15 (.int .i64 255))) fun t16 =>
  bnd (apick t13 t16 (.bool false)) fun t17 =>
  cnd t17
    (j59_l4 p0 p1 p2 (.int .i64 0) (.int .i64 1) H)
    (j59_1 p0 p1 (.int .i64 0) H)
theorem ec59 (p0 p1 p2 : AV) (H : Hp) : c59 p0 p1 p2 H = bc59 (j59_1 H) (j59_l4 H) p0 p1 p2 H := (callw_cxm (C := cfg) (fn := Tryz.f59) (c := bodyOf Tryz.f59) (n := 83) [3, 7, 9, 10, 12, 13, 15, 16, 17, 18, 20, 21] Tryz.func59 (by kernel_rfl) (by kernel_rfl) [p0, p1, p2] (by kernel_rfl) H).trans (by kernel_rfl)
theorem mc59 {j59_1 dj59_1 : A3} (hj59_1 : L3 j59_1 dj59_1) {j59_l4 dj59_l4 : A5} (hj59_l4 : L5 j59_l4 dj59_l4) : L3 (bc59 j59_1 j59_l4) (bc59 dj59_1 dj59_l4) := fun _ _ _ _ =>
  bR fun _ => bR fun _ => bR fun _ => bR fun _ => bK (hj59_l4 _ _ _ _ _ _) (hj59_1 _ _ _ _)
def rc59 : A3 := fun p0 p1 p2 H => bc59 (rj59_1) (rj59_l4 100000) p0 p1 p2 H
theorem sc59 : L3 rc59 c59 := fun _ _ _ H => le_eq (mc59 (sj59_1 H) (sj59_l4 H 100000) _ _ _ _) (ec59 _ _ _ _)

def c41 (p0 p1 p2 : AV) (H : Hp) : Res := callw cfg 41 [p0, p1, p2] H
def j41_3 (H0 : Hp) (x0 x7 x10 : AV) (H : Hp) : Res := CXf 41 70 (sub (bodyOf Tryz.f41) [1, 1, 1, 1, 1, 1, 1]) (retL cfg 70 41 Tryz.f41 H0) [(0, x0), (7, x7), (10, x10)] H
def j41_2 (H0 : Hp) (x0 x7 x10 : AV) (H : Hp) : Res := CXf 41 70 (sub (bodyOf Tryz.f41) [1, 1, 1, 1, 1, 1]) (retL cfg 70 41 Tryz.f41 H0) [(0, x0), (7, x7), (10, x10)] H
def j41_1 (H0 : Hp) (x0 x2 x4 x7 x8 : AV) (H : Hp) : Res := CXf 41 70 (sub (bodyOf Tryz.f41) [1, 1, 1]) (retL cfg 70 41 Tryz.f41 H0) [(0, x0), (2, x2), (4, x4), (7, x7), (8, x8)] H
def b41_3 (x0 x7 x10 : AV) (H : Hp) : Res :=
  bnd (asliceS x0 (some x7) (some x10) none) fun t69 =>
  some (t69, H)
theorem e41_3 (H0 : Hp) (x0 x7 x10 : AV) (H : Hp) : j41_3 H0 x0 x7 x10 H = b41_3 x0 x7 x10 H := (CXM_eq [4, 12, 14] _ _ _ _).trans (by kernel_rfl)
theorem m41_3 : L3 (b41_3) (b41_3) := fun _ _ _ _ =>
  bR fun _ => le_refl _
def b41_2 (j41_3 : A3) (x0 x7 x10 : AV) (H : Hp) : Res :=
  bnd (ibin .lss x10 x7) fun t65 =>
  cnd t65
    (some ((.str []), H))
    (j41_3 x0 x7 x10 H)
theorem e41_2 (H0 : Hp) (x0 x7 x10 : AV) (H : Hp) : j41_2 H0 x0 x7 x10 H = b41_2 (j41_3 H0) x0 x7 x10 H := (CXM_eq [4, 12, 14] _ _ _ _).trans (by kernel_rfl)
theorem m41_2 {j41_3 dj41_3 : A3} (hj41_3 : L3 j41_3 dj41_3) : L3 (b41_2 j41_3) (b41_2 dj41_3) := fun _ _ _ _ =>
  bR fun _ => bK (le_refl _) (hj41_3 _ _ _ _)
def b41_1 (c59 : A3) (j41_2 : A3) (x0 x2 x4 x7 x8 : AV) (H : Hp) : Res :=
  bnd (afield 1 x4) fun t27 =>
  bnd (aload false 1 t27 H) fun t28 =>
  bnd (amax2 t28 (.int .i64 1)) fun t29 =>
  bnd (ibin .sub t29 (.int .i64 1)) fun t30 =>
  bnd (ibin .sub x8 x7) fun t33 =>
  bnd (amin2 t30 t33) fun t34 =>
  bnd (ibin .add x7 t34) fun t35 =>
  bnd (alenD .string x0) fun t37 =>
  bnd (afield 2 x4) fun t38 =>
  bnd (aload false 1 t38 H) fun t39 =>
  bnd (ibin .gtr t39 (.int .i64 0)) fun t40 =>
  cnd t40
    (bnd (afield 2 x4) fun t43 =>
    bnd (aload false 1 t43 H) fun t44 =>
    bnd (c59 x0 t44 x2 H) fun r46 =>
    bnd (aext r46.1 0) fun t47 =>
    bnd (aext r46.1 1) fun t48 =>
    bnd (aext r46.1 2) fun t49 =>
    cnd t49
      (bnd (afield 3 x4) fun t52 =>
      bnd (aload false 1 t52 r46.2) fun t53 =>
      bnd (ibin .gtr t53 (.int .i64 0)) fun t54 =>
      cnd t54
        (bnd (afield 3 x4) fun t56 =>
        bnd (aload false 1 t56 r46.2) fun t57 =>
        bnd (ibin .sub t48 t47) fun t60 =>
        bnd (amin2 t57 t60) fun t61 =>
        bnd (ibin .add t47 t61) fun t62 =>
        j41_2 x0 t35 t62 r46.2)
        (j41_2 x0 t35 t48 r46.2))
      (j41_2 x0 t35 t37 r46.2))
    (j41_2 x0 t35 t37 H)
theorem e41_1 (H0 : Hp) (x0 x2 x4 x7 x8 : AV) (H : Hp) : j41_1 H0 x0 x2 x4 x7 x8 H = b41_1 c59 (j41_2 H0) x0 x2 x4 x7 x8 H := (CXM_eq [4, 12, 14] _ _ _ _).trans (by kernel_rfl)
theorem m41_1 {c59 dc59 : A3} (hc59 : L3 c59 dc59) {j41_2 dj41_2 : A3} (hj41_2 : L3 j41_2 dj41_2) : L5 (b41_1 c59 j41_2) (b41_1 dc59 dj41_2) := fun _ _ _ _ _ _ =>
  bR fun _ => bR fun _ => bR fun _ => bR fun _ => bR fun _ => bR fun _ => bR fun _ => bR fun _ => bR fun _ => bR fun _ => bR fun _ => bK (bR fun _ => bR fun _ => bC (hc59 _ _ _ _) fun _ => bR fun _ => bR fun _ => bR fun _ => bK (bR fun _ => bR fun _ => bR fun _ => bK (bR fun _ => bR fun _ => bR fun _ => bR fun _ => bR fun _ => hj41_2 _ _ _ _) (hj41_2 _ _ _ _)) (hj41_2 _ _ _ _)) (hj41_2 _ _ _ _)
def rj41_3 : A3 := b41_3
theorem sj41_3 (H0 : Hp) : L3 (rj41_3) (j41_3 H0) := fun _ _ _ _ => le_eq (m41_3 _ _ _ _) (e41_3 H0 _ _ _ _)
def rj41_2 : A3 := b41_2 (rj41_3)
theorem sj41_2 (H0 : Hp) : L3 (rj41_2) (j41_2 H0) := fun _ _ _ _ => le_eq (m41_2 (sj41_3 H0) _ _ _ _) (e41_2 H0 _ _ _ _)
def rj41_1 : A5 := b41_1 rc59 (rj41_2)
theorem sj41_1 (H0 : Hp) : L5 (rj41_1) (j41_1 H0) := fun _ _ _ _ _ _ => le_eq (m41_1 sc59 (sj41_2 H0) _ _ _ _ _ _) (e41_1 H0 _ _ _ _ _ _)
def bc41 (c59 : A3) (j41_1 : A5) (p0 p1 p2 : AV) (H : Hp) : Res :=
  bnd (abox p1 H) fun r4 =>
  bnd (afield 0 r4.1) fun t16 =>
  bnd (aload false 1 t16 r4.2) fun t17 =>
  bnd (amax2 t17 (.int .i64 1)) fun t18 =>
  bnd (c59 p0 t18 p2 r4.2) fun r20 =>
  bnd (aext r20.1 0) fun t21 =>
  bnd (aext r20.1 1) fun t22 =>
  bnd (aext r20.1 2) fun t23 =>
  bnd (aun .not t23) fun t25 =>
  cnd t25
    (some ((.str []), r20.2))
    (j41_1 p0 p2 r4.1 t21 t22 r20.2)
theorem ec41 (p0 p1 p2 : AV) (H : Hp) : c41 p0 p1 p2 H = bc41 c59 (j41_1 H) p0 p1 p2 H := (callw_cxm (C := cfg) (fn := Tryz.f41) (c := bodyOf Tryz.f41) (n := 70) [4, 12, 14] Tryz.func41 (by kernel_rfl) (by kernel_rfl) [p0, p1, p2] (by kernel_rfl) H).trans (by kernel_rfl)
theorem mc41 {c59 dc59 : A3} (hc59 : L3 c59 dc59) {j41_1 dj41_1 : A5} (hj41_1 : L5 j41_1 dj41_1) : L3 (bc41 c59 j41_1) (bc41 dc59 dj41_1) := fun _ _ _ _ =>
  bR fun _ => bR fun _ => bR fun _ => bR fun _ => bC (hc59 _ _ _ _) fun _ => bR fun _ => bR fun _ => bR fun _ => bR fun _ => bK (le_refl _) (hj41_1 _ _ _ _ _ _)
def rc41 : A3 := fun p0 p1 p2 H => bc41 rc59 (rj41_1) p0 p1 p2 H
theorem sc41 : L3 rc41 c41 := fun _ _ _ H => le_eq (mc41 sc59 (sj41_1 H) _ _ _ _) (ec41 _ _ _ _)

def c17 (p0 p1 p2 p3 : AV) (H : Hp) : Res := callw cfg 17 [p0, p1, p2, p3] H
def j17_2 (H0 : Hp) (H : Hp) : Res := CXf 17 55 (sub (bodyOf Tryz.f17) [1, 1, 1, 1]) (retL cfg 55 17 Tryz.f17 H0) [] H
def k17_1 (H0 : Hp) : KL := seqL (fun k al H => CXf 17 55 (sub (bodyOf Tryz.f17) [1, 1, 1, 1]) k (trimL (cfg.keep 17) (sub (bodyOf Tryz.f17) [1, 1, 1, 1]) al) H) (retL cfg 55 17 Tryz.f17 H0)
theorem k17_1_tame (H0 : Hp) : Tame 55 (k17_1 H0) := tame_seq (C := cfg) (kp := cfg.keep 17) (sub (bodyOf Tryz.f17) [1, 1, 1, 1]) (tame_ret 17 Tryz.f17 H0)
def j17_4 (H0 : Hp) (x2 x3 x4 x5 x26 x27 x28 : AV) (H : Hp) : Res := CXf 17 55 (sub (bodyOf Tryz.f17) [1, 1, 1, 0, 1, 0, 0, 1, 1, 1]) (seqL (fun k al H => LPf 17 55 (sub (bodyOf Tryz.f17) [1, 1, 1, 0, 1, 0, 0]) k (trimL (cfg.keep 17) (sub (bodyOf Tryz.f17) [1, 1, 1, 0, 1, 0, 0]) al) H) (blockL 0 (k17_1 H0))) [(2, x2), (3, x3), (4, x4), (5, x5), (26, x26), (27, x27), (28, x28)] H
def k17_2 (H0 : Hp) : KL := seqL (fun k al H => CXf 17 55 (sub (bodyOf Tryz.f17) [1, 1, 1, 0, 1, 0, 0, 1, 1, 1]) k (trimL (cfg.keep 17) (sub (bodyOf Tryz.f17) [1, 1, 1, 0, 1, 0, 0, 1, 1, 1]) al) H) (seqL (fun k al H => LPf 17 55 (sub (bodyOf Tryz.f17) [1, 1, 1, 0, 1, 0, 0]) k (trimL (cfg.keep 17) (sub (bodyOf Tryz.f17) [1, 1, 1, 0, 1, 0, 0]) al) H) (blockL 0 (k17_1 H0)))
def j17_5 (H0 : Hp) (x2 x3 x4 x5 x10 x11 x26 x27 x28 : AV) (H : Hp) : Res := CXf 17 55 (sub (bodyOf Tryz.f17) [1, 1, 1, 0, 1, 0, 0, 1, 1, 0, 0, 1, 1, 1]) (blockL 1 (k17_2 H0)) [(2, x2), (3, x3), (4, x4), (5, x5), (10, x10), (11, x11), (26, x26), (27, x27), (28, x28)] H
def j17_3 (H0 : Hp) (x2 x3 x4 x5 x26 x27 x28 x29 : AV) (H : Hp) : Res := CXf 17 55 (sub (bodyOf Tryz.f17) [1, 1, 1, 0, 1, 0, 0, 1, 1]) (seqL (fun k al H => LPf 17 55 (sub (bodyOf Tryz.f17) [1, 1, 1, 0, 1, 0, 0]) k (trimL (cfg.keep 17) (sub (bodyOf Tryz.f17) [1, 1, 1, 0, 1, 0, 0]) al) H) (blockL 0 (k17_1 H0))) [(2, x2), (3, x3), (4, x4), (5, x5), (26, x26), (27, x27), (28, x28), (29, x29)] H
def j17_l1 (H0 : Hp) (x2 x3 x4 x5 x26 x27 x28 : AV) (H : Hp) : Res := LPf 17 55 (sub (bodyOf Tryz.f17) [1, 1, 1, 0, 1, 0, 0]) (blockL 0 (k17_1 H0)) [(2, x2), (3, x3), (4, x4), (5, x5), (26, x26), (27, x27), (28, x28)] H
def j17_1 (H0 : Hp) (x2 x3 x4 x5 : AV) (H : Hp) : Res := CXf 17 55 (sub (bodyOf Tryz.f17) [1, 1, 1]) (retL cfg 55 17 Tryz.f17 H0) [(2, x2), (3, x3), (4, x4), (5, x5)] H
def b17_2 (H : Hp) : Res :=
  some ((.int .i64 0), H)
theorem e17_2 (H0 : Hp) (H : Hp) : j17_2 H0 H = b17_2 H := (CXM_eq [4, 6, 10, 13, 14] _ _ _ _).trans (by kernel_rfl)
theorem m17_2 : L0 (b17_2) (b17_2) := fun _ =>
  le_refl _
def b17_4 (j17_l1 : A7) (x2 x3 x4 x5 x26 x27 x28 : AV) (H : Hp) : Res :=
  bnd (ibin .add x28 (.int .i64 1)) fun t54 =>
  j17_l1 x2 x3 x4 x5 x26 x27 t54 H
theorem e17_4 (H0 : Hp) (x2 x3 x4 x5 x26 x27 x28 : AV) (H : Hp) : j17_4 H0 x2 x3 x4 x5 x26 x27 x28 H = b17_4 (j17_l1 H0) x2 x3 x4 x5 x26 x27 x28 H := (CXM_eq [4, 6, 10, 13, 14] _ _ _ _).trans (by kernel_rfl)
theorem m17_4 {j17_l1 dj17_l1 : A7} (hj17_l1 : L7 j17_l1 dj17_l1) : L7 (b17_4 j17_l1) (b17_4 dj17_l1) := fun _ _ _ _ _ _ _ _ =>
  bR fun _ => hj17_l1 _ _ _ _ _ _ _ _
def b17_5 (c41 : A3) (q40 : A4) (j17_4 : A7) (x2 x3 x4 x5 x10 x11 x26 x27 x28 : AV) (H : Hp) : Res :=
  frzK x4 H fun z4 z4H =>
  frzK x5 z4H fun z5 z5H =>
  frzK x10 z5H fun z10 z10H =>
  bnd (aloadv true 6 z4) fun t38 =>
  bnd (aload true 5 z10 z10H) fun t41 =>
  bnd (afield 1 z5) fun t42 =>
  bnd (aload false 1 t42 z10H) fun t43 =>
  bnd (c41 x2 t41 t43 z10H) fun r44 =>
  bnd (aloadv true 5 z10) fun t46 =>
  bnd (afield 1 z5) fun t47 =>
  bnd (aloadv false 1 t47) fun t48 =>
  bnd (c41 x3 t46 t48 r44.2) fun r49 =>
  bnd (q40 t38 x11 r44.1 r49.1 r49.2) fun r50 =>
  bnd (ibin .neq r50.1 (.int .i64 0)) fun t52 =>
  cnd t52
    (some (r50.1, r50.2))
    (j17_4 x2 x3 z4 z5 x26 x27 x28 r50.2)
theorem e17_5 (H0 : Hp) (x2 x3 x4 x5 x10 x11 x26 x27 x28 : AV) (H : Hp) : j17_5 H0 x2 x3 x4 x5 x10 x11 x26 x27 x28 H = b17_5 c41 q40 (j17_4 H0) x2 x3 x4 x5 x10 x11 x26 x27 x28 H := (CXM_eq [4, 6, 10, 13, 14] _ _ _ _).trans (by kernel_rfl)
theorem m17_5 {c41 dc41 : A3} (hc41 : L3 c41 dc41) {q40 dq40 : A4} (hq40 : L4 q40 dq40) {j17_4 dj17_4 : A7} (hj17_4 : L7 j17_4 dj17_4) : L9 (b17_5 c41 q40 j17_4) (b17_5 dc41 dq40 dj17_4) := fun _ _ _ _ _ _ _ _ _ _ =>
  bF fun _ _ => bF fun _ _ => bF fun _ _ => bR fun _ => bR fun _ => bR fun _ => bR fun _ => bC (hc41 _ _ _ _) fun _ => bR fun _ => bR fun _ => bR fun _ => bC (hc41 _ _ _ _) fun _ => bC (hq40 _ _ _ _ _) fun _ => bR fun _ => bK (le_refl _) (hj17_4 _ _ _ _ _ _ _ _)
def b17_3 (j17_5 : A9) (x2 x3 x4 x5 x26 x27 x28 x29 : AV) (H : Hp) : Res :=
  bnd (aindexS 5 x26 x28) fun t30 =>
  bnd (aload true 5 t30 H) fun t31 =>
  bnd (some ((.ptr H.length 0), H ++ [.cells [(.int .i64 0), (.int .i64 0), (.int .i64 0), (.int .i64 0), (.int .i64 0)]])) fun r10 =>
  bnd (astoreU 5 r10.1 t31 r10.2) fun r_14 =>
  bnd (afield 4 r10.1) fun t32 =>
  bnd (aload false 1 t32 r_14.2) fun t33 =>
  bnd (ibin .eql t33 (.int .i64 0)) fun t35 =>
  cnd t35
    (bnd (afield 2 x5) fun t36 =>
    bnd (aload false 1 t36 r_14.2) fun t37 =>
    j17_5 x2 x3 x4 x5 r10.1 t37 x26 x27 x28 r_14.2)
    (j17_5 x2 x3 x4 x5 r10.1 t33 x26 x27 x28 r_14.2)
theorem e17_3 (H0 : Hp) (x2 x3 x4 x5 x26 x27 x28 x29 : AV) (H : Hp) : j17_3 H0 x2 x3 x4 x5 x26 x27 x28 x29 H = b17_3 (j17_5 H0) x2 x3 x4 x5 x26 x27 x28 x29 H := (CXM_eq [4, 6, 10, 13, 14] _ _ _ _).trans (by kernel_rfl)
theorem m17_3 {j17_5 dj17_5 : A9} (hj17_5 : L9 j17_5 dj17_5) : L8 (b17_3 j17_5) (b17_3 dj17_5) := fun _ _ _ _ _ _ _ _ _ =>
  bR fun _ => bR fun _ => bR fun _ => bR fun _ => bR fun _ => bR fun _ => bR fun _ => bK (bR fun _ => bR fun _ => hj17_5 _ _ _ _ _ _ _ _ _ _) (hj17_5 _ _ _ _ _ _ _ _ _ _)
def b17_l1 (j17_2 : A0) (j17_3 : A8) (x2 x3 x4 x5 x26 x27 x28 : AV) (H : Hp) : Res :=
  bnd (ibin .lss x28 x27) fun t29 =>
  cnd t29
    (j17_3 x2 x3 x4 x5 x26 x27 x28 t29 H)
    (j17_2 H)
theorem e17_l1 (H0 : Hp) (x2 x3 x4 x5 x26 x27 x28 : AV) (H : Hp) : j17_l1 H0 x2 x3 x4 x5 x26 x27 x28 H = b17_l1 (j17_2 H0) (j17_3 H0) x2 x3 x4 x5 x26 x27 x28 H := (LPL_eqm (C := cfg) [4, 6, 10, 13, 14] (tame_block 0 (k17_1_tame H0)) _ _).trans (by kernel_rfl)
theorem m17_l1 {j17_2 dj17_2 : A0} (hj17_2 : L0 j17_2 dj17_2) {j17_3 dj17_3 : A8} (hj17_3 : L8 j17_3 dj17_3) : L7 (b17_l1 j17_2 j17_3) (b17_l1 dj17_2 dj17_3) := fun _ _ _ _ _ _ _ _ =>
  bR fun _ => bK (hj17_3 _ _ _ _ _ _ _ _ _) (hj17_2 _)
def b17_1 (j17_l1 : A7) (x2 x3 x4 x5 : AV) (H : Hp) : Res :=
  bnd (afield 0 x5) fun t25 =>
  bnd (aload false 1 t25 H) fun t26 =>
  bnd (alenD (.slice 58) t26) fun t27 =>
  j17_l1 x2 x3 x4 x5 t26 t27 (.int .i64 0) H
theorem e17_1 (H0 : Hp) (x2 x3 x4 x5 : AV) (H : Hp) : j17_1 H0 x2 x3 x4 x5 H = b17_1 (j17_l1 H0) x2 x3 x4 x5 H := (CXM_eq [4, 6, 10, 13, 14] _ _ _ _).trans (by kernel_rfl)
theorem m17_1 {j17_l1 dj17_l1 : A7} (hj17_l1 : L7 j17_l1 dj17_l1) : L4 (b17_1 j17_l1) (b17_1 dj17_l1) := fun _ _ _ _ _ =>
  bR fun _ => bR fun _ => bR fun _ => hj17_l1 _ _ _ _ _ _ _ _
def rj17_2 (gV : AV → List AV → Hp → Res) : A0 := b17_2
theorem sj17_2 (H0 : Hp) {gV : AV → List AV → Hp → Res} (hV : LV gV (acall cfg (callw cfg))) : L0 (rj17_2 gV) (j17_2 H0) := fun _ => le_eq (m17_2 _) (e17_2 H0 _)
def rj17_4 (gV : AV → List AV → Hp → Res) (j17_l1 : A7) : A7 := b17_4 j17_l1
theorem sj17_4 (H0 : Hp) {gV : AV → List AV → Hp → Res} (hV : LV gV (acall cfg (callw cfg))) {yj17_l1 : A7} (hj17_l1 : L7 yj17_l1 (j17_l1 H0)) : L7 (rj17_4 gV yj17_l1) (j17_4 H0) := fun _ _ _ _ _ _ _ _ => le_eq (m17_4 hj17_l1 _ _ _ _ _ _ _ _) (e17_4 H0 _ _ _ _ _ _ _ _)
def rj17_5 (gV : AV → List AV → Hp → Res) (j17_l1 : A7) : A9 := b17_5 rc41 (rq40 gV) (rj17_4 gV j17_l1)
theorem sj17_5 (H0 : Hp) {gV : AV → List AV → Hp → Res} (hV : LV gV (acall cfg (callw cfg))) {yj17_l1 : A7} (hj17_l1 : L7 yj17_l1 (j17_l1 H0)) : L9 (rj17_5 gV yj17_l1) (j17_5 H0) := fun _ _ _ _ _ _ _ _ _ _ => le_eq (m17_5 sc41 (sq40 hV) (sj17_4 H0 hV hj17_l1) _ _ _ _ _ _ _ _ _ _) (e17_5 H0 _ _ _ _ _ _ _ _ _ _)
def rj17_3 (gV : AV → List AV → Hp → Res) (j17_l1 : A7) : A8 := b17_3 (rj17_5 gV j17_l1)
theorem sj17_3 (H0 : Hp) {gV : AV → List AV → Hp → Res} (hV : LV gV (acall cfg (callw cfg))) {yj17_l1 : A7} (hj17_l1 : L7 yj17_l1 (j17_l1 H0)) : L8 (rj17_3 gV yj17_l1) (j17_3 H0) := fun _ _ _ _ _ _ _ _ _ => le_eq (m17_3 (sj17_5 H0 hV hj17_l1) _ _ _ _ _ _ _ _ _) (e17_3 H0 _ _ _ _ _ _ _ _ _)
def rj17_l1 (gV : AV → List AV → Hp → Res) (n : Nat) : A7 := @Nat.rec (fun _ => A7) (fun _ _ _ _ _ _ _ _ => none) (fun _ j17_l1 => b17_l1 (rj17_2 gV) (rj17_3 gV j17_l1)) n
theorem sj17_l1 (H0 : Hp) {gV : AV → List AV → Hp → Res} (hV : LV gV (acall cfg (callw cfg))) (n : Nat) : L7 (rj17_l1 gV n) (j17_l1 H0) := by
  induction n with
  | zero => exact fun _ _ _ _ _ _ _ _ => le_none _
  | succ n hj17_l1 => exact fun _ _ _ _ _ _ _ _ => le_eq (m17_l1 (sj17_2 H0 hV) (sj17_3 H0 hV hj17_l1) _ _ _ _ _ _ _ _) (e17_l1 H0 _ _ _ _ _ _ _ _)
def rj17_1 (gV : AV → List AV → Hp → Res) : A4 := b17_1 (rj17_l1 gV 100000)
theorem sj17_1 (H0 : Hp) {gV : AV → List AV → Hp → Res} (hV : LV gV (acall cfg (callw cfg))) : L4 (rj17_1 gV) (j17_1 H0) := fun _ _ _ _ _ => le_eq (m17_1 (sj17_l1 H0 hV 100000) _ _ _ _ _) (e17_1 H0 _ _ _ _ _)
def bc17 (q39 : A1) (q40 : A4) (j17_1 : A4) (p0 p1 p2 p3 : AV) (H : Hp) : Res :=
  bnd (abox p0 H) fun r4 =>
  bnd (abox p1 r4.2) fun r5 =>
  bnd (aload true 5 r5.1 r5.2) fun t13 =>
  bnd (q39 t13 r5.2) fun r14 =>
  bnd (astoreU 5 r5.1 r14.1 r14.2) fun r_5 =>
  bnd (afield 0 r5.1) fun t15 =>
  bnd (aload false 1 t15 r_5.2) fun t16 =>
  bnd (alenD (.slice 58) t16) fun t17 =>
  bnd (ibin .eql t17 (.int .i64 0)) fun t18 =>
  cnd t18
    (bnd (aload true 6 r4.1 r_5.2) fun t19 =>
    bnd (afield 2 r5.1) fun t20 =>
    bnd (aload false 1 t20 r_5.2) fun t21 =>
    bnd (q40 t19 t21 p2 p3 r_5.2) fun r24 =>
    some (r24.1, r24.2))
    (j17_1 p2 p3 r4.1 r5.1 r_5.2)
theorem ec17 (p0 p1 p2 p3 : AV) (H : Hp) : c17 p0 p1 p2 p3 H = bc17 q39 q40 (j17_1 H) p0 p1 p2 p3 H := (callw_cxm (C := cfg) (fn := Tryz.f17) (c := bodyOf Tryz.f17) (n := 55) [4, 6, 10, 13, 14] Tryz.func17 (by kernel_rfl) (by kernel_rfl) [p0, p1, p2, p3] (by kernel_rfl) H).trans (by kernel_rfl)
theorem mc17 {q39 dq39 : A1} (hq39 : L1 q39 dq39) {q40 dq40 : A4} (hq40 : L4 q40 dq40) {j17_1 dj17_1 : A4} (hj17_1 : L4 j17_1 dj17_1) : L4 (bc17 q39 q40 j17_1) (bc17 dq39 dq40 dj17_1) := fun _ _ _ _ _ =>
  bR fun _ => bR fun _ => bR fun _ => bC (hq39 _ _) fun _ => bR fun _ => bR fun _ => bR fun _ => bR fun _ => bR fun _ => bK (bR fun _ => bR fun _ => bR fun _ => bC (hq40 _ _ _ _ _) fun _ => le_refl _) (hj17_1 _ _ _ _ _)
def rc17 (gV : AV → List AV → Hp → Res) : A4 := fun p0 p1 p2 p3 H => bc17 rq39 (rq40 gV) (rj17_1 gV) p0 p1 p2 p3 H
theorem sc17 {gV : AV → List AV → Hp → Res} (hV : LV gV (acall cfg (callw cfg))) : L4 (rc17 gV) c17 := fun _ _ _ _ H => le_eq (mc17 sq39 (sq40 hV) (sj17_1 H hV) _ _ _ _ _) (ec17 _ _ _ _ _)
def q17 : A4 := fun p0 p1 p2 p3 H => flatC (callw cfg 17) [p0, p1, p2, p3] H
def rq17 (gV : AV → List AV → Hp → Res) : A4 := fun p0 p1 p2 p3 H => flatC (ofL4 (rc17 gV)) [p0, p1, p2, p3] H
theorem sq17 {gV : AV → List AV → Hp → Res} (hV : LV gV (acall cfg (callw cfg))) : L4 (rq17 gV) q17 := fun _ _ _ _ _ => flat_le (ofL4_le (sc17 hV)) _ _

def c19 (p0 p1 p2 p3 : AV) (H : Hp) : Res := callw cfg 19 [p0, p1, p2, p3] H
def j19_2 (H0 : Hp) (x9 : AV) (H : Hp) : Res := CXf 19 39 (sub (bodyOf Tryz.f19) [1, 1, 1, 1, 1, 1]) (retL cfg 39 19 Tryz.f19 H0) [(9, x9)] H
def j19_1 (H0 : Hp) (x2 x3 x4 x5 : AV) (H : Hp) : Res := CXf 19 39 (sub (bodyOf Tryz.f19) [1, 1, 1, 1]) (retL cfg 39 19 Tryz.f19 H0) [(2, x2), (3, x3), (4, x4), (5, x5)] H
def b19_2 (x9 : AV) (H : Hp) : Res :=
  some (x9, H)
theorem e19_2 (H0 : Hp) (x9 : AV) (H : Hp) : j19_2 H0 x9 H = b19_2 x9 H := (CXM_eq [5, 8] _ _ _ _).trans (by kernel_rfl)
theorem m19_2 : L1 (b19_2) (b19_2) := fun _ _ =>
  le_refl _
def b19_1 (q45 : A3) (j19_2 : A1) (x2 x3 x4 x5 : AV) (H : Hp) : Res :=
  bnd (aload true 6 x4 H) fun t28 =>
  bnd (q45 t28 x2 x3 H) fun r31 =>
  bnd (afield 2 x5) fun t32 =>
  bnd (aload false 1 t32 r31.2) fun t33 =>
  bnd (ibin .and t33 (.int .i64 2)) fun t34 =>
  bnd (ibin .neq t34 (.int .i64 0)) fun t35 =>
  cnd t35
    (bnd (aun .neg r31.1) fun t37 =>
    some (t37, r31.2))
    (j19_2 r31.1 r31.2)
theorem e19_1 (H0 : Hp) (x2 x3 x4 x5 : AV) (H : Hp) : j19_1 H0 x2 x3 x4 x5 H = b19_1 q45 (j19_2 H0) x2 x3 x4 x5 H := (CXM_eq [5, 8] _ _ _ _).trans (by kernel_rfl)
theorem m19_1 {q45 dq45 : A3} (hq45 : L3 q45 dq45) {j19_2 dj19_2 : A1} (hj19_2 : L1 j19_2 dj19_2) : L4 (b19_1 q45 j19_2) (b19_1 dq45 dj19_2) := fun _ _ _ _ _ =>
  bR fun _ => bC (hq45 _ _ _ _) fun _ => bR fun _ => bR fun _ => bR fun _ => bR fun _ => bK (bR fun _ => le_refl _) (hj19_2 _ _)
def rj19_2 (gV : AV → List AV → Hp → Res) : A1 := b19_2
theorem sj19_2 (H0 : Hp) {gV : AV → List AV → Hp → Res} (hV : LV gV (acall cfg (callw cfg))) : L1 (rj19_2 gV) (j19_2 H0) := fun _ _ => le_eq (m19_2 _ _) (e19_2 H0 _ _)
def rj19_1 (gV : AV → List AV → Hp → Res) : A4 := b19_1 (rq45 gV) (rj19_2 gV)
theorem sj19_1 (H0 : Hp) {gV : AV → List AV → Hp → Res} (hV : LV gV (acall cfg (callw cfg))) : L4 (rj19_1 gV) (j19_1 H0) := fun _ _ _ _ _ => le_eq (m19_1 (sq45 hV) (sj19_2 H0 hV) _ _ _ _ _) (e19_1 H0 _ _ _ _ _)
def bc19 (q17 : A4) (q39 : A1) (j19_1 : A4) (p0 p1 p2 p3 : AV) (H : Hp) : Res :=
  bnd (abox p0 H) fun r4 =>
  bnd (abox p1 r4.2) fun r5 =>
  bnd (aload true 5 r5.1 r5.2) fun t10 =>
  bnd (q39 t10 r5.2) fun r11 =>
  bnd (astoreU 5 r5.1 r11.1 r11.2) fun r_5 =>
  bnd (aload true 6 r4.1 r_5.2) fun t12 =>
  bnd (aload true 5 r5.1 r_5.2) fun t13 =>
  bnd (q17 t12 t13 p2 p3 r_5.2) fun r16 =>
  bnd (ibin .neq r16.1 (.int .i64 0)) fun t18 =>
  bnd (gdv t18 false (.tuple []) (afield 4 r5.1)) fun t20 =>
  bnd (gdv t18 false (.tuple []) (aload false 1 t20 r16.2)) fun t21 =>
  bnd (apick t18 (.bool true) t21) fun t22 =>
  bnd (gdv t22 false (.tuple []) (afield 3 r5.1)) fun t24 =>
  bnd (gdv t22 false (.tuple []) (aload false 1 t24 r16.2)) fun t25 =>
  bnd (apick t22 (.bool true) t25) fun t26 =>
  cnd t26
    (some (r16.1, r16.2))
    (j19_1 p2 p3 r4.1 r5.1 r16.2)
theorem ec19 (p0 p1 p2 p3 : AV) (H : Hp) : c19 p0 p1 p2 p3 H = bc19 q17 q39 (j19_1 H) p0 p1 p2 p3 H := (callw_cxm (C := cfg) (fn := Tryz.f19) (c := bodyOf Tryz.f19) (n := 39) [5, 8] Tryz.func19 (by kernel_rfl) (by kernel_rfl) [p0, p1, p2, p3] (by kernel_rfl) H).trans (by kernel_rfl)
theorem mc19 {q17 dq17 : A4} (hq17 : L4 q17 dq17) {q39 dq39 : A1} (hq39 : L1 q39 dq39) {j19_1 dj19_1 : A4} (hj19_1 : L4 j19_1 dj19_1) : L4 (bc19 q17 q39 j19_1) (bc19 dq17 dq39 dj19_1) := fun _ _ _ _ _ =>
  bR fun _ => bR fun _ => bR fun _ => bC (hq39 _ _) fun _ => bR fun _ => bR fun _ => bR fun _ => bC (hq17 _ _ _ _ _) fun _ => bR fun _ => bR fun _ => bR fun _ => bR fun _ => bR fun _ => bR fun _ => bR fun _ => bK (le_refl _) (hj19_1 _ _ _ _ _)
def rc19 (gV : AV → List AV → Hp → Res) : A4 := fun p0 p1 p2 p3 H => bc19 (rq17 gV) rq39 (rj19_1 gV) p0 p1 p2 p3 H
theorem sc19 {gV : AV → List AV → Hp → Res} (hV : LV gV (acall cfg (callw cfg))) : L4 (rc19 gV) c19 := fun _ _ _ _ H => le_eq (mc19 (sq17 hV) sq39 (sj19_1 H hV) _ _ _ _ _) (ec19 _ _ _ _ _)
def q19 : A4 := fun p0 p1 p2 p3 H => flatC (callw cfg 19) [p0, p1, p2, p3] H
def rq19 (gV : AV → List AV → Hp → Res) : A4 := fun p0 p1 p2 p3 H => flatC (ofL4 (rc19 gV)) [p0, p1, p2, p3] H
theorem sq19 {gV : AV → List AV → Hp → Res} (hV : LV gV (acall cfg (callw cfg))) : L4 (rq19 gV) q19 := fun _ _ _ _ _ => flat_le (ofL4_le (sc19 hV)) _ _

def c25 (H : Hp) : Res := callw cfg 25 [] H
def j25_1 (H0 : Hp) (x0 x1 x2 x3 : AV) (H : Hp) : Res := CXf 25 55 (sub (bodyOf Tryz.f25) [1, 1, 1, 1]) (retL cfg 55 25 Tryz.f25 H0) [(0, x0), (1, x1), (2, x2), (3, x3)] H
def k25_1 (H0 : Hp) : KL := seqL (fun k al H => CXf 25 55 (sub (bodyOf Tryz.f25) [1, 1, 1, 1]) k (trimL (cfg.keep 25) (sub (bodyOf Tryz.f25) [1, 1, 1, 1]) al) H) (retL cfg 55 25 Tryz.f25 H0)
theorem k25_1_tame (H0 : Hp) : Tame 55 (k25_1 H0) := tame_seq (C := cfg) (kp := cfg.keep 25) (sub (bodyOf Tryz.f25) [1, 1, 1, 1]) (tame_ret 25 Tryz.f25 H0)
def j25_3 (H0 : Hp) (x0 x1 x2 x3 x4 : AV) (H : Hp) : Res := CXf 25 55 (sub (bodyOf Tryz.f25) [1, 1, 1, 0, 1, 0, 0, 1, 1]) (seqL (fun k al H => LPf 25 55 (sub (bodyOf Tryz.f25) [1, 1, 1, 0, 1, 0, 0]) k (trimL (cfg.keep 25) (sub (bodyOf Tryz.f25) [1, 1, 1, 0, 1, 0, 0]) al) H) (blockL 0 (k25_1 H0))) [(0, x0), (1, x1), (2, x2), (3, x3), (4, x4)] H
def k25_2 (H0 : Hp) : KL := seqL (fun k al H => CXf 25 55 (sub (bodyOf Tryz.f25) [1, 1, 1, 0, 1, 0, 0, 1, 1]) k (trimL (cfg.keep 25) (sub (bodyOf Tryz.f25) [1, 1, 1, 0, 1, 0, 0, 1, 1]) al) H) (seqL (fun k al H => LPf 25 55 (sub (bodyOf Tryz.f25) [1, 1, 1, 0, 1, 0, 0]) k (trimL (cfg.keep 25) (sub (bodyOf Tryz.f25) [1, 1, 1, 0, 1, 0, 0]) al) H) (blockL 0 (k25_1 H0)))
def j25_5 (H0 : Hp) (x0 x1 x2 x3 x4 x5 x6 : AV) (H : Hp) : Res := CXf 25 55 (sub (bodyOf Tryz.f25) [1, 1, 1, 0, 1, 0, 0, 1, 0, 0, 1, 1, 1]) (blockL 1 (k25_2 H0)) [(0, x0), (1, x1), (2, x2), (3, x3), (4, x4), (5, x5), (6, x6)] H
def j25_4 (H0 : Hp) (x0 x1 x2 x3 x4 x5 x6 : AV) (H : Hp) : Res := CXf 25 55 (sub (bodyOf Tryz.f25) [1, 1, 1, 0, 1, 0, 0, 1, 0, 0, 1, 1]) (blockL 1 (k25_2 H0)) [(0, x0), (1, x1), (2, x2), (3, x3), (4, x4), (5, x5), (6, x6)] H
def j25_2 (H0 : Hp) (x0 x1 x2 x3 x4 : AV) (H : Hp) : Res := CXf 25 55 (sub (bodyOf Tryz.f25) [1, 1, 1, 0, 1, 0, 0, 1]) (seqL (fun k al H => LPf 25 55 (sub (bodyOf Tryz.f25) [1, 1, 1, 0, 1, 0, 0]) k (trimL (cfg.keep 25) (sub (bodyOf Tryz.f25) [1, 1, 1, 0, 1, 0, 0]) al) H) (blockL 0 (k25_1 H0))) [(0, x0), (1, x1), (2, x2), (3, x3), (4, x4)] H
def j25_l1 (H0 : Hp) (x0 x1 x2 x3 x4 : AV) (H : Hp) : Res := LPf 25 55 (sub (bodyOf Tryz.f25) [1, 1, 1, 0, 1, 0, 0]) (blockL 0 (k25_1 H0)) [(0, x0), (1, x1), (2, x2), (3, x3), (4, x4)] H
def b25_1 (x0 x1 x2 x3 : AV) (H : Hp) : Res :=
  bnd (cvRd x2 H) fun t49 =>
  bnd (afield 2 x1) fun t50 =>
  bnd (astoreU 1 t50 t49 H) fun r_7 =>
  bnd (cvRd x3 r_7.2) fun t52 =>
  bnd (afield 3 x1) fun t53 =>
  bnd (astoreU 1 t53 t52 r_7.2) fun r_10 =>
  bnd (aload true 6 x1 r_10.2) fun t54 =>
  bnd (astoreU 6 x0 t54 r_10.2) fun r_12 =>
  bnd (aload true 6 x0 r_12.2) fun v0 =>
  some (v0, r_12.2)
theorem e25_1 (H0 : Hp) (x0 x1 x2 x3 : AV) (H : Hp) : j25_1 H0 x0 x1 x2 x3 H = b25_1 x0 x1 x2 x3 H := (CXM_eq [5, 6, 9, 11, 14] _ _ _ _).trans (by kernel_rfl)
theorem m25_1 : L4 (b25_1) (b25_1) := fun _ _ _ _ _ =>
  bR fun _ => bR fun _ => bR fun _ => bR fun _ => bR fun _ => bR fun _ => bR fun _ => bR fun _ => bR fun _ => le_refl _
def b25_3 (j25_l1 : A5) (x0 x1 x2 x3 x4 : AV) (H : Hp) : Res :=
  bnd (ibin .add x4 (.int .i64 1)) fun t11 =>
  j25_l1 x0 x1 x2 x3 t11 H
theorem e25_3 (H0 : Hp) (x0 x1 x2 x3 x4 : AV) (H : Hp) : j25_3 H0 x0 x1 x2 x3 x4 H = b25_3 (j25_l1 H0) x0 x1 x2 x3 x4 H := (CXM_eq [5, 6, 9, 11, 14] _ _ _ _).trans (by kernel_rfl)
theorem m25_3 {j25_l1 dj25_l1 : A5} (hj25_l1 : L5 j25_l1 dj25_l1) : L5 (b25_3 j25_l1) (b25_3 dj25_l1) := fun _ _ _ _ _ _ =>
  bR fun _ => hj25_l1 _ _ _ _ _ _
def b25_5 (j25_3 : A5) (x0 x1 x2 x3 x4 x5 x6 : AV) (H : Hp) : Res :=
  bnd (afield 1 x1) fun t34 =>
  bnd (aload false 1 t34 H) fun t35 =>
  bnd ((setElems 1 [(0, x4)] [(.int .i64 0)]).map (.vs 1 .clip)) fun t37 =>
  bnd (aappE 1 8 t35 t37 H) fun r38 =>
  bnd (afield 1 x1) fun t39 =>
  bnd (astoreU 1 t39 r38.1 r38.2) fun r_22 =>
  bnd ((setElems 1 [(0, x5)] [(.int .u8 0)]).map (.vs 1 .clip)) fun t42 =>
  bnd (aappE 1 1 x2 t42 r_22.2) fun r43 =>
  bnd ((setElems 1 [(0, x6)] [(.int .u8 0)]).map (.vs 1 .clip)) fun t46 =>
  bnd (aappE 1 1 x3 t46 r43.2) fun r47 =>
  j25_3 x0 x1 r43.1 r47.1 x4 r47.2
theorem e25_5 (H0 : Hp) (x0 x1 x2 x3 x4 x5 x6 : AV) (H : Hp) : j25_5 H0 x0 x1 x2 x3 x4 x5 x6 H = b25_5 (j25_3 H0) x0 x1 x2 x3 x4 x5 x6 H := (CXM_eq [5, 6, 9, 11, 14] _ _ _ _).trans (by kernel_rfl)
theorem m25_5 {j25_3 dj25_3 : A5} (hj25_3 : L5 j25_3 dj25_3) : L7 (b25_5 j25_3) (b25_5 dj25_3) := fun _ _ _ _ _ _ _ _ =>
  bR fun _ => bR fun _ => bR fun _ => bR fun _ => bR fun _ => bR fun _ => bR fun _ => bR fun _ => bR fun _ => bR fun _ => hj25_3 _ _ _ _ _ _
def b25_4 (j25_5 : A7) (x0 x1 x2 x3 x4 x5 x6 : AV) (H : Hp) : Res :=
  bnd (ibin .geq x4 (.int .i64 97)) fun t26 =>
  bnd (gdv t26 true (.tuple []) (some x4)) fun t28 =>
  bnd (gdv t26 true (.tuple []) (ibin .leq t28 (.int .i64 122))) fun t29 =>
  bnd (apick t26 t29 (.bool false)) fun t30 =>
  cnd t30
    (bnd (ibin .sub x4 (.int .i64 32)) fun t32 =>
    bnd (cvInt .u8 t32) fun t33 =>
    j25_5 x0 x1 x2 x3 x4 x5 t33 H)
    (j25_5 x0 x1 x2 x3 x4 x5 x6 H)
theorem e25_4 (H0 : Hp) (x0 x1 x2 x3 x4 x5 x6 : AV) (H : Hp) : j25_4 H0 x0 x1 x2 x3 x4 x5 x6 H = b25_4 (j25_5 H0) x0 x1 x2 x3 x4 x5 x6 H := (CXM_eq [5, 6, 9, 11, 14] _ _ _ _).trans (by kernel_rfl)
theorem m25_4 {j25_5 dj25_5 : A7} (hj25_5 : L7 j25_5 dj25_5) : L7 (b25_4 j25_5) (b25_4 dj25_5) := fun _ _ _ _ _ _ _ _ =>
  bR fun _ => bR fun _ => bR fun _ => bR fun _ => bK (bR fun _ => bR fun _ => hj25_5 _ _ _ _ _ _ _ _) (hj25_5 _ _ _ _ _ _ _ _)
def b25_2 (j25_4 : A7) (x0 x1 x2 x3 x4 : AV) (H : Hp) : Res :=
  bnd (cvInt .u8 x4) fun t13 =>
  bnd (cvInt .u8 x4) fun t15 =>
  bnd (ibin .geq x4 (.int .i64 65)) fun t17 =>
  bnd (gdv t17 true (.tuple []) (some x4)) fun t19 =>
  bnd (gdv t17 true (.tuple []) (ibin .leq t19 (.int .i64 90))) fun t20 =>
  bnd (apick t17 t20 (.bool false)) fun t21 =>
  cnd t21
    (bnd (ibin .add x4 (.int .i64 32)) fun t23 =>
    bnd (cvInt .u8 t23) fun t24 =>
    j25_4 x0 x1 x2 x3 x4 t24 t15 H)
    (j25_4 x0 x1 x2 x3 x4 t13 t15 H)
theorem e25_2 (H0 : Hp) (x0 x1 x2 x3 x4 : AV) (H : Hp) : j25_2 H0 x0 x1 x2 x3 x4 H = b25_2 (j25_4 H0) x0 x1 x2 x3 x4 H := (CXM_eq [5, 6, 9, 11, 14] _ _ _ _).trans (by kernel_rfl)
theorem m25_2 {j25_4 dj25_4 : A7} (hj25_4 : L7 j25_4 dj25_4) : L5 (b25_2 j25_4) (b25_2 dj25_4) := fun _ _ _ _ _ _ =>
  bR fun _ => bR fun _ => bR fun _ => bR fun _ => bR fun _ => bR fun _ => bK (bR fun _ => bR fun _ => hj25_4 _ _ _ _ _ _ _ _) (hj25_4 _ _ _ _ _ _ _ _)
def b25_l1 (j25_1 : A4) (j25_2 : A5) (x0 x1 x2 x3 x4 : AV) (H : Hp) : Res :=
  bnd (ibin .lss x4 (.int .i64 256)) fun t9 =>
  cnd t9
    (j25_2 x0 x1 x2 x3 x4 H)
    (j25_1 x0 x1 x2 x3 H)
theorem e25_l1 (H0 : Hp) (x0 x1 x2 x3 x4 : AV) (H : Hp) : j25_l1 H0 x0 x1 x2 x3 x4 H = b25_l1 (j25_1 H0) (j25_2 H0) x0 x1 x2 x3 x4 H := (LPL_eqm (C := cfg) [5, 6, 9, 11, 14] (tame_block 0 (k25_1_tame H0)) _ _).trans (by kernel_rfl)
theorem m25_l1 {j25_1 dj25_1 : A4} (hj25_1 : L4 j25_1 dj25_1) {j25_2 dj25_2 : A5} (hj25_2 : L5 j25_2 dj25_2) : L5 (b25_l1 j25_1 j25_2) (b25_l1 dj25_1 dj25_2) := fun _ _ _ _ _ _ =>
  bR fun _ => bK (hj25_2 _ _ _ _ _ _) (hj25_1 _ _ _ _ _)
def rj25_1 : A4 := b25_1
theorem sj25_1 (H0 : Hp) : L4 (rj25_1) (j25_1 H0) := fun _ _ _ _ _ => le_eq (m25_1 _ _ _ _ _) (e25_1 H0 _ _ _ _ _)
def rj25_3 (j25_l1 : A5) : A5 := b25_3 j25_l1
theorem sj25_3 (H0 : Hp) {yj25_l1 : A5} (hj25_l1 : L5 yj25_l1 (j25_l1 H0)) : L5 (rj25_3 yj25_l1) (j25_3 H0) := fun _ _ _ _ _ _ => le_eq (m25_3 hj25_l1 _ _ _ _ _ _) (e25_3 H0 _ _ _ _ _ _)
def rj25_5 (j25_l1 : A5) : A7 := b25_5 (rj25_3 j25_l1)
theorem sj25_5 (H0 : Hp) {yj25_l1 : A5} (hj25_l1 : L5 yj25_l1 (j25_l1 H0)) : L7 (rj25_5 yj25_l1) (j25_5 H0) := fun _ _ _ _ _ _ _ _ => le_eq (m25_5 (sj25_3 H0 hj25_l1) _ _ _ _ _ _ _ _) (e25_5 H0 _ _ _ _ _ _ _ _)
def rj25_4 (j25_l1 : A5) : A7 := b25_4 (rj25_5 j25_l1)
theorem sj25_4 (H0 : Hp) {yj25_l1 : A5} (hj25_l1 : L5 yj25_l1 (j25_l1 H0)) : L7 (rj25_4 yj25_l1) (j25_4 H0) := fun _ _ _ _ _ _ _ _ => le_eq (m25_4 (sj25_5 H0 hj25_l1) _ _ _ _ _ _ _ _) (e25_4 H0 _ _ _ _ _ _ _ _)
def rj25_2 (j25_l1 : A5) : A5 := b25_2 (rj25_4 j25_l1)
theorem sj25_2 (H0 : Hp) {yj25_l1 : A5} (hj25_l1 : L5 yj25_l1 (j25_l1 H0)) : L5 (rj25_2 yj25_l1) (j25_2 H0) := fun _ _ _ _ _ _ => le_eq (m25_2 (sj25_4 H0 hj25_l1) _ _ _ _ _ _) (e25_2 H0 _ _ _ _ _ _)
def rj25_l1 (n : Nat) : A5 := @Nat.rec (fun _ => A5) (fun _ _ _ _ _ _ => none) (fun _ j25_l1 => b25_l1 (rj25_1) (rj25_2 j25_l1)) n
theorem sj25_l1 (H0 : Hp) (n : Nat) : L5 (rj25_l1 n) (j25_l1 H0) := by
  induction n with
  | zero => exact fun _ _ _ _ _ _ => le_none _
  | succ n hj25_l1 => exact fun _ _ _ _ _ _ => le_eq (m25_l1 (sj25_1 H0) (sj25_2 H0 hj25_l1) _ _ _ _ _ _) (e25_l1 H0 _ _ _ _ _ _)
def bc25 (j25_l1 : A5) (H : Hp) : Res :=
  bnd (some ((.ptr H.length 0), H ++ [.cells [(.str []), .nils, (.str []), (.str []), .nils, .nils]])) fun r0 =>
  bnd ((afill [(0, 1, (.str [112, 111, 115, 105, 120]))] [(.str []), .nils, (.str []), (.str []), .nils, .nils]).map .agg) fun t7 =>
  bnd (some ((.ptr r0.2.length 0), r0.2 ++ [.cells [(.str []), .nils, (.str []), (.str []), .nils, .nils]])) fun r1 =>
  bnd (astoreU 6 r1.1 t7 r1.2) fun r_4 =>
  j25_l1 r0.1 r1.1 .nils .nils (.int .i64 0) r_4.2
theorem ec25 (H : Hp) : c25 H = bc25 (j25_l1 H) H := (callw_cxm (C := cfg) (fn := Tryz.f25) (c := bodyOf Tryz.f25) (n := 55) [5, 6, 9, 11, 14] Tryz.func25 (by kernel_rfl) (by kernel_rfl) [] (by kernel_rfl) H).trans (by kernel_rfl)
theorem mc25 {j25_l1 dj25_l1 : A5} (hj25_l1 : L5 j25_l1 dj25_l1) : L0 (bc25 j25_l1) (bc25 dj25_l1) := fun _ =>
  bR fun _ => bR fun _ => bR fun _ => bR fun _ => hj25_l1 _ _ _ _ _ _
def rc25 : A0 := fun H => bc25 (rj25_l1 100000) H
theorem sc25 : L0 rc25 c25 := fun H => le_eq (mc25 (sj25_l1 H 100000) _) (ec25 _)
def q25 : A0 := fun H => flatC (callw cfg 25) [] H
def rq25 : A0 := fun H => flatC (ofL0 (rc25)) [] H
theorem sq25 : L0 rq25 q25 := fun _ => flat_le (ofL0_le (sc25)) _ _

def c95 (p0 : AV) (H : Hp) : Res := callw cfg 95 [p0] H
def j95_1 (H0 : Hp) (H : Hp) : Res := CXf 95 14 (sub (bodyOf Tryz.f95) [1, 1]) (retL cfg 14 95 Tryz.f95 H0) [] H
def b95_1 (H : Hp) : Res :=
  some ((.int .i64 0), H)
theorem e95_1 (H0 : Hp) (H : Hp) : j95_1 H0 H = b95_1 H := (CXM_eq [12] _ _ _ _).trans (by kernel_rfl)
theorem m95_1 : L0 (b95_1) (b95_1) := fun _ =>
  le_refl _
def rj95_1 : A0 := b95_1
theorem sj95_1 (H0 : Hp) : L0 (rj95_1) (j95_1 H0) := fun _ => le_eq (m95_1 _) (e95_1 H0 _)
def bc95 (j95_1 : A0) (p0 : AV) (H : Hp) : Res :=
  bnd (ibin .eql p0 (.int .u8 98)) fun t5 =>
  cnd t5
    (some ((.int .i64 8), H))
    (bnd (ibin .eql p0 (.int .u8 100)) fun t7 =>
    cnd t7
      (some ((.int .i64 16), H))
      (bnd (ibin .eql p0 (.int .u8 102)) fun t9 =>
      cnd t9
        (some ((.int .i64 4), H))
        (bnd (ibin .eql p0 (.int .u8 110)) fun t11 =>
        cnd t11
          (some ((.int .i64 1), H))
          (bnd (ibin .eql p0 (.int .u8 114)) fun t13 =>
          cnd t13
            (some ((.int .i64 2), H))
            (j95_1 H)))))
theorem ec95 (p0 : AV) (H : Hp) : c95 p0 H = bc95 (j95_1 H) p0 H := (callw_cxm (C := cfg) (fn := Tryz.f95) (c := bodyOf Tryz.f95) (n := 14) [12] Tryz.func95 (by kernel_rfl) (by kernel_rfl) [p0] (by kernel_rfl) H).trans (by kernel_rfl)
theorem mc95 {j95_1 dj95_1 : A0} (hj95_1 : L0 j95_1 dj95_1) : L1 (bc95 j95_1) (bc95 dj95_1) := fun _ _ =>
  bR fun _ => bK (le_refl _) (bR fun _ => bK (le_refl _) (bR fun _ => bK (le_refl _) (bR fun _ => bK (le_refl _) (bR fun _ => bK (le_refl _) (hj95_1 _)))))
def rc95 : A1 := fun p0 H => bc95 (rj95_1) p0 H
theorem sc95 : L1 rc95 c95 := fun _ H => le_eq (mc95 (sj95_1 H) _ _) (ec95 _ _)
def q95 : A1 := fun p0 H => flatC (callw cfg 95) [p0] H
def rq95 : A1 := fun p0 H => flatC (ofL1 (rc95)) [p0] H
theorem sq95 : L1 rq95 q95 := fun _ _ => flat_le (ofL1_le (sc95)) _ _

def c96 (p0 p1 : AV) (H : Hp) : Res := callw cfg 96 [p0, p1] H
def j96_2 (H0 : Hp) (x0 : AV) (H : Hp) : Res := CXf 96 37 (sub (bodyOf Tryz.f96) [1, 1, 1]) (retL cfg 37 96 Tryz.f96 H0) [(0, x0)] H
def j96_1 (H0 : Hp) (x0 : AV) (H : Hp) : Res := CXf 96 37 (sub (bodyOf Tryz.f96) [1, 1]) (retL cfg 37 96 Tryz.f96 H0) [(0, x0)] H
def b96_2 (x0 : AV) (H : Hp) : Res :=
  bnd (anil x0) fun t21 =>
  bnd (afield 6 t21) fun t22 =>
  bnd (aload false 1 t22 H) fun t23 =>
  bnd (ibin .add t23 (.int .i64 1)) fun t24 =>
  bnd (anil x0) fun t25 =>
  bnd (afield 6 t25) fun t26 =>
  bnd (astoreU 1 t26 t24 H) fun r_7 =>
  bnd (anil x0) fun t28 =>
  bnd (afield 5 t28) fun t29 =>
  bnd (aload false 1 t29 r_7.2) fun t30 =>
  bnd (anil x0) fun t32 =>
  bnd (afield 6 t32) fun t33 =>
  bnd (aload false 1 t33 r_7.2) fun t34 =>
  bnd (aindexS 1 t30 t34) fun t35 =>
  bnd (aload false 1 t35 r_7.2) fun t36 =>
  some ((.tuple [t36, (.bool true)]), r_7.2)
theorem e96_2 (H0 : Hp) (x0 : AV) (H : Hp) : j96_2 H0 x0 H = b96_2 x0 H := (CXM_eq [3, 5] _ _ _ _).trans (by kernel_rfl)
theorem m96_2 : L1 (b96_2) (b96_2) := fun _ _ =>
  bR fun _ => bR fun _ => bR fun _ => bR fun _ => bR fun _ => bR fun _ => bR fun _ => bR fun _ => bR fun _ => bR fun _ => bR fun _ => bR fun _ => bR fun _ => bR fun _ => bR fun _ => le_refl _
def b96_1 (j96_2 : A1) (x0 : AV) (H : Hp) : Res :=
  bnd (anil x0) fun t10 =>
  bnd (afield 6 t10) fun t11 =>
  bnd (aload false 1 t11 H) fun t12 =>
  bnd (ibin .add t12 (.int .i64 1)) fun t13 =>
  bnd (anil x0) fun t15 =>
  bnd (afield 5 t15) fun t16 =>
  bnd (aload false 1 t16 H) fun t17 =>
  bnd (alenD (.slice 9) t17) fun t18 =>
  bnd (ibin .geq t13 t18) fun t19 =>
  cnd t19
    (some ((.tuple [(.str []), (.bool false)]), H))
    (j96_2 x0 H)
theorem e96_1 (H0 : Hp) (x0 : AV) (H : Hp) : j96_1 H0 x0 H = b96_1 (j96_2 H0) x0 H := (CXM_eq [3, 5] _ _ _ _).trans (by kernel_rfl)
theorem m96_1 {j96_2 dj96_2 : A1} (hj96_2 : L1 j96_2 dj96_2) : L1 (b96_1 j96_2) (b96_1 dj96_2) := fun _ _ =>
  bR fun _ => bR fun _ => bR fun _ => bR fun _ => bR fun _ => bR fun _ => bR fun _ => bR fun _ => bR fun _ => bK (le_refl _) (hj96_2 _ _)
def rj96_2 : A1 := b96_2
theorem sj96_2 (H0 : Hp) : L1 (rj96_2) (j96_2 H0) := fun _ _ => le_eq (m96_2 _ _) (e96_2 H0 _ _)
def rj96_1 : A1 := b96_1 (rj96_2)
theorem sj96_1 (H0 : Hp) : L1 (rj96_1) (j96_1 H0) := fun _ _ => le_eq (m96_1 (sj96_2 H0) _ _) (e96_1 H0 _ _)
def bc96 (j96_1 : A1) (p0 p1 : AV) (H : Hp) : Res :=
  bnd (sbin .neq p1 (.str [])) fun t7 =>
  cnd t7
    (some ((.tuple [p1, (.bool true)]), H))
    (j96_1 p0 H)
theorem ec96 (p0 p1 : AV) (H : Hp) : c96 p0 p1 H = bc96 (j96_1 H) p0 p1 H := (callw_cxm (C := cfg) (fn := Tryz.f96) (c := bodyOf Tryz.f96) (n := 37) [3, 5] Tryz.func96 (by kernel_rfl) (by kernel_rfl) [p0, p1] (by kernel_rfl) H).trans (by kernel_rfl)
theorem mc96 {j96_1 dj96_1 : A1} (hj96_1 : L1 j96_1 dj96_1) : L2 (bc96 j96_1) (bc96 dj96_1) := fun _ _ _ =>
  bR fun _ => bK (le_refl _) (hj96_1 _ _)
def rc96 : A2 := fun p0 p1 H => bc96 (rj96_1) p0 p1 H
theorem sc96 : L2 rc96 c96 := fun _ _ H => le_eq (mc96 (sj96_1 H) _ _ _) (ec96 _ _ _)

def c74 (p0 p1 : AV) (H : Hp) : Res := callw cfg 74 [p0, p1] H
def j74_1 (H0 : Hp) (H : Hp) : Res := CXf 74 70 (sub (bodyOf Tryz.f74) [1, 1]) (retL cfg 70 74 Tryz.f74 H0) [] H
def k74_1 (H0 : Hp) : KL := seqL (fun k al H => CXf 74 70 (sub (bodyOf Tryz.f74) [1, 1]) k (trimL (cfg.keep 74) (sub (bodyOf Tryz.f74) [1, 1]) al) H) (retL cfg 70 74 Tryz.f74 H0)
theorem k74_1_tame (H0 : Hp) : Tame 70 (k74_1 H0) := tame_seq (C := cfg) (kp := cfg.keep 74) (sub (bodyOf Tryz.f74) [1, 1]) (tame_ret 74 Tryz.f74 H0)
def j74_3 (H0 : Hp) (x0 x6 : AV) (H : Hp) : Res := CXf 74 70 (sub (bodyOf Tryz.f74) [1, 0, 0, 0, 1, 0, 1, 1]) (blockL 1 (seqL (fun k al H => LPf 74 70 (sub (bodyOf Tryz.f74) [1, 0, 0, 0]) k (trimL (cfg.keep 74) (sub (bodyOf Tryz.f74) [1, 0, 0, 0]) al) H) (blockL 0 (k74_1 H0)))) [(0, x0), (6, x6)] H
def k74_2 (H0 : Hp) : KL := seqL (fun k al H => CXf 74 70 (sub (bodyOf Tryz.f74) [1, 0, 0, 0, 1, 0, 1, 1]) k (trimL (cfg.keep 74) (sub (bodyOf Tryz.f74) [1, 0, 0, 0, 1, 0, 1, 1]) al) H) (blockL 1 (seqL (fun k al H => LPf 74 70 (sub (bodyOf Tryz.f74) [1, 0, 0, 0]) k (trimL (cfg.keep 74) (sub (bodyOf Tryz.f74) [1, 0, 0, 0]) al) H) (blockL 0 (k74_1 H0))))
def j74_5 (H0 : Hp) (x7 x9 : AV) (H : Hp) : Res := CXf 74 70 (sub (bodyOf Tryz.f74) [1, 0, 0, 0, 1, 0, 1, 0, 0, 1, 1, 1, 1, 1, 1, 1, 0, 1, 1, 1, 1]) (blockL 2 (k74_2 H0)) [(7, x7), (9, x9)] H
def j74_4 (H0 : Hp) (x0 x5 x7 : AV) (H : Hp) : Res := CXf 74 70 (sub (bodyOf Tryz.f74) [1, 0, 0, 0, 1, 0, 1, 0, 0, 1, 1, 1, 1, 1, 1, 1, 0, 1, 1]) (blockL 2 (k74_2 H0)) [(0, x0), (5, x5), (7, x7)] H
def j74_2 (H0 : Hp) (x0 x1 : AV) (H : Hp) : Res := CXf 74 70 (sub (bodyOf Tryz.f74) [1, 0, 0, 0, 1]) (seqL (fun k al H => LPf 74 70 (sub (bodyOf Tryz.f74) [1, 0, 0, 0]) k (trimL (cfg.keep 74) (sub (bodyOf Tryz.f74) [1, 0, 0, 0]) al) H) (blockL 0 (k74_1 H0))) [(0, x0), (1, x1)] H
def j74_l1 (H0 : Hp) (x0 x1 : AV) (H : Hp) : Res := LPf 74 70 (sub (bodyOf Tryz.f74) [1, 0, 0, 0]) (blockL 0 (k74_1 H0)) [(0, x0), (1, x1)] H
def b74_1 (H : Hp) : Res :=
  some ((.int .i64 0), H)
theorem e74_1 (H0 : Hp) (H : Hp) : j74_1 H0 H = b74_1 H := (CXM_eq [2, 14, 17, 18, 19] _ _ _ _).trans (by kernel_rfl)
theorem m74_1 : L0 (b74_1) (b74_1) := fun _ =>
  le_refl _
def b74_3 (j74_l1 : A2) (x0 x6 : AV) (H : Hp) : Res :=
  j74_l1 x0 x6 H
theorem e74_3 (H0 : Hp) (x0 x6 : AV) (H : Hp) : j74_3 H0 x0 x6 H = b74_3 (j74_l1 H0) x0 x6 H := (CXM_eq [2, 14, 17, 18, 19] _ _ _ _).trans (by kernel_rfl)
theorem m74_3 {j74_l1 dj74_l1 : A2} (hj74_l1 : L2 j74_l1 dj74_l1) : L2 (b74_3 j74_l1) (b74_3 dj74_l1) := fun _ _ _ =>
  hj74_l1 _ _ _
def b74_5 (cV : AV → List AV → Hp → Res) (x7 x9 : AV) (H : Hp) : Res :=
  bnd (cV x9 [x7] H) fun r68 =>
  some (r68.1, r68.2)
theorem e74_5 (H0 : Hp) (x7 x9 : AV) (H : Hp) : j74_5 H0 x7 x9 H = b74_5 (acall cfg (callw cfg)) x7 x9 H := (CXM_eq [2, 14, 17, 18, 19] _ _ _ _).trans (by kernel_rfl)
theorem m74_5 {cV dcV : AV → List AV → Hp → Res} (hcV : LV cV dcV) : L2 (b74_5 cV) (b74_5 dcV) := fun _ _ _ =>
  bC (hcV _ _ _) fun _ => le_refl _
def b74_4 (j74_5 : A2) (x0 x5 x7 : AV) (H : Hp) : Res :=
  bnd (some (.fn (.func 97) [x0] [])) fun t61 =>
  bnd (ibin .eql x5 (.int .u8 116)) fun t63 =>
  cnd t63
    (bnd (some (.fn (.func 98) [x0] [])) fun t65 =>
    j74_5 x7 t65 H)
    (j74_5 x7 t61 H)
theorem e74_4 (H0 : Hp) (x0 x5 x7 : AV) (H : Hp) : j74_4 H0 x0 x5 x7 H = b74_4 (j74_5 H0) x0 x5 x7 H := (CXM_eq [2, 14, 17, 18, 19] _ _ _ _).trans (by kernel_rfl)
theorem m74_4 {j74_5 dj74_5 : A2} (hj74_5 : L2 j74_5 dj74_5) : L3 (b74_4 j74_5) (b74_4 dj74_5) := fun _ _ _ _ =>
  bR fun _ => bR fun _ => bK (bR fun _ => hj74_5 _ _ _) (hj74_5 _ _ _)
def b74_2 (c96 : A2) (q95 : A1) (j74_3 : A2) (j74_4 : A3) (x0 x1 : AV) (H : Hp) : Res :=
  bnd (aindexStr x1 (.int .i64 0)) fun t13 =>
  bnd (asliceS x1 (some (.int .i64 1)) none none) fun t15 =>
  bnd (q95 t13 H) fun r18 =>
  bnd (ibin .neq r18.1 (.int .i64 0)) fun t19 =>
  cnd t19
    (bnd (anil x0) fun t21 =>
    bnd (afield 0 t21) fun t22 =>
    bnd (afield 2 t22) fun t23 =>
    bnd (aload false 1 t23 r18.2) fun t24 =>
    bnd (q95 t13 r18.2) fun r26 =>
    bnd (ibin .or t24 r26.1) fun t27 =>
    bnd (anil x0) fun t28 =>
    bnd (afield 0 t28) fun t29 =>
    bnd (afield 2 t29) fun t30 =>
    bnd (astoreU 1 t30 t27 r26.2) fun r_14 =>
    j74_3 x0 t15 r_14.2)
    (bnd (ibin .eql t13 (.int .u8 117)) fun t33 =>
    cnd t33
      (bnd (anil x0) fun t35 =>
      bnd (afield 0 t35) fun t36 =>
      bnd (afield 3 t36) fun t37 =>
      bnd (astoreU 1 t37 (.bool true) r18.2) fun r_19 =>
      j74_3 x0 t15 r_19.2)
      (bnd (ibin .eql t13 (.int .u8 115)) fun t40 =>
      cnd t40
        (bnd (anil x0) fun t42 =>
        bnd (afield 0 t42) fun t43 =>
        bnd (afield 4 t43) fun t44 =>
        bnd (astoreU 1 t44 (.bool true) r18.2) fun r_24 =>
        j74_3 x0 t15 r_24.2)
        (bnd (ibin .eql t13 (.int .u8 116)) fun t47 =>
        bnd (gdv t47 false (.tuple []) (some t13)) fun t49 =>
        bnd (gdv t47 false (.tuple []) (ibin .eql t49 (.int .u8 107))) fun t50 =>
        bnd (apick t47 (.bool true) t50) fun t51 =>
        cnd t51
          (bnd (c96 x0 t15 r18.2) fun r55 =>
          bnd (aext r55.1 0) fun t56 =>
          bnd (aext r55.1 1) fun t57 =>
          bnd (aun .not t57) fun t59 =>
          cnd t59
            (some ((.int .i64 18), r55.2))
            (j74_4 x0 t13 t56 r55.2))
          (some ((.int .i64 18), r18.2)))))
theorem e74_2 (H0 : Hp) (x0 x1 : AV) (H : Hp) : j74_2 H0 x0 x1 H = b74_2 c96 q95 (j74_3 H0) (j74_4 H0) x0 x1 H := (CXM_eq [2, 14, 17, 18, 19] _ _ _ _).trans (by kernel_rfl)
theorem m74_2 {c96 dc96 : A2} (hc96 : L2 c96 dc96) {q95 dq95 : A1} (hq95 : L1 q95 dq95) {j74_3 dj74_3 : A2} (hj74_3 : L2 j74_3 dj74_3) {j74_4 dj74_4 : A3} (hj74_4 : L3 j74_4 dj74_4) : L2 (b74_2 c96 q95 j74_3 j74_4) (b74_2 dc96 dq95 dj74_3 dj74_4) := fun _ _ _ =>
  bR fun _ => bR fun _ => bC (hq95 _ _) fun _ => bR fun _ => bK (bR fun _ => bR fun _ => bR fun _ => bR fun _ => bC (hq95 _ _) fun _ => bR fun _ => bR fun _ => bR fun _ => bR fun _ => bR fun _ => hj74_3 _ _ _) (bR fun _ => bK (bR fun _ => bR fun _ => bR fun _ => bR fun _ => hj74_3 _ _ _) (bR fun _ => bK (bR fun _ => bR fun _ => bR fun _ => bR fun _ => hj74_3 _ _ _) (bR fun _ => bR fun _ => bR fun _ => bR fun _ => bK (bC (hc96 _ _ _) fun _ => bR fun _ => bR fun _ => bR fun _ => bK (le_refl _) (hj74_4 _ _ _ _)) (le_refl _))))
def b74_l1 (j74_1 : A0) (j74_2 : A2) (x0 x1 : AV) (H : Hp) : Res :=
  bnd (sbin .neq x1 (.str [])) fun t11 =>
  cnd t11
    (j74_2 x0 x1 H)
    (j74_1 H)
theorem e74_l1 (H0 : Hp) (x0 x1 : AV) (H : Hp) : j74_l1 H0 x0 x1 H = b74_l1 (j74_1 H0) (j74_2 H0) x0 x1 H := (LPL_eqm (C := cfg) [2, 14, 17, 18, 19] (tame_block 0 (k74_1_tame H0)) _ _).trans (by kernel_rfl)
theorem m74_l1 {j74_1 dj74_1 : A0} (hj74_1 : L0 j74_1 dj74_1) {j74_2 dj74_2 : A2} (hj74_2 : L2 j74_2 dj74_2) : L2 (b74_l1 j74_1 j74_2) (b74_l1 dj74_1 dj74_2) := fun _ _ _ =>
  bR fun _ => bK (hj74_2 _ _ _) (hj74_1 _)
def rj74_1 (gV : AV → List AV → Hp → Res) : A0 := b74_1
theorem sj74_1 (H0 : Hp) {gV : AV → List AV → Hp → Res} (hV : LV gV (acall cfg (callw cfg))) : L0 (rj74_1 gV) (j74_1 H0) := fun _ => le_eq (m74_1 _) (e74_1 H0 _)
def rj74_3 (gV : AV → List AV → Hp → Res) (j74_l1 : A2) : A2 := b74_3 j74_l1
theorem sj74_3 (H0 : Hp) {gV : AV → List AV → Hp → Res} (hV : LV gV (acall cfg (callw cfg))) {yj74_l1 : A2} (hj74_l1 : L2 yj74_l1 (j74_l1 H0)) : L2 (rj74_3 gV yj74_l1) (j74_3 H0) := fun _ _ _ => le_eq (m74_3 hj74_l1 _ _ _) (e74_3 H0 _ _ _)
def rj74_5 (gV : AV → List AV → Hp → Res) : A2 := b74_5 gV
theorem sj74_5 (H0 : Hp) {gV : AV → List AV → Hp → Res} (hV : LV gV (acall cfg (callw cfg))) : L2 (rj74_5 gV) (j74_5 H0) := fun _ _ _ => le_eq (m74_5 hV _ _ _) (e74_5 H0 _ _ _)
def rj74_4 (gV : AV → List AV → Hp → Res) : A3 := b74_4 (rj74_5 gV)
theorem sj74_4 (H0 : Hp) {gV : AV → List AV → Hp → Res} (hV : LV gV (acall cfg (callw cfg))) : L3 (rj74_4 gV) (j74_4 H0) := fun _ _ _ _ => le_eq (m74_4 (sj74_5 H0 hV) _ _ _ _) (e74_4 H0 _ _ _ _)
def rj74_2 (gV : AV → List AV → Hp → Res) (j74_l1 : A2) : A2 := b74_2 rc96 rq95 (rj74_3 gV j74_l1) (rj74_4 gV)
theorem sj74_2 (H0 : Hp) {gV : AV → List AV → Hp → Res} (hV : LV gV (acall cfg (callw cfg))) {yj74_l1 : A2} (hj74_l1 : L2 yj74_l1 (j74_l1 H0)) : L2 (rj74_2 gV yj74_l1) (j74_2 H0) := fun _ _ _ => le_eq (m74_2 sc96 sq95 (sj74_3 H0 hV hj74_l1) (sj74_4 H0 hV) _ _ _) (e74_2 H0 _ _ _)
def rj74_l1 (gV : AV → List AV → Hp → Res) (n : Nat) : A2 := @Nat.rec (fun _ => A2) (fun _ _ _ => none) (fun _ j74_l1 => b74_l1 (rj74_1 gV) (rj74_2 gV j74_l1)) n
theorem sj74_l1 (H0 : Hp) {gV : AV → List AV → Hp → Res} (hV : LV gV (acall cfg (callw cfg))) (n : Nat) : L2 (rj74_l1 gV n) (j74_l1 H0) := by
  induction n with
  | zero => exact fun _ _ _ => le_none _
  | succ n hj74_l1 => exact fun _ _ _ => le_eq (m74_l1 (sj74_1 H0 hV) (sj74_2 H0 hV hj74_l1) _ _ _) (e74_l1 H0 _ _ _)
def bc74 (j74_l1 : A2) (p0 p1 : AV) (H : Hp) : Res :=
  j74_l1 p0 p1 H
theorem ec74 (p0 p1 : AV) (H : Hp) : c74 p0 p1 H = bc74 (j74_l1 H) p0 p1 H := (callw_cxm (C := cfg) (fn := Tryz.f74) (c := bodyOf Tryz.f74) (n := 70) [2, 14, 17, 18, 19] Tryz.func74 (by kernel_rfl) (by kernel_rfl) [p0, p1] (by kernel_rfl) H).trans (by kernel_rfl)
theorem mc74 {j74_l1 dj74_l1 : A2} (hj74_l1 : L2 j74_l1 dj74_l1) : L2 (bc74 j74_l1) (bc74 dj74_l1) := fun _ _ _ =>
  hj74_l1 _ _ _
def rc74 (gV : AV → List AV → Hp → Res) : A2 := fun p0 p1 H => bc74 (rj74_l1 gV 100000) p0 p1 H
theorem sc74 {gV : AV → List AV → Hp → Res} (hV : LV gV (acall cfg (callw cfg))) : L2 (rc74 gV) c74 := fun _ _ H => le_eq (mc74 (sj74_l1 H hV 100000) _ _ _) (ec74 _ _ _)

def c48 (p0 : AV) (H : Hp) : Res := callw cfg 48 [p0] H
def j48_1 (H0 : Hp) (x0 x2 x6 : AV) (H : Hp) : Res := CXf 48 77 (sub (bodyOf Tryz.f48) [1, 1, 1]) (retL cfg 77 48 Tryz.f48 H0) [(0, x0), (2, x2), (6, x6)] H
def k48_1 (H0 : Hp) : KL := seqL (fun k al H => CXf 48 77 (sub (bodyOf Tryz.f48) [1, 1, 1]) k (trimL (cfg.keep 48) (sub (bodyOf Tryz.f48) [1, 1, 1]) al) H) (retL cfg 77 48 Tryz.f48 H0)
theorem k48_1_tame (H0 : Hp) : Tame 77 (k48_1 H0) := tame_seq (C := cfg) (kp := cfg.keep 48) (sub (bodyOf Tryz.f48) [1, 1, 1]) (tame_ret 48 Tryz.f48 H0)
def j48_3 (H0 : Hp) (x0 x2 x6 : AV) (H : Hp) : Res := CXf 48 77 (sub (bodyOf Tryz.f48) [1, 1, 0, 0, 0, 1, 1]) (seqL (fun k al H => LPf 48 77 (sub (bodyOf Tryz.f48) [1, 1, 0, 0, 0]) k (trimL (cfg.keep 48) (sub (bodyOf Tryz.f48) [1, 1, 0, 0, 0]) al) H) (blockL 0 (k48_1 H0))) [(0, x0), (2, x2), (6, x6)] H
def k48_2 (H0 : Hp) : KL := seqL (fun k al H => CXf 48 77 (sub (bodyOf Tryz.f48) [1, 1, 0, 0, 0, 1, 1]) k (trimL (cfg.keep 48) (sub (bodyOf Tryz.f48) [1, 1, 0, 0, 0, 1, 1]) al) H) (seqL (fun k al H => LPf 48 77 (sub (bodyOf Tryz.f48) [1, 1, 0, 0, 0]) k (trimL (cfg.keep 48) (sub (bodyOf Tryz.f48) [1, 1, 0, 0, 0]) al) H) (blockL 0 (k48_1 H0)))
def j48_5 (H0 : Hp) (x0 x2 x6 x7 : AV) (H : Hp) : Res := CXf 48 77 (sub (bodyOf Tryz.f48) [1, 1, 0, 0, 0, 1, 0, 0, 1, 1, 1]) (blockL 1 (k48_2 H0)) [(0, x0), (2, x2), (6, x6), (7, x7)] H
def j48_4 (H0 : Hp) (x0 x2 x6 x7 : AV) (H : Hp) : Res := CXf 48 77 (sub (bodyOf Tryz.f48) [1, 1, 0, 0, 0, 1, 0, 0, 1, 1]) (blockL 1 (k48_2 H0)) [(0, x0), (2, x2), (6, x6), (7, x7)] H
def j48_2 (H0 : Hp) (x0 x2 x6 : AV) (H : Hp) : Res := CXf 48 77 (sub (bodyOf Tryz.f48) [1, 1, 0, 0, 0, 1]) (seqL (fun k al H => LPf 48 77 (sub (bodyOf Tryz.f48) [1, 1, 0, 0, 0]) k (trimL (cfg.keep 48) (sub (bodyOf Tryz.f48) [1, 1, 0, 0, 0]) al) H) (blockL 0 (k48_1 H0))) [(0, x0), (2, x2), (6, x6)] H
def j48_l1 (H0 : Hp) (x0 x2 x6 : AV) (H : Hp) : Res := LPf 48 77 (sub (bodyOf Tryz.f48) [1, 1, 0, 0, 0]) (blockL 0 (k48_1 H0)) [(0, x0), (2, x2), (6, x6)] H
def b48_1 (x0 x2 x6 : AV) (H : Hp) : Res :=
  bnd (anil x6) fun t67 =>
  bnd (afield 6 t67) fun t68 =>
  bnd (aload false 1 t68 H) fun t69 =>
  bnd (asliceV 1 x0 (some t69) none none) fun t70 =>
  bnd (aappE 1 16 .nils t70 H) fun r71 =>
  bnd (anil x6) fun t73 =>
  bnd (afield 0 t73) fun t74 =>
  bnd (aload true 5 t74 r71.2) fun t75 =>
  bnd (astoreU 5 x2 t75 r71.2) fun r_13 =>
  bnd (aload true 5 x2 r_13.2) fun v2 =>
  some ((.tuple [v2, r71.1, (.int .i64 0), (.int .i64 0)]), r_13.2)
theorem e48_1 (H0 : Hp) (x0 x2 x6 : AV) (H : Hp) : j48_1 H0 x0 x2 x6 H = b48_1 x0 x2 x6 H := (CXM_eq [3, 4, 7, 8, 11] _ _ _ _).trans (by kernel_rfl)
theorem m48_1 : L3 (b48_1) (b48_1) := fun _ _ _ _ =>
  bR fun _ => bR fun _ => bR fun _ => bR fun _ => bR fun _ => bR fun _ => bR fun _ => bR fun _ => bR fun _ => bR fun _ => le_refl _
def b48_3 (j48_l1 : A3) (x0 x2 x6 : AV) (H : Hp) : Res :=
  bnd (anil x6) fun t22 =>
  bnd (afield 6 t22) fun t23 =>
  bnd (aload false 1 t23 H) fun t24 =>
  bnd (ibin .add t24 (.int .i64 1)) fun t25 =>
  bnd (anil x6) fun t26 =>
  bnd (afield 6 t26) fun t27 =>
  bnd (astoreU 1 t27 t25 H) fun r_21 =>
  j48_l1 x0 x2 x6 r_21.2
theorem e48_3 (H0 : Hp) (x0 x2 x6 : AV) (H : Hp) : j48_3 H0 x0 x2 x6 H = b48_3 (j48_l1 H0) x0 x2 x6 H := (CXM_eq [3, 4, 7, 8, 11] _ _ _ _).trans (by kernel_rfl)
theorem m48_3 {j48_l1 dj48_l1 : A3} (hj48_l1 : L3 j48_l1 dj48_l1) : L3 (b48_3 j48_l1) (b48_3 dj48_l1) := fun _ _ _ _ =>
  bR fun _ => bR fun _ => bR fun _ => bR fun _ => bR fun _ => bR fun _ => bR fun _ => hj48_l1 _ _ _ _
def b48_5 (c74 : A2) (j48_3 : A3) (x0 x2 x6 x7 : AV) (H : Hp) : Res :=
  bnd (asliceS x7 (some (.int .i64 1)) none none) fun t54 =>
  bnd (c74 x6 t54 H) fun r55 =>
  bnd (ibin .neq r55.1 (.int .i64 0)) fun t57 =>
  cnd t57
    (frzK x6 r55.2 fun z6 z6H =>
    bnd (some (.agg [.nils, (.int .i64 0), (.int .i64 0), (.bool false), (.bool false)])) fun t58 =>
    bnd (anil z6) fun t61 =>
    bnd (afield 6 t61) fun t62 =>
    bnd (aloadv false 1 t62) fun t63 =>
    bnd (astoreU 5 x2 t58 z6H) fun r_35 =>
    bnd (aload true 5 x2 r_35.2) fun v2 =>
    some ((.tuple [v2, .nils, r55.1, t63]), r_35.2))
    (j48_3 x0 x2 x6 r55.2)
theorem e48_5 (H0 : Hp) (x0 x2 x6 x7 : AV) (H : Hp) : j48_5 H0 x0 x2 x6 x7 H = b48_5 c74 (j48_3 H0) x0 x2 x6 x7 H := (CXM_eq [3, 4, 7, 8, 11] _ _ _ _).trans (by kernel_rfl)
theorem m48_5 {c74 dc74 : A2} (hc74 : L2 c74 dc74) {j48_3 dj48_3 : A3} (hj48_3 : L3 j48_3 dj48_3) : L4 (b48_5 c74 j48_3) (b48_5 dc74 dj48_3) := fun _ _ _ _ _ =>
  bR fun _ => bC (hc74 _ _ _) fun _ => bR fun _ => bK (bF fun _ _ => bR fun _ => bR fun _ => bR fun _ => bR fun _ => bR fun _ => bR fun _ => le_refl _) (hj48_3 _ _ _ _)
def b48_4 (j48_1 : A3) (j48_5 : A4) (x0 x2 x6 x7 : AV) (H : Hp) : Res :=
  bnd (alenD .string x7) fun t45 =>
  bnd (ibin .lss t45 (.int .i64 2)) fun t46 =>
  bnd (gdv t46 false (.tuple []) (some x7)) fun t48 =>
  bnd (gdv t46 false (.tuple []) (aindexStr t48 (.int .i64 0))) fun t49 =>
  bnd (gdv t46 false (.tuple []) (ibin .neq t49 (.int .u8 45))) fun t50 =>
  bnd (apick t46 (.bool true) t50) fun t51 =>
  cnd t51
    (j48_1 x0 x2 x6 H)
    (j48_5 x0 x2 x6 x7 H)
theorem e48_4 (H0 : Hp) (x0 x2 x6 x7 : AV) (H : Hp) : j48_4 H0 x0 x2 x6 x7 H = b48_4 (j48_1 H0) (j48_5 H0) x0 x2 x6 x7 H := (CXM_eq [3, 4, 7, 8, 11] _ _ _ _).trans (by kernel_rfl)
theorem m48_4 {j48_1 dj48_1 : A3} (hj48_1 : L3 j48_1 dj48_1) {j48_5 dj48_5 : A4} (hj48_5 : L4 j48_5 dj48_5) : L4 (b48_4 j48_1 j48_5) (b48_4 dj48_1 dj48_5) := fun _ _ _ _ _ =>
  bR fun _ => bR fun _ => bR fun _ => bR fun _ => bR fun _ => bR fun _ => bK (hj48_1 _ _ _ _) (hj48_5 _ _ _ _ _)
def b48_2 (j48_1 : A3) (j48_4 : A4) (x0 x2 x6 : AV) (H : Hp) : Res :=
  bnd (anil x6) fun t30 =>
  bnd (afield 6 t30) fun t31 =>
  bnd (aload false 1 t31 H) fun t32 =>
  bnd (aindexS 1 x0 t32) fun t33 =>
  bnd (aload false 1 t33 H) fun t34 =>
  bnd (sbin .eql t34 (.str [45, 45])) fun t36 =>
  cnd t36
    (bnd (anil x6) fun t38 =>
    bnd (afield 6 t38) fun t39 =>
    bnd (aload false 1 t39 H) fun t40 =>
    bnd (ibin .add t40 (.int .i64 1)) fun t41 =>
    bnd (anil x6) fun t42 =>
    bnd (afield 6 t42) fun t43 =>
    bnd (astoreU 1 t43 t41 H) fun r_50 =>
    j48_1 x0 x2 x6 r_50.2)
    (j48_4 x0 x2 x6 t34 H)
theorem e48_2 (H0 : Hp) (x0 x2 x6 : AV) (H : Hp) : j48_2 H0 x0 x2 x6 H = b48_2 (j48_1 H0) (j48_4 H0) x0 x2 x6 H := (CXM_eq [3, 4, 7, 8, 11] _ _ _ _).trans (by kernel_rfl)
theorem m48_2 {j48_1 dj48_1 : A3} (hj48_1 : L3 j48_1 dj48_1) {j48_4 dj48_4 : A4} (hj48_4 : L4 j48_4 dj48_4) : L3 (b48_2 j48_1 j48_4) (b48_2 dj48_1 dj48_4) := fun _ _ _ _ =>
  bR fun _ => bR fun _ => bR fun _ => bR fun _ => bR fun _ => bR fun _ => bK (bR fun _ => bR fun _ => bR fun _ => bR fun _ => bR fun _ => bR fun _ => bR fun _ => hj48_1 _ _ _ _) (hj48_4 _ _ _ _ _)
def b48_l1 (j48_1 : A3) (j48_2 : A3) (x0 x2 x6 : AV) (H : Hp) : Res :=
  bnd (anil x6) fun t15 =>
  bnd (afield 6 t15) fun t16 =>
  bnd (aload false 1 t16 H) fun t17 =>
  bnd (alenD (.slice 9) x0) fun t19 =>
  bnd (ibin .lss t17 t19) fun t20 =>
  cnd t20
    (j48_2 x0 x2 x6 H)
    (j48_1 x0 x2 x6 H)
theorem e48_l1 (H0 : Hp) (x0 x2 x6 : AV) (H : Hp) : j48_l1 H0 x0 x2 x6 H = b48_l1 (j48_1 H0) (j48_2 H0) x0 x2 x6 H := (LPL_eqm (C := cfg) [3, 4, 7, 8, 11] (tame_block 0 (k48_1_tame H0)) _ _).trans (by kernel_rfl)
theorem m48_l1 {j48_1 dj48_1 : A3} (hj48_1 : L3 j48_1 dj48_1) {j48_2 dj48_2 : A3} (hj48_2 : L3 j48_2 dj48_2) : L3 (b48_l1 j48_1 j48_2) (b48_l1 dj48_1 dj48_2) := fun _ _ _ _ =>
  bR fun _ => bR fun _ => bR fun _ => bR fun _ => bR fun _ => bK (hj48_2 _ _ _ _) (hj48_1 _ _ _ _)
def rj48_1 (gV : AV → List AV → Hp → Res) : A3 := b48_1
theorem sj48_1 (H0 : Hp) {gV : AV → List AV → Hp → Res} (hV : LV gV (acall cfg (callw cfg))) : L3 (rj48_1 gV) (j48_1 H0) := fun _ _ _ _ => le_eq (m48_1 _ _ _ _) (e48_1 H0 _ _ _ _)
def rj48_3 (gV : AV → List AV → Hp → Res) (j48_l1 : A3) : A3 := b48_3 j48_l1
theorem sj48_3 (H0 : Hp) {gV : AV → List AV → Hp → Res} (hV : LV gV (acall cfg (callw cfg))) {yj48_l1 : A3} (hj48_l1 : L3 yj48_l1 (j48_l1 H0)) : L3 (rj48_3 gV yj48_l1) (j48_3 H0) := fun _ _ _ _ => le_eq (m48_3 hj48_l1 _ _ _ _) (e48_3 H0 _ _ _ _)
def rj48_5 (gV : AV → List AV → Hp → Res) (j48_l1 : A3) : A4 := b48_5 (rc74 gV) (rj48_3 gV j48_l1)
theorem sj48_5 (H0 : Hp) {gV : AV → List AV → Hp → Res} (hV : LV gV (acall cfg (callw cfg))) {yj48_l1 : A3} (hj48_l1 : L3 yj48_l1 (j48_l1 H0)) : L4 (rj48_5 gV yj48_l1) (j48_5 H0) := fun _ _ _ _ _ => le_eq (m48_5 (sc74 hV) (sj48_3 H0 hV hj48_l1) _ _ _ _ _) (e48_5 H0 _ _ _ _ _)
def rj48_4 (gV : AV → List AV → Hp → Res) (j48_l1 : A3) : A4 := b48_4 (rj48_1 gV) (rj48_5 gV j48_l1)
theorem sj48_4 (H0 : Hp) {gV : AV → List AV → Hp → Res} (hV : LV gV (acall cfg (callw cfg))) {yj48_l1 : A3} (hj48_l1 : L3 yj48_l1 (j48_l1 H0)) : L4 (rj48_4 gV yj48_l1) (j48_4 H0) := fun _ _ _ _ _ => le_eq (m48_4 (sj48_1 H0 hV) (sj48_5 H0 hV hj48_l1) _ _ _ _ _) (e48_4 H0 _ _ _ _ _)
def rj48_2 (gV : AV → List AV → Hp → Res) (j48_l1 : A3) : A3 := b48_2 (rj48_1 gV) (rj48_4 gV j48_l1)
theorem sj48_2 (H0 : Hp) {gV : AV → List AV → Hp → Res} (hV : LV gV (acall cfg (callw cfg))) {yj48_l1 : A3} (hj48_l1 : L3 yj48_l1 (j48_l1 H0)) : L3 (rj48_2 gV yj48_l1) (j48_2 H0) := fun _ _ _ _ => le_eq (m48_2 (sj48_1 H0 hV) (sj48_4 H0 hV hj48_l1) _ _ _ _) (e48_2 H0 _ _ _ _)
def rj48_l1 (gV : AV → List AV → Hp → Res) (n : Nat) : A3 := @Nat.rec (fun _ => A3) (fun _ _ _ _ => none) (fun _ j48_l1 => b48_l1 (rj48_1 gV) (rj48_2 gV j48_l1)) n
theorem sj48_l1 (H0 : Hp) {gV : AV → List AV → Hp → Res} (hV : LV gV (acall cfg (callw cfg))) (n : Nat) : L3 (rj48_l1 gV n) (j48_l1 H0) := by
  induction n with
  | zero => exact fun _ _ _ _ => le_none _
  | succ n hj48_l1 => exact fun _ _ _ _ => le_eq (m48_l1 (sj48_1 H0 hV) (sj48_2 H0 hV hj48_l1) _ _ _ _) (e48_l1 H0 _ _ _ _)
def bc48 (j48_l1 : A3) (p0 : AV) (H : Hp) : Res :=
  bnd (some ((.ptr H.length 0), H ++ [.cells [.nils, (.int .i64 0), (.int .i64 0), (.bool false), (.bool false)]])) fun r2 =>
  bnd ((afill [(1, 1, (.int .i64 (-1)))] [.nils, (.int .i64 0), (.int .i64 0), (.bool false), (.bool false)]).map .agg) fun t10 =>
  bnd ((afill [(0, 5, t10), (5, 1, p0)] [.nils, (.int .i64 0), (.int .i64 0), (.bool false), (.bool false), .nils, (.int .i64 0)]).map .agg) fun t12 =>
  bnd (abox t12 r2.2) fun r13 =>
  j48_l1 p0 r2.1 r13.1 r13.2
theorem ec48 (p0 : AV) (H : Hp) : c48 p0 H = bc48 (j48_l1 H) p0 H := (callw_cxm (C := cfg) (fn := Tryz.f48) (c := bodyOf Tryz.f48) (n := 77) [3, 4, 7, 8, 11] Tryz.func48 (by kernel_rfl) (by kernel_rfl) [p0] (by kernel_rfl) H).trans (by kernel_rfl)
theorem mc48 {j48_l1 dj48_l1 : A3} (hj48_l1 : L3 j48_l1 dj48_l1) : L1 (bc48 j48_l1) (bc48 dj48_l1) := fun _ _ =>
  bR fun _ => bR fun _ => bR fun _ => bR fun _ => hj48_l1 _ _ _ _
def rc48 (gV : AV → List AV → Hp → Res) : A1 := fun p0 H => bc48 (rj48_l1 gV 100000) p0 H
theorem sc48 {gV : AV → List AV → Hp → Res} (hV : LV gV (acall cfg (callw cfg))) : L1 (rc48 gV) c48 := fun _ H => le_eq (mc48 (sj48_l1 H hV 100000) _ _) (ec48 _ _)

def c21 (H : Hp) : Res := callw cfg 21 [] H
def j21_1 (H0 : Hp) (x1 x2 : AV) (H : Hp) : Res := CXf 21 57 (sub (bodyOf Tryz.f21) [1, 1, 1, 1]) (retL cfg 57 21 Tryz.f21 H0) [(1, x1), (2, x2)] H
def b21_1 (c41 : A3) (q17 : A4) (q19 : A4) (x1 x2 : AV) (H : Hp) : Res :=
  bnd ((afill [(0, 1, (.int .i64 2)), (1, 1, (.int .i64 2)), (2, 1, (.int .i64 3)), (3, 1, (.int .i64 1))] [(.int .i64 0), (.int .i64 0), (.int .i64 0), (.int .i64 0), (.int .i64 0)]).map .agg) fun t33 =>
  bnd (some ((.ptr H.length 0), H ++ [.cells [(.int .i64 0), (.int .i64 0), (.int .i64 0), (.int .i64 0), (.int .i64 0)]])) fun r6 =>
  bnd (astoreU 5 r6.1 t33 r6.2) fun r_14 =>
  bnd (afield 0 x2) fun t34 =>
  bnd (aload false 1 t34 r_14.2) fun t35 =>
  bnd (aindexS 5 t35 (.int .i64 0)) fun t36 =>
  bnd (aload true 5 t36 r_14.2) fun t37 =>
  bnd ((afill [(0, 1, (.int .i64 2)), (1, 1, (.int .i64 1)), (2, 1, (.int .i64 2)), (4, 1, (.int .i64 2))] [(.int .i64 0), (.int .i64 0), (.int .i64 0), (.int .i64 0), (.int .i64 0)]).map .agg) fun t38 =>
  bnd (aeqBin Tryz.prog cfg.eqok .eql 58 t37 t38) fun t39 =>
  bnd (gdv t39 true (.tuple []) (aload true 5 r6.1 r_14.2)) fun t41 =>
  bnd (gdv t39 true ((.tuple []), r_14.2) (c41 (.str [97, 98, 58, 99, 100, 58, 101, 102]) t41 (.int .i64 58) r_14.2)) fun r42 =>
  bnd (gdv t39 true (.tuple []) (sbin .eql r42.1 (.str [100, 58, 101]))) fun t43 =>
  bnd (apick t39 t43 (.bool false)) fun t44 =>
  bnd (gdv t44 true (.tuple []) (aload true 6 x1 r42.2)) fun t46 =>
  bnd (gdv t44 true (.tuple []) ((afill [(1, 1, (.int .i64 (-1)))] [.nils, (.int .i64 0), (.int .i64 0), (.bool false), (.bool false)]).map .agg)) fun t47 =>
  bnd (gdv t44 true ((.tuple []), r42.2) (q19 t46 t47 (.str [49, 48]) (.str [57]) r42.2)) fun r48 =>
  bnd (gdv t44 true (.tuple []) (ibin .eql r48.1 (.int .i64 (-1)))) fun t49 =>
  bnd (apick t44 t49 (.bool false)) fun t50 =>
  bnd (gdv t50 true (.tuple []) (aload true 6 x1 r48.2)) fun t52 =>
  bnd (gdv t50 true (.tuple []) ((afill [(1, 1, (.int .i64 (-1))), (2, 1, (.int .i64 1))] [.nils, (.int .i64 0), (.int .i64 0), (.bool false), (.bool false)]).map .agg)) fun t53 =>
  bnd (gdv t50 true ((.tuple []), r48.2) (q17 t52 t53 (.str [49, 48]) (.str [57]) r48.2)) fun r54 =>
  bnd (gdv t50 true (.tuple []) (ibin .eql r54.1 (.int .i64 1))) fun t55 =>
  bnd (apick t50 t55 (.bool false)) fun t56 =>
  some (t56, r54.2)
theorem e21_1 (H0 : Hp) (x1 x2 : AV) (H : Hp) : j21_1 H0 x1 x2 H = b21_1 c41 q17 q19 x1 x2 H := (CXM_eq [5] _ _ _ _).trans (by kernel_rfl)
theorem m21_1 {c41 dc41 : A3} (hc41 : L3 c41 dc41) {q17 dq17 : A4} (hq17 : L4 q17 dq17) {q19 dq19 : A4} (hq19 : L4 q19 dq19) : L2 (b21_1 c41 q17 q19) (b21_1 dc41 dq17 dq19) := fun _ _ _ =>
  bR fun _ => bR fun _ => bR fun _ => bR fun _ => bR fun _ => bR fun _ => bR fun _ => bR fun _ => bR fun _ => bR fun _ => bG (hc41 _ _ _ _) fun _ => bR fun _ => bR fun _ => bR fun _ => bR fun _ => bG (hq19 _ _ _ _ _) fun _ => bR fun _ => bR fun _ => bR fun _ => bR fun _ => bG (hq17 _ _ _ _ _) fun _ => bR fun _ => bR fun _ => le_refl _
def rj21_1 (gV : AV → List AV → Hp → Res) : A2 := b21_1 rc41 (rq17 gV) (rq19 gV)
theorem sj21_1 (H0 : Hp) {gV : AV → List AV → Hp → Res} (hV : LV gV (acall cfg (callw cfg))) : L2 (rj21_1 gV) (j21_1 H0) := fun _ _ _ => le_eq (m21_1 sc41 (sq17 hV) (sq19 hV) _ _ _) (e21_1 H0 _ _ _)
def bc21 (c48 : A1) (q25 : A0) (j21_1 : A2) (H : Hp) : Res :=
  bnd (q25 H) fun r7 =>
  bnd (some ((.ptr r7.2.length 0), r7.2 ++ [.cells [(.str []), .nils, (.str []), (.str []), .nils, .nils]])) fun r1 =>
  bnd (astoreU 6 r1.1 r7.1 r1.2) fun r_3 =>
  bnd ((setElems 1 [(0, (.str [45, 110, 107])), (1, (.str [50, 46, 49, 114, 44, 50])), (2, (.str [120]))] [(.str []), (.str []), (.str [])]).map (.vs 1 .clip)) fun t9 =>
  bnd (c48 t9 r_3.2) fun r10 =>
  bnd (aext r10.1 0) fun t11 =>
  bnd (aext r10.1 1) fun t12 =>
  bnd (aext r10.1 2) fun t13 =>
  bnd (aext r10.1 3) fun t14 =>
  bnd (some ((.ptr r10.2.length 0), r10.2 ++ [.cells [.nils, (.int .i64 0), (.int .i64 0), (.bool false), (.bool false)]])) fun r2 =>
  bnd (astoreU 5 r2.1 t11 r2.2) fun r_11 =>
  bnd (ibin .neq t13 (.int .i64 0)) fun t16 =>
  bnd (gdv t16 false (.tuple []) (afield 0 r2.1)) fun t18 =>
  bnd (gdv t16 false (.tuple []) (aload false 1 t18 r_11.2)) fun t19 =>
  bnd (gdv t16 false (.tuple []) (alenD (.slice 58) t19)) fun t20 =>
  bnd (gdv t16 false (.tuple []) (ibin .neq t20 (.int .i64 1))) fun t21 =>
  bnd (apick t16 (.bool true) t21) fun t22 =>
  bnd (gdv t22 false (.tuple []) (some t12)) fun t24 =>
  bnd (gdv t22 false (.tuple []) (alenD (.slice 9) t24)) fun t25 =>
  bnd (gdv t22 false (.tuple []) (ibin .neq t25 (.int .i64 1))) fun t26 =>
  bnd (apick t22 (.bool true) t26) fun t27 =>
  bnd (gdv t27 false (.tuple []) (afield 2 r2.1)) fun t29 =>
  bnd (gdv t27 false (.tuple []) (aload false 1 t29 r_11.2)) fun t30 =>
  bnd (gdv t27 false (.tuple []) (ibin .neq t30 (.int .i64 1))) fun t31 =>
  bnd (apick t27 (.bool true) t31) fun t32 =>
  cnd t32
    (some ((.bool false), r_11.2))
    (j21_1 r1.1 r2.1 r_11.2)
theorem ec21 (H : Hp) : c21 H = bc21 c48 q25 (j21_1 H) H := (callw_cxm (C := cfg) (fn := Tryz.f21) (c := bodyOf Tryz.f21) (n := 57) [5] Tryz.func21 (by kernel_rfl) (by kernel_rfl) [] (by kernel_rfl) H).trans (by kernel_rfl)
theorem mc21 {c48 dc48 : A1} (hc48 : L1 c48 dc48) {q25 dq25 : A0} (hq25 : L0 q25 dq25) {j21_1 dj21_1 : A2} (hj21_1 : L2 j21_1 dj21_1) : L0 (bc21 c48 q25 j21_1) (bc21 dc48 dq25 dj21_1) := fun _ =>
  bC (hq25 _) fun _ => bR fun _ => bR fun _ => bR fun _ => bC (hc48 _ _) fun _ => bR fun _ => bR fun _ => bR fun _ => bR fun _ => bR fun _ => bR fun _ => bR fun _ => bR fun _ => bR fun _ => bR fun _ => bR fun _ => bR fun _ => bR fun _ => bR fun _ => bR fun _ => bR fun _ => bR fun _ => bR fun _ => bR fun _ => bR fun _ => bK (le_refl _) (hj21_1 _ _ _)
def rc21 (gV : AV → List AV → Hp → Res) : A0 := fun H => bc21 (rc48 gV) rq25 (rj21_1 gV) H
theorem sc21 {gV : AV → List AV → Hp → Res} (hV : LV gV (acall cfg (callw cfg))) : L0 (rc21 gV) c21 := fun H => le_eq (mc21 (sc48 hV) sq25 (sj21_1 H hV) _) (ec21 _)
def c53 (p0 p1 p2 p3 p4 : AV) (H : Hp) : Res := callw cfg 53 [p0, p1, p2, p3, p4] H
def bc53 (cV : AV → List AV → Hp → Res) (p0 p1 p2 p3 p4 : AV) (H : Hp) : Res :=
  bnd (aload false 1 p2 H) fun t7 =>
  bnd (ibin .and t7 p0) fun t9 =>
  bnd (ibin .neq t9 (.int .i64 0)) fun t10 =>
  cnd t10
    (bnd (aload false 1 p3 H) fun t12 =>
    bnd (qC cfg cV p1 [t12] H) fun r13 =>
    bnd (aload false 1 p4 r13.2) fun t15 =>
    bnd (qC cfg cV p1 [t15] r13.2) fun r16 =>
    bnd (astoreU 1 p3 r13.1 r16.2) fun r_8 =>
    bnd (astoreU 1 p4 r16.1 r_8.2) fun r_9 =>
    some ((.tuple []), r_9.2))
    (some ((.tuple []), H))
theorem ec53 (p0 p1 p2 p3 p4 : AV) (H : Hp) : c53 p0 p1 p2 p3 p4 H = bc53 (acall cfg (callw cfg)) p0 p1 p2 p3 p4 H := (callw_cxm (C := cfg) (fn := Tryz.f53) (c := bodyOf Tryz.f53) (n := 17) [] Tryz.func53 (by kernel_rfl) (by kernel_rfl) [p0, p1, p2, p3, p4] (by kernel_rfl) H).trans (by kernel_rfl)
theorem mc53 {cV dcV : AV → List AV → Hp → Res} (hcV : LV cV dcV) : L5 (bc53 cV) (bc53 dcV) := fun _ _ _ _ _ _ =>
  bR fun _ => bR fun _ => bR fun _ => bK (bR fun _ => bC (qC_le hcV _ _ _) fun _ => bR fun _ => bC (qC_le hcV _ _ _) fun _ => bR fun _ => bR fun _ => le_refl _) (le_refl _)
def rc53 (gV : AV → List AV → Hp → Res) : A5 := fun p0 p1 p2 p3 p4 H => bc53 gV p0 p1 p2 p3 p4 H
theorem sc53 {gV : AV → List AV → Hp → Res} (hV : LV gV (acall cfg (callw cfg))) : L5 (rc53 gV) c53 := fun _ _ _ _ _ H => le_eq (mc53 hV _ _ _ _ _ _) (ec53 _ _ _ _ _ _)

def c54 (p0 : AV) (H : Hp) : Res := callw cfg 54 [p0] H
def bc54 (p0 : AV) (H : Hp) : Res :=
  bnd (sumC trimA [p0, (.str [32, 9])] H) fun r4 =>
  some (r4.1, r4.2)
theorem ec54 (p0 : AV) (H : Hp) : c54 p0 H = bc54 p0 H := (callw_cxm (C := cfg) (fn := Tryz.f54) (c := bodyOf Tryz.f54) (n := 5) [] Tryz.func54 (by kernel_rfl) (by kernel_rfl) [p0] (by kernel_rfl) H).trans (by kernel_rfl)
theorem mc54 : L1 (bc54) (bc54) := fun _ _ =>
  bR fun _ => le_refl _
def rc54 : A1 := fun p0 H => bc54 p0 H
theorem sc54 : L1 rc54 c54 := fun _ H => le_eq (mc54 _ _) (ec54 _ _)
def c56 (p0 : AV) (H : Hp) : Res := callw cfg 56 [p0] H
def j56_1 (H0 : Hp) (x3 : AV) (H : Hp) : Res := CXf 56 44 (sub (bodyOf Tryz.f56) [1, 1, 1]) (retL cfg 44 56 Tryz.f56 H0) [(3, x3)] H
def k56_1 (H0 : Hp) : KL := seqL (fun k al H => CXf 56 44 (sub (bodyOf Tryz.f56) [1, 1, 1]) k (trimL (cfg.keep 56) (sub (bodyOf Tryz.f56) [1, 1, 1]) al) H) (retL cfg 44 56 Tryz.f56 H0)
theorem k56_1_tame (H0 : Hp) : Tame 44 (k56_1 H0) := tame_seq (C := cfg) (kp := cfg.keep 56) (sub (bodyOf Tryz.f56) [1, 1, 1]) (tame_ret 56 Tryz.f56 H0)
def j56_3 (H0 : Hp) (x0 x3 x7 x8 : AV) (H : Hp) : Res := CXf 56 44 (sub (bodyOf Tryz.f56) [1, 1, 0, 1, 0, 0, 1, 1, 1]) (seqL (fun k al H => LPf 56 44 (sub (bodyOf Tryz.f56) [1, 1, 0, 1, 0, 0]) k (trimL (cfg.keep 56) (sub (bodyOf Tryz.f56) [1, 1, 0, 1, 0, 0]) al) H) (blockL 0 (k56_1 H0))) [(0, x0), (3, x3), (7, x7), (8, x8)] H
def j56_2 (H0 : Hp) (x0 x3 x7 x8 x9 : AV) (H : Hp) : Res := CXf 56 44 (sub (bodyOf Tryz.f56) [1, 1, 0, 1, 0, 0, 1, 1]) (seqL (fun k al H => LPf 56 44 (sub (bodyOf Tryz.f56) [1, 1, 0, 1, 0, 0]) k (trimL (cfg.keep 56) (sub (bodyOf Tryz.f56) [1, 1, 0, 1, 0, 0]) al) H) (blockL 0 (k56_1 H0))) [(0, x0), (3, x3), (7, x7), (8, x8), (9, x9)] H
def j56_l1 (H0 : Hp) (x0 x3 x7 x8 : AV) (H : Hp) : Res := LPf 56 44 (sub (bodyOf Tryz.f56) [1, 1, 0, 1, 0, 0]) (blockL 0 (k56_1 H0)) [(0, x0), (3, x3), (7, x7), (8, x8)] H
def b56_1 (x3 : AV) (H : Hp) : Res :=
  bnd (stringE.run [x3] H) fun r43 =>
  some (r43.1, r43.2)
theorem e56_1 (H0 : Hp) (x3 : AV) (H : Hp) : j56_1 H0 x3 H = b56_1 x3 H := (CXM_eq [4, 8, 9] _ _ _ _).trans (by kernel_rfl)
theorem m56_1 : L1 (b56_1) (b56_1) := fun _ _ =>
  bR fun _ => le_refl _
def b56_3 (j56_l1 : A4) (x0 x3 x7 x8 : AV) (H : Hp) : Res :=
  bnd (ibin .add x8 (.int .i64 1)) fun t42 =>
  j56_l1 x0 x3 x7 t42 H
theorem e56_3 (H0 : Hp) (x0 x3 x7 x8 : AV) (H : Hp) : j56_3 H0 x0 x3 x7 x8 H = b56_3 (j56_l1 H0) x0 x3 x7 x8 H := (CXM_eq [4, 8, 9] _ _ _ _).trans (by kernel_rfl)
theorem m56_3 {j56_l1 dj56_l1 : A4} (hj56_l1 : L4 j56_l1 dj56_l1) : L4 (b56_3 j56_l1) (b56_3 dj56_l1) := fun _ _ _ _ _ =>
  bR fun _ => hj56_l1 _ _ _ _ _
def b56_2 (c81 : A1) (j56_3 : A4) (x0 x3 x7 x8 x9 : AV) (H : Hp) : Res :=
  bnd (aindexStr x0 x8) fun t13 =>
  bnd (c81 t13 H) fun r15 =>
  bnd (gdv r15.1 false (.tuple []) (some t13)) fun t17 =>
  bnd (gdv r15.1 false (.tuple []) (ibin .geq t17 (.int .u8 97))) fun t18 =>
  bnd (gdv r15.1 false (.tuple []) (some t18)) fun t19 =>
  bnd (gdv t19 true (.tuple []) (some t13)) fun t20 =>
  bnd (gdv t19 true (.tuple []) (ibin .leq t20 (.int .u8 122))) fun t21 =>
  bnd (gdv r15.1 false (.tuple []) (apick t19 t21 (.bool false))) fun t22 =>
  bnd (apick r15.1 (.bool true) t22) fun t23 =>
  bnd (gdv t23 false (.tuple []) (some t13)) fun t25 =>
  bnd (gdv t23 false (.tuple []) (ibin .geq t25 (.int .u8 65))) fun t26 =>
  bnd (gdv t23 false (.tuple []) (some t26)) fun t27 =>
  bnd (gdv t27 true (.tuple []) (some t13)) fun t28 =>
  bnd (gdv t27 true (.tuple []) (ibin .leq t28 (.int .u8 90))) fun t29 =>
  bnd (gdv t23 false (.tuple []) (apick t27 t29 (.bool false))) fun t30 =>
  bnd (apick t23 (.bool true) t30) fun t31 =>
  bnd (gdv t31 false (.tuple []) (some t13)) fun t33 =>
  bnd (gdv t31 false (.tuple []) (ibin .geq t33 (.int .u8 48))) fun t34 =>
  bnd (gdv t31 false (.tuple []) (some t34)) fun t35 =>
  bnd (gdv t35 true (.tuple []) (some t13)) fun t36 =>
  bnd (gdv t35 true (.tuple []) (ibin .leq t36 (.int .u8 57))) fun t37 =>
  bnd (gdv t31 false (.tuple []) (apick t35 t37 (.bool false))) fun t38 =>
  bnd (apick t31 (.bool true) t38) fun t39 =>
  cnd t39
    (bnd (byteE.run [x3, t13] r15.2) fun r41 =>
    j56_3 x0 x3 x7 x8 r41.2)
    (j56_3 x0 x3 x7 x8 r15.2)
theorem e56_2 (H0 : Hp) (x0 x3 x7 x8 x9 : AV) (H : Hp) : j56_2 H0 x0 x3 x7 x8 x9 H = b56_2 c81 (j56_3 H0) x0 x3 x7 x8 x9 H := (CXM_eq [4, 8, 9] _ _ _ _).trans (by kernel_rfl)
theorem m56_2 {c81 dc81 : A1} (hc81 : L1 c81 dc81) {j56_3 dj56_3 : A4} (hj56_3 : L4 j56_3 dj56_3) : L5 (b56_2 c81 j56_3) (b56_2 dc81 dj56_3) := fun _ _ _ _ _ _ =>
  bR fun _ => bC (hc81 _ _) fun _ => bR fun _ => bR fun _ => bR fun _ => bR fun _ => bR fun _ => bR fun _ => bR fun _ => bR fun _ => bR fun _ => bR fun _ => bR fun _ => bR fun _ => bR fun _ => bR fun _ => bR fun _ => bR fun _ => bR fun _ => bR fun _ => bR fun _ => bR fun _ => bR fun _ => bK (bR fun _ => hj56_3 _ _ _ _ _) (hj56_3 _ _ _ _ _)
def b56_l1 (j56_1 : A1) (j56_2 : A5) (x0 x3 x7 x8 : AV) (H : Hp) : Res :=
  bnd (ibin .lss x8 x7) fun t9 =>
  cnd t9
    (j56_2 x0 x3 x7 x8 t9 H)
    (j56_1 x3 H)
theorem e56_l1 (H0 : Hp) (x0 x3 x7 x8 : AV) (H : Hp) : j56_l1 H0 x0 x3 x7 x8 H = b56_l1 (j56_1 H0) (j56_2 H0) x0 x3 x7 x8 H := (LPL_eqm (C := cfg) [4, 8, 9] (tame_block 0 (k56_1_tame H0)) _ _).trans (by kernel_rfl)
theorem m56_l1 {j56_1 dj56_1 : A1} (hj56_1 : L1 j56_1 dj56_1) {j56_2 dj56_2 : A5} (hj56_2 : L5 j56_2 dj56_2) : L4 (b56_l1 j56_1 j56_2) (b56_l1 dj56_1 dj56_2) := fun _ _ _ _ _ =>
  bR fun _ => bK (hj56_2 _ _ _ _ _ _) (hj56_1 _ _)
def rj56_1 : A1 := b56_1
theorem sj56_1 (H0 : Hp) : L1 (rj56_1) (j56_1 H0) := fun _ _ => le_eq (m56_1 _ _) (e56_1 H0 _ _)
def rj56_3 (j56_l1 : A4) : A4 := b56_3 j56_l1
theorem sj56_3 (H0 : Hp) {yj56_l1 : A4} (hj56_l1 : L4 yj56_l1 (j56_l1 H0)) : L4 (rj56_3 yj56_l1) (j56_3 H0) := fun _ _ _ _ _ => le_eq (m56_3 hj56_l1 _ _ _ _ _) (e56_3 H0 _ _ _ _ _)
def rj56_2 (j56_l1 : A4) : A5 := b56_2 rc81 (rj56_3 j56_l1)
theorem sj56_2 (H0 : Hp) {yj56_l1 : A4} (hj56_l1 : L4 yj56_l1 (j56_l1 H0)) : L5 (rj56_2 yj56_l1) (j56_2 H0) := fun _ _ _ _ _ _ => le_eq (m56_2 sc81 (sj56_3 H0 hj56_l1) _ _ _ _ _ _) (e56_2 H0 _ _ _ _ _ _)
def rj56_l1 (n : Nat) : A4 := @Nat.rec (fun _ => A4) (fun _ _ _ _ _ => none) (fun _ j56_l1 => b56_l1 (rj56_1) (rj56_2 j56_l1)) n
theorem sj56_l1 (H0 : Hp) (n : Nat) : L4 (rj56_l1 n) (j56_l1 H0) := by
  induction n with
  | zero => exact fun _ _ _ _ _ => le_none _
  | succ n hj56_l1 => exact fun _ _ _ _ _ => le_eq (m56_l1 (sj56_1 H0) (sj56_2 H0 hj56_l1) _ _ _ _ _) (e56_l1 H0 _ _ _ _ _)
def bc56 (j56_l1 : A4) (p0 : AV) (H : Hp) : Res :=
  bnd (some ((.ptr H.length 0), H ++ [.bld 106 5 []])) fun r3 =>
  bnd (alenD .string p0) fun t7 =>
  j56_l1 p0 r3.1 t7 (.int .i64 0) r3.2
theorem ec56 (p0 : AV) (H : Hp) : c56 p0 H = bc56 (j56_l1 H) p0 H := (callw_cxm (C := cfg) (fn := Tryz.f56) (c := bodyOf Tryz.f56) (n := 44) [4, 8, 9] Tryz.func56 (by kernel_rfl) (by kernel_rfl) [p0] (by kernel_rfl) H).trans (by kernel_rfl)
theorem mc56 {j56_l1 dj56_l1 : A4} (hj56_l1 : L4 j56_l1 dj56_l1) : L1 (bc56 j56_l1) (bc56 dj56_l1) := fun _ _ =>
  bR fun _ => bR fun _ => hj56_l1 _ _ _ _ _
def rc56 : A1 := fun p0 H => bc56 (rj56_l1 100000) p0 H
theorem sc56 : L1 rc56 c56 := fun _ H => le_eq (mc56 (sj56_l1 H 100000) _ _) (ec56 _ _)
def c84 (p0 p1 : AV) (H : Hp) : Res := callw cfg 84 [p0, p1] H
def j84_1 (H0 : Hp) (x5 : AV) (H : Hp) : Res := CXf 84 26 (sub (bodyOf Tryz.f84) [1, 1, 1]) (retL cfg 26 84 Tryz.f84 H0) [(5, x5)] H
def k84_1 (H0 : Hp) : KL := seqL (fun k al H => CXf 84 26 (sub (bodyOf Tryz.f84) [1, 1, 1]) k (trimL (cfg.keep 84) (sub (bodyOf Tryz.f84) [1, 1, 1]) al) H) (retL cfg 26 84 Tryz.f84 H0)
theorem k84_1_tame (H0 : Hp) : Tame 26 (k84_1 H0) := tame_seq (C := cfg) (kp := cfg.keep 84) (sub (bodyOf Tryz.f84) [1, 1, 1]) (tame_ret 84 Tryz.f84 H0)
def j84_3 (H0 : Hp) (x0 x5 x10 x11 : AV) (H : Hp) : Res := CXf 84 26 (sub (bodyOf Tryz.f84) [1, 1, 0, 1, 0, 0, 1, 1, 1]) (seqL (fun k al H => LPf 84 26 (sub (bodyOf Tryz.f84) [1, 1, 0, 1, 0, 0]) k (trimL (cfg.keep 84) (sub (bodyOf Tryz.f84) [1, 1, 0, 1, 0, 0]) al) H) (blockL 0 (k84_1 H0))) [(0, x0), (5, x5), (10, x10), (11, x11)] H
def j84_2 (H0 : Hp) (x0 x5 x10 x11 x12 : AV) (H : Hp) : Res := CXf 84 26 (sub (bodyOf Tryz.f84) [1, 1, 0, 1, 0, 0, 1, 1]) (seqL (fun k al H => LPf 84 26 (sub (bodyOf Tryz.f84) [1, 1, 0, 1, 0, 0]) k (trimL (cfg.keep 84) (sub (bodyOf Tryz.f84) [1, 1, 0, 1, 0, 0]) al) H) (blockL 0 (k84_1 H0))) [(0, x0), (5, x5), (10, x10), (11, x11), (12, x12)] H
def j84_l1 (H0 : Hp) (x0 x5 x10 x11 : AV) (H : Hp) : Res := LPf 84 26 (sub (bodyOf Tryz.f84) [1, 1, 0, 1, 0, 0]) (blockL 0 (k84_1 H0)) [(0, x0), (5, x5), (10, x10), (11, x11)] H
def b84_1 (x5 : AV) (H : Hp) : Res :=
  bnd (cvRd x5 H) fun t25 =>
  some (t25, H)
theorem e84_1 (H0 : Hp) (x5 : AV) (H : Hp) : j84_1 H0 x5 H = b84_1 x5 H := (CXM_eq [4, 6, 7] _ _ _ _).trans (by kernel_rfl)
theorem m84_1 : L1 (b84_1) (b84_1) := fun _ _ =>
  bR fun _ => le_refl _
def b84_3 (j84_l1 : A4) (x0 x5 x10 x11 : AV) (H : Hp) : Res :=
  bnd (ibin .add x11 (.int .i64 1)) fun t23 =>
  j84_l1 x0 x5 x10 t23 H
theorem e84_3 (H0 : Hp) (x0 x5 x10 x11 : AV) (H : Hp) : j84_3 H0 x0 x5 x10 x11 H = b84_3 (j84_l1 H0) x0 x5 x10 x11 H := (CXM_eq [4, 6, 7] _ _ _ _).trans (by kernel_rfl)
theorem m84_3 {j84_l1 dj84_l1 : A4} (hj84_l1 : L4 j84_l1 dj84_l1) : L4 (b84_3 j84_l1) (b84_3 dj84_l1) := fun _ _ _ _ _ =>
  bR fun _ => hj84_l1 _ _ _ _ _
def b84_2 (j84_3 : A4) (x0 x5 x10 x11 x12 : AV) (H : Hp) : Res :=
  bnd (aindexS 1 x5 x11) fun t19 =>
  bnd (aload false 1 t19 H) fun t20 =>
  bnd (aindexStr x0 t20) fun t21 =>
  bnd (aindexS 1 x5 x11) fun t22 =>
  bnd (astoreU 1 t22 t21 H) fun r_10 =>
  j84_3 x0 x5 x10 x11 r_10.2
theorem e84_2 (H0 : Hp) (x0 x5 x10 x11 x12 : AV) (H : Hp) : j84_2 H0 x0 x5 x10 x11 x12 H = b84_2 (j84_3 H0) x0 x5 x10 x11 x12 H := (CXM_eq [4, 6, 7] _ _ _ _).trans (by kernel_rfl)
theorem m84_2 {j84_3 dj84_3 : A4} (hj84_3 : L4 j84_3 dj84_3) : L5 (b84_2 j84_3) (b84_2 dj84_3) := fun _ _ _ _ _ _ =>
  bR fun _ => bR fun _ => bR fun _ => bR fun _ => bR fun _ => hj84_3 _ _ _ _ _
def b84_l1 (j84_1 : A1) (j84_2 : A5) (x0 x5 x10 x11 : AV) (H : Hp) : Res :=
  bnd (ibin .lss x11 x10) fun t12 =>
  cnd t12
    (j84_2 x0 x5 x10 x11 t12 H)
    (j84_1 x5 H)
theorem e84_l1 (H0 : Hp) (x0 x5 x10 x11 : AV) (H : Hp) : j84_l1 H0 x0 x5 x10 x11 H = b84_l1 (j84_1 H0) (j84_2 H0) x0 x5 x10 x11 H := (LPL_eqm (C := cfg) [4, 6, 7] (tame_block 0 (k84_1_tame H0)) _ _).trans (by kernel_rfl)
theorem m84_l1 {j84_1 dj84_1 : A1} (hj84_1 : L1 j84_1 dj84_1) {j84_2 dj84_2 : A5} (hj84_2 : L5 j84_2 dj84_2) : L4 (b84_l1 j84_1 j84_2) (b84_l1 dj84_1 dj84_2) := fun _ _ _ _ _ =>
  bR fun _ => bK (hj84_2 _ _ _ _ _ _) (hj84_1 _ _)
def rj84_1 : A1 := b84_1
theorem sj84_1 (H0 : Hp) : L1 (rj84_1) (j84_1 H0) := fun _ _ => le_eq (m84_1 _ _) (e84_1 H0 _ _)
def rj84_3 (j84_l1 : A4) : A4 := b84_3 j84_l1
theorem sj84_3 (H0 : Hp) {yj84_l1 : A4} (hj84_l1 : L4 yj84_l1 (j84_l1 H0)) : L4 (rj84_3 yj84_l1) (j84_3 H0) := fun _ _ _ _ _ => le_eq (m84_3 hj84_l1 _ _ _ _ _) (e84_3 H0 _ _ _ _ _)
def rj84_2 (j84_l1 : A4) : A5 := b84_2 (rj84_3 j84_l1)
theorem sj84_2 (H0 : Hp) {yj84_l1 : A4} (hj84_l1 : L4 yj84_l1 (j84_l1 H0)) : L5 (rj84_2 yj84_l1) (j84_2 H0) := fun _ _ _ _ _ _ => le_eq (m84_2 (sj84_3 H0 hj84_l1) _ _ _ _ _ _) (e84_2 H0 _ _ _ _ _ _)
def rj84_l1 (n : Nat) : A4 := @Nat.rec (fun _ => A4) (fun _ _ _ _ _ => none) (fun _ j84_l1 => b84_l1 (rj84_1) (rj84_2 j84_l1)) n
theorem sj84_l1 (H0 : Hp) (n : Nat) : L4 (rj84_l1 n) (j84_l1 H0) := by
  induction n with
  | zero => exact fun _ _ _ _ _ => le_none _
  | succ n hj84_l1 => exact fun _ _ _ _ _ => le_eq (m84_l1 (sj84_1 H0) (sj84_2 H0 hj84_l1) _ _ _ _ _) (e84_l1 H0 _ _ _ _ _)
def bc84 (j84_l1 : A4) (p0 p1 : AV) (H : Hp) : Res :=
  bnd (cvRow p1 H) fun r8 =>
  bnd (alenD (.slice 5) r8.1) fun t10 =>
  j84_l1 p0 r8.1 t10 (.int .i64 0) r8.2
theorem ec84 (p0 p1 : AV) (H : Hp) : c84 p0 p1 H = bc84 (j84_l1 H) p0 p1 H := (callw_cxm (C := cfg) (fn := Tryz.f84) (c := bodyOf Tryz.f84) (n := 26) [4, 6, 7] Tryz.func84 (by kernel_rfl) (by kernel_rfl) [p0, p1] (by kernel_rfl) H).trans (by kernel_rfl)
theorem mc84 {j84_l1 dj84_l1 : A4} (hj84_l1 : L4 j84_l1 dj84_l1) : L2 (bc84 j84_l1) (bc84 dj84_l1) := fun _ _ _ =>
  bR fun _ => bR fun _ => hj84_l1 _ _ _ _ _
def rc84 : A2 := fun p0 p1 H => bc84 (rj84_l1 100000) p0 p1 H
theorem sc84 : L2 rc84 c84 := fun _ _ H => le_eq (mc84 (sj84_l1 H 100000) _ _ _) (ec84 _ _ _)
def q84 : A2 := fun p0 p1 H => flatC (callw cfg 84) [p0, p1] H
def rq84 : A2 := fun p0 p1 H => flatC (ofL2 (rc84)) [p0, p1] H
theorem sq84 : L2 rq84 q84 := fun _ _ _ => flat_le (ofL2_le (sc84)) _ _

def c58 (p0 p1 : AV) (H : Hp) : Res := callw cfg 58 [p0, p1] H
def bc58 (q65 : A1) (q84 : A2) (p0 p1 : AV) (H : Hp) : Res :=
  bnd (abox p0 H) fun r2 =>
  bnd (aload true 6 r2.1 r2.2) fun t5 =>
  bnd (q65 t5 r2.2) fun r6 =>
  bnd (afieldV false 1 3 r6.1) fun t7 =>
  bnd (q84 t7 p1 r6.2) fun r9 =>
  some (r9.1, r9.2)
theorem ec58 (p0 p1 : AV) (H : Hp) : c58 p0 p1 H = bc58 q65 q84 p0 p1 H := (callw_cxm (C := cfg) (fn := Tryz.f58) (c := bodyOf Tryz.f58) (n := 10) [] Tryz.func58 (by kernel_rfl) (by kernel_rfl) [p0, p1] (by kernel_rfl) H).trans (by kernel_rfl)
theorem mc58 {q65 dq65 : A1} (hq65 : L1 q65 dq65) {q84 dq84 : A2} (hq84 : L2 q84 dq84) : L2 (bc58 q65 q84) (bc58 dq65 dq84) := fun _ _ _ =>
  bR fun _ => bR fun _ => bC (hq65 _ _) fun _ => bR fun _ => bC (hq84 _ _ _) fun _ => le_refl _
def rc58 : A2 := fun p0 p1 H => bc58 rq65 rq84 p0 p1 H
theorem sc58 : L2 rc58 c58 := fun _ _ H => le_eq (mc58 sq65 sq84 _ _ _) (ec58 _ _ _)
def q58 : A2 := fun p0 p1 H => flatC (callw cfg 58) [p0, p1] H
def rq58 : A2 := fun p0 p1 H => flatC (ofL2 (rc58)) [p0, p1] H
theorem sq58 : L2 rq58 q58 := fun _ _ _ => flat_le (ofL2_le (sc58)) _ _

def c57 (p0 p1 : AV) (H : Hp) : Res := callw cfg 57 [p0, p1] H
def bc57 (q58 : A2) (p0 p1 : AV) (H : Hp) : Res :=
  bnd (aload true 6 p1 H) fun t4 =>
  bnd (q58 t4 p0 H) fun r6 =>
  some (r6.1, r6.2)
theorem ec57 (p0 p1 : AV) (H : Hp) : c57 p0 p1 H = bc57 q58 p0 p1 H := (callw_cxm (C := cfg) (fn := Tryz.f57) (c := bodyOf Tryz.f57) (n := 7) [] Tryz.func57 (by kernel_rfl) (by kernel_rfl) [p0, p1] (by kernel_rfl) H).trans (by kernel_rfl)
theorem mc57 {q58 dq58 : A2} (hq58 : L2 q58 dq58) : L2 (bc57 q58) (bc57 dq58) := fun _ _ _ =>
  bR fun _ => bC (hq58 _ _ _) fun _ => le_refl _
def rc57 : A2 := fun p0 p1 H => bc57 rq58 p0 p1 H
theorem sc57 : L2 rc57 c57 := fun _ _ H => le_eq (mc57 sq58 _ _ _) (ec57 _ _ _)
end
end Go.Am
