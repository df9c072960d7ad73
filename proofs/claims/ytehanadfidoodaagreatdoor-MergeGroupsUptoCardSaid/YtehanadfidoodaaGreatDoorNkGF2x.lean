/-
  Functions of the translation that are worked out at given arguments: written by program (wip/gen.py).
-/
import Derived.Test.YtehanadfidoodaaGreatDoorNkGF1x
import Derived.Test.YtehanadfidoodaaGreatDoorEmWx
namespace Go.Am
open Go.Proofs
set_option maxRecDepth 100000
set_option linter.unusedVariables false
noncomputable section

def c115 (p0 : AV) (H : Hp) : Res := callw cfg 115 [p0] H
def j115_1 (H0 : Hp) (x0 : AV) (H : Hp) : Res := CXf 115 27 (sub (bodyOf Tryz.f115) [1, 1]) (retL cfg 27 115 Tryz.f115 H0) [(0, x0)] H
def k115_1 (H0 : Hp) : KL := seqL (fun k al H => CXf 115 27 (sub (bodyOf Tryz.f115) [1, 1]) k (trimL (cfg.keep 115) (sub (bodyOf Tryz.f115) [1, 1]) al) H) (retL cfg 27 115 Tryz.f115 H0)
theorem k115_1_tame (H0 : Hp) : Tame 27 (k115_1 H0) := tame_seq (C := cfg) (kp := cfg.keep 115) (sub (bodyOf Tryz.f115) [1, 1]) (tame_ret 115 Tryz.f115 H0)
def j115_3 (H0 : Hp) (x0 x5 x6 : AV) (H : Hp) : Res := CXf 115 27 (sub (bodyOf Tryz.f115) [1, 0, 1, 0, 0, 1, 1, 1]) (seqL (fun k al H => LPf 115 27 (sub (bodyOf Tryz.f115) [1, 0, 1, 0, 0]) k (trimL (cfg.keep 115) (sub (bodyOf Tryz.f115) [1, 0, 1, 0, 0]) al) H) (blockL 0 (k115_1 H0))) [(0, x0), (5, x5), (6, x6)] H
def j115_2 (H0 : Hp) (x0 x5 x6 x7 : AV) (H : Hp) : Res := CXf 115 27 (sub (bodyOf Tryz.f115) [1, 0, 1, 0, 0, 1, 1]) (seqL (fun k al H => LPf 115 27 (sub (bodyOf Tryz.f115) [1, 0, 1, 0, 0]) k (trimL (cfg.keep 115) (sub (bodyOf Tryz.f115) [1, 0, 1, 0, 0]) al) H) (blockL 0 (k115_1 H0))) [(0, x0), (5, x5), (6, x6), (7, x7)] H
def j115_l1 (H0 : Hp) (x0 x5 x6 : AV) (H : Hp) : Res := LPf 115 27 (sub (bodyOf Tryz.f115) [1, 0, 1, 0, 0]) (blockL 0 (k115_1 H0)) [(0, x0), (5, x5), (6, x6)] H
def b115_1 (x0 : AV) (H : Hp) : Res :=
  bnd (sbin .neq x0 (.str [])) fun t21 =>
  bnd (gdv t21 true (.tuple []) (some x0)) fun t23 =>
  bnd (gdv t21 true (.tuple []) (aindexStr t23 (.int .i64 0))) fun t24 =>
  bnd (gdv t21 true (.tuple []) (ibin .neq t24 (.int .u8 48))) fun t25 =>
  bnd (apick t21 t25 (.bool false)) fun t26 =>
  some (t26, H)
theorem e115_1 (H0 : Hp) (x0 : AV) (H : Hp) : j115_1 H0 x0 H = b115_1 x0 H := (CXM_eq [3, 6, 7] _ _ _ _).trans (by kernel_rfl)
theorem m115_1 : L1 (b115_1) (b115_1) := fun _ _ =>
  bR fun _ => bR fun _ => bR fun _ => bR fun _ => bR fun _ => le_refl _
def b115_3 (j115_l1 : A3) (x0 x5 x6 : AV) (H : Hp) : Res :=
  bnd (ibin .add x6 (.int .i64 1)) fun t19 =>
  j115_l1 x0 x5 t19 H
theorem e115_3 (H0 : Hp) (x0 x5 x6 : AV) (H : Hp) : j115_3 H0 x0 x5 x6 H = b115_3 (j115_l1 H0) x0 x5 x6 H := (CXM_eq [3, 6, 7] _ _ _ _).trans (by kernel_rfl)
theorem m115_3 {j115_l1 dj115_l1 : A3} (hj115_l1 : L3 j115_l1 dj115_l1) : L3 (b115_3 j115_l1) (b115_3 dj115_l1) := fun _ _ _ _ =>
  bR fun _ => hj115_l1 _ _ _ _
def b115_2 (j115_3 : A3) (x0 x5 x6 x7 : AV) (H : Hp) : Res :=
  bnd (aindexStr x0 x6) fun t11 =>
  bnd (ibin .lss t11 (.int .u8 48)) fun t12 =>
  bnd (gdv t12 false (.tuple []) (some x0)) fun t14 =>
  bnd (gdv t12 false (.tuple []) (some x6)) fun t15 =>
  bnd (gdv t12 false (.tuple []) (aindexStr t14 t15)) fun t16 =>
  bnd (gdv t12 false (.tuple []) (ibin .gtr t16 (.int .u8 57))) fun t17 =>
  bnd (apick t12 (.bool true) t17) fun t18 =>
  cnd t18
    (some ((.bool false), H))
    (j115_3 x0 x5 x6 H)
theorem e115_2 (H0 : Hp) (x0 x5 x6 x7 : AV) (H : Hp) : j115_2 H0 x0 x5 x6 x7 H = b115_2 (j115_3 H0) x0 x5 x6 x7 H := (CXM_eq [3, 6, 7] _ _ _ _).trans (by kernel_rfl)
theorem m115_2 {j115_3 dj115_3 : A3} (hj115_3 : L3 j115_3 dj115_3) : L4 (b115_2 j115_3) (b115_2 dj115_3) := fun _ _ _ _ _ =>
  bR fun _ => bR fun _ => bR fun _ => bR fun _ => bR fun _ => bR fun _ => bR fun _ => bK (le_refl _) (hj115_3 _ _ _ _)
def b115_l1 (j115_1 : A1) (j115_2 : A4) (x0 x5 x6 : AV) (H : Hp) : Res :=
  bnd (ibin .lss x6 x5) fun t7 =>
  cnd t7
    (j115_2 x0 x5 x6 t7 H)
    (j115_1 x0 H)
theorem e115_l1 (H0 : Hp) (x0 x5 x6 : AV) (H : Hp) : j115_l1 H0 x0 x5 x6 H = b115_l1 (j115_1 H0) (j115_2 H0) x0 x5 x6 H := (LPL_eqm (C := cfg) [3, 6, 7] (tame_block 0 (k115_1_tame H0)) _ _).trans (by kernel_rfl)
theorem m115_l1 {j115_1 dj115_1 : A1} (hj115_1 : L1 j115_1 dj115_1) {j115_2 dj115_2 : A4} (hj115_2 : L4 j115_2 dj115_2) : L3 (b115_l1 j115_1 j115_2) (b115_l1 dj115_1 dj115_2) := fun _ _ _ _ =>
  bR fun _ => bK (hj115_2 _ _ _ _ _) (hj115_1 _ _)
def rj115_1 : A1 := b115_1
theorem sj115_1 (H0 : Hp) : L1 (rj115_1) (j115_1 H0) := fun _ _ => le_eq (m115_1 _ _) (e115_1 H0 _ _)
def rj115_3 (j115_l1 : A3) : A3 := b115_3 j115_l1
theorem sj115_3 (H0 : Hp) {yj115_l1 : A3} (hj115_l1 : L3 yj115_l1 (j115_l1 H0)) : L3 (rj115_3 yj115_l1) (j115_3 H0) := fun _ _ _ _ => le_eq (m115_3 hj115_l1 _ _ _ _) (e115_3 H0 _ _ _ _)
def rj115_2 (j115_l1 : A3) : A4 := b115_2 (rj115_3 j115_l1)
theorem sj115_2 (H0 : Hp) {yj115_l1 : A3} (hj115_l1 : L3 yj115_l1 (j115_l1 H0)) : L4 (rj115_2 yj115_l1) (j115_2 H0) := fun _ _ _ _ _ => le_eq (m115_2 (sj115_3 H0 hj115_l1) _ _ _ _ _) (e115_2 H0 _ _ _ _ _)
def rj115_l1 (n : Nat) : A3 := @Nat.rec (fun _ => A3) (fun _ _ _ _ => none) (fun _ j115_l1 => b115_l1 (rj115_1) (rj115_2 j115_l1)) n
theorem sj115_l1 (H0 : Hp) (n : Nat) : L3 (rj115_l1 n) (j115_l1 H0) := by
  induction n with
  | zero => exact fun _ _ _ _ => le_none _
  | succ n hj115_l1 => exact fun _ _ _ _ => le_eq (m115_l1 (sj115_1 H0) (sj115_2 H0 hj115_l1) _ _ _ _) (e115_l1 H0 _ _ _ _)
def bc115 (j115_l1 : A3) (p0 : AV) (H : Hp) : Res :=
  bnd (alenD .string p0) fun t5 =>
  j115_l1 p0 t5 (.int .i64 0) H
theorem ec115 (p0 : AV) (H : Hp) : c115 p0 H = bc115 (j115_l1 H) p0 H := (callw_cxm (C := cfg) (fn := Tryz.f115) (c := bodyOf Tryz.f115) (n := 27) [3, 6, 7] Tryz.func115 (by kernel_rfl) (by kernel_rfl) [p0] (by kernel_rfl) H).trans (by kernel_rfl)
theorem mc115 {j115_l1 dj115_l1 : A3} (hj115_l1 : L3 j115_l1 dj115_l1) : L1 (bc115 j115_l1) (bc115 dj115_l1) := fun _ _ =>
  bR fun _ => hj115_l1 _ _ _ _
def rc115 : A1 := fun p0 H => bc115 (rj115_l1 100000) p0 H
theorem sc115 : L1 rc115 c115 := fun _ H => le_eq (mc115 (sj115_l1 H 100000) _ _) (ec115 _ _)
def q115 : A1 := fun p0 H => flatC (callw cfg 115) [p0] H
def rq115 : A1 := fun p0 H => flatC (ofL1 (rc115)) [p0] H
theorem sq115 : L1 rq115 q115 := fun _ _ => flat_le (ofL1_le (sc115)) _ _

def c78 (p0 p1 : AV) (H : Hp) : Res := callw cfg 78 [p0, p1] H
def j78_2 (H0 : Hp) (x5 : AV) (H : Hp) : Res := CXf 78 56 (sub (bodyOf Tryz.f78) [1, 1, 1, 1, 1]) (retL cfg 56 78 Tryz.f78 H0) [(5, x5)] H
def k78_1 (H0 : Hp) : KL := seqL (fun k al H => CXf 78 56 (sub (bodyOf Tryz.f78) [1, 1, 1, 1, 1]) k (trimL (cfg.keep 78) (sub (bodyOf Tryz.f78) [1, 1, 1, 1, 1]) al) H) (retL cfg 56 78 Tryz.f78 H0)
theorem k78_1_tame (H0 : Hp) : Tame 56 (k78_1 H0) := tame_seq (C := cfg) (kp := cfg.keep 78) (sub (bodyOf Tryz.f78) [1, 1, 1, 1, 1]) (tame_ret 78 Tryz.f78 H0)
def j78_4 (H0 : Hp) (x5 x6 x21 x22 x23 : AV) (H : Hp) : Res := CXf 78 56 (sub (bodyOf Tryz.f78) [1, 1, 1, 1, 0, 1, 0, 0, 1, 1, 1]) (seqL (fun k al H => LPf 78 56 (sub (bodyOf Tryz.f78) [1, 1, 1, 1, 0, 1, 0, 0]) k (trimL (cfg.keep 78) (sub (bodyOf Tryz.f78) [1, 1, 1, 1, 0, 1, 0, 0]) al) H) (blockL 0 (k78_1 H0))) [(5, x5), (6, x6), (21, x21), (22, x22), (23, x23)] H
def j78_3 (H0 : Hp) (x5 x6 x21 x22 x23 x24 : AV) (H : Hp) : Res := CXf 78 56 (sub (bodyOf Tryz.f78) [1, 1, 1, 1, 0, 1, 0, 0, 1, 1]) (seqL (fun k al H => LPf 78 56 (sub (bodyOf Tryz.f78) [1, 1, 1, 1, 0, 1, 0, 0]) k (trimL (cfg.keep 78) (sub (bodyOf Tryz.f78) [1, 1, 1, 1, 0, 1, 0, 0]) al) H) (blockL 0 (k78_1 H0))) [(5, x5), (6, x6), (21, x21), (22, x22), (23, x23), (24, x24)] H
def j78_l1 (H0 : Hp) (x5 x6 x21 x22 x23 : AV) (H : Hp) : Res := LPf 78 56 (sub (bodyOf Tryz.f78) [1, 1, 1, 1, 0, 1, 0, 0]) (blockL 0 (k78_1 H0)) [(5, x5), (6, x6), (21, x21), (22, x22), (23, x23)] H
def j78_1 (H0 : Hp) (x0 x1 x5 : AV) (H : Hp) : Res := CXf 78 56 (sub (bodyOf Tryz.f78) [1, 1, 1]) (retL cfg 56 78 Tryz.f78 H0) [(0, x0), (1, x1), (5, x5)] H
def b78_2 (x5 : AV) (H : Hp) : Res :=
  some (x5, H)
theorem e78_2 (H0 : Hp) (x5 : AV) (H : Hp) : j78_2 H0 x5 H = b78_2 x5 H := (CXM_eq [4, 7, 11, 12] _ _ _ _).trans (by kernel_rfl)
theorem m78_2 : L1 (b78_2) (b78_2) := fun _ _ =>
  le_refl _
def b78_4 (j78_l1 : A5) (x5 x6 x21 x22 x23 : AV) (H : Hp) : Res :=
  bnd (ibin .add x23 (.int .i64 1)) fun t54 =>
  j78_l1 x5 x6 x21 x22 t54 H
theorem e78_4 (H0 : Hp) (x5 x6 x21 x22 x23 : AV) (H : Hp) : j78_4 H0 x5 x6 x21 x22 x23 H = b78_4 (j78_l1 H0) x5 x6 x21 x22 x23 H := (CXM_eq [4, 7, 11, 12] _ _ _ _).trans (by kernel_rfl)
theorem m78_4 {j78_l1 dj78_l1 : A5} (hj78_l1 : L5 j78_l1 dj78_l1) : L5 (b78_4 j78_l1) (b78_4 dj78_l1) := fun _ _ _ _ _ _ =>
  bR fun _ => hj78_l1 _ _ _ _ _ _
def b78_3 (q115 : A1) (j78_4 : A5) (x5 x6 x21 x22 x23 x24 : AV) (H : Hp) : Res :=
  bnd (aindexS 3 x21 x23) fun t25 =>
  bnd (aload true 3 t25 H) fun t26 =>
  bnd (some ((.ptr H.length 0), H ++ [.cells [(.str []), (.int .i64 0), (.int .i64 0)]])) fun r8 =>
  bnd (astoreU 3 r8.1 t26 r8.2) fun r_9 =>
  bnd (alenD .string x6) fun t28 =>
  bnd (afield 0 r8.1) fun t29 =>
  bnd (aload false 1 t29 r_9.2) fun t30 =>
  bnd (alenD .string t30) fun t31 =>
  bnd (ibin .gtr t31 t28) fun t33 =>
  bnd (gdv t33 true (.tuple []) (afield 0 r8.1)) fun t35 =>
  bnd (gdv t33 true (.tuple []) (aload false 1 t35 r_9.2)) fun t36 =>
  bnd (gdv t33 true (.tuple []) (some t28)) fun t37 =>
  bnd (gdv t33 true (.tuple []) (asliceS t36 none (some t37) none)) fun t38 =>
  bnd (gdv t33 true (.tuple []) (some x6)) fun t39 =>
  bnd (gdv t33 true (.tuple []) (sbin .eql t38 t39)) fun t40 =>
  bnd (apick t33 t40 (.bool false)) fun t41 =>
  bnd (gdv t41 true (.tuple []) (afield 0 r8.1)) fun t43 =>
  bnd (gdv t41 true (.tuple []) (aload false 1 t43 r_9.2)) fun t44 =>
  bnd (gdv t41 true (.tuple []) (some t28)) fun t45 =>
  bnd (gdv t41 true (.tuple []) (asliceS t44 (some t45) none none)) fun t46 =>
  bnd (gdv t41 true ((.tuple []), r_9.2) (q115 t46 r_9.2)) fun r47 =>
  bnd (apick t41 r47.1 (.bool false)) fun t48 =>
  cnd t48
    (bnd (afield 0 r8.1) fun t50 =>
    bnd (aload false 1 t50 r47.2) fun t51 =>
    bnd ((setElems 1 [(0, t51)] [(.str [])]).map (.vs 1 .clip)) fun t52 =>
    bnd (aappE 1 16 x5 t52 r47.2) fun r53 =>
    j78_4 r53.1 x6 x21 x22 x23 r53.2)
    (j78_4 x5 x6 x21 x22 x23 r47.2)
theorem e78_3 (H0 : Hp) (x5 x6 x21 x22 x23 x24 : AV) (H : Hp) : j78_3 H0 x5 x6 x21 x22 x23 x24 H = b78_3 q115 (j78_4 H0) x5 x6 x21 x22 x23 x24 H := (CXM_eq [4, 7, 11, 12] _ _ _ _).trans (by kernel_rfl)
theorem m78_3 {q115 dq115 : A1} (hq115 : L1 q115 dq115) {j78_4 dj78_4 : A5} (hj78_4 : L5 j78_4 dj78_4) : L6 (b78_3 q115 j78_4) (b78_3 dq115 dj78_4) := fun _ _ _ _ _ _ _ =>
  bR fun _ => bR fun _ => bR fun _ => bR fun _ => bR fun _ => bR fun _ => bR fun _ => bR fun _ => bR fun _ => bR fun _ => bR fun _ => bR fun _ => bR fun _ => bR fun _ => bR fun _ => bR fun _ => bR fun _ => bR fun _ => bR fun _ => bR fun _ => bG (hq115 _ _) fun _ => bR fun _ => bK (bR fun _ => bR fun _ => bR fun _ => bR fun _ => hj78_4 _ _ _ _ _ _) (hj78_4 _ _ _ _ _ _)
def b78_l1 (j78_2 : A1) (j78_3 : A6) (x5 x6 x21 x22 x23 : AV) (H : Hp) : Res :=
  bnd (ibin .lss x23 x22) fun t24 =>
  cnd t24
    (j78_3 x5 x6 x21 x22 x23 t24 H)
    (j78_2 x5 H)
theorem e78_l1 (H0 : Hp) (x5 x6 x21 x22 x23 : AV) (H : Hp) : j78_l1 H0 x5 x6 x21 x22 x23 H = b78_l1 (j78_2 H0) (j78_3 H0) x5 x6 x21 x22 x23 H := (LPL_eqm (C := cfg) [4, 7, 11, 12] (tame_block 0 (k78_1_tame H0)) _ _).trans (by kernel_rfl)
theorem m78_l1 {j78_2 dj78_2 : A1} (hj78_2 : L1 j78_2 dj78_2) {j78_3 dj78_3 : A6} (hj78_3 : L6 j78_3 dj78_3) : L5 (b78_l1 j78_2 j78_3) (b78_l1 dj78_2 dj78_3) := fun _ _ _ _ _ _ =>
  bR fun _ => bK (hj78_3 _ _ _ _ _ _ _) (hj78_2 _ _)
def b78_1 (q114 : A1) (q53 : A1) (j78_l1 : A5) (x0 x1 x5 : AV) (H : Hp) : Res :=
  bnd (q114 x1 H) fun r19 =>
  bnd (q53 x0 r19.2) fun r21 =>
  bnd (alenD (.slice 142) r21.1) fun t22 =>
  j78_l1 x5 r19.1 r21.1 t22 (.int .i64 0) r21.2
theorem e78_1 (H0 : Hp) (x0 x1 x5 : AV) (H : Hp) : j78_1 H0 x0 x1 x5 H = b78_1 q114 q53 (j78_l1 H0) x0 x1 x5 H := (CXM_eq [4, 7, 11, 12] _ _ _ _).trans (by kernel_rfl)
theorem m78_1 {q114 dq114 : A1} (hq114 : L1 q114 dq114) {q53 dq53 : A1} (hq53 : L1 q53 dq53) {j78_l1 dj78_l1 : A5} (hj78_l1 : L5 j78_l1 dj78_l1) : L3 (b78_1 q114 q53 j78_l1) (b78_1 dq114 dq53 dj78_l1) := fun _ _ _ _ =>
  bC (hq114 _ _) fun _ => bC (hq53 _ _) fun _ => bR fun _ => hj78_l1 _ _ _ _ _ _
def rj78_2 : A1 := b78_2
theorem sj78_2 (H0 : Hp) : L1 (rj78_2) (j78_2 H0) := fun _ _ => le_eq (m78_2 _ _) (e78_2 H0 _ _)
def rj78_4 (j78_l1 : A5) : A5 := b78_4 j78_l1
theorem sj78_4 (H0 : Hp) {yj78_l1 : A5} (hj78_l1 : L5 yj78_l1 (j78_l1 H0)) : L5 (rj78_4 yj78_l1) (j78_4 H0) := fun _ _ _ _ _ _ => le_eq (m78_4 hj78_l1 _ _ _ _ _ _) (e78_4 H0 _ _ _ _ _ _)
def rj78_3 (j78_l1 : A5) : A6 := b78_3 rq115 (rj78_4 j78_l1)
theorem sj78_3 (H0 : Hp) {yj78_l1 : A5} (hj78_l1 : L5 yj78_l1 (j78_l1 H0)) : L6 (rj78_3 yj78_l1) (j78_3 H0) := fun _ _ _ _ _ _ _ => le_eq (m78_3 sq115 (sj78_4 H0 hj78_l1) _ _ _ _ _ _ _) (e78_3 H0 _ _ _ _ _ _ _)
def rj78_l1 (n : Nat) : A5 := @Nat.rec (fun _ => A5) (fun _ _ _ _ _ _ => none) (fun _ j78_l1 => b78_l1 (rj78_2) (rj78_3 j78_l1)) n
theorem sj78_l1 (H0 : Hp) (n : Nat) : L5 (rj78_l1 n) (j78_l1 H0) := by
  induction n with
  | zero => exact fun _ _ _ _ _ _ => le_none _
  | succ n hj78_l1 => exact fun _ _ _ _ _ _ => le_eq (m78_l1 (sj78_2 H0) (sj78_3 H0 hj78_l1) _ _ _ _ _ _) (e78_l1 H0 _ _ _ _ _ _)
def rj78_1 : A3 := b78_1 rq114 rq53 (rj78_l1 100000)
theorem sj78_1 (H0 : Hp) : L3 (rj78_1) (j78_1 H0) := fun _ _ _ _ => le_eq (m78_1 sq114 sq53 (sj78_l1 H0 100000) _ _ _ _) (e78_1 H0 _ _ _ _)
def bc78 (q77 : A1) (j78_1 : A3) (p0 p1 : AV) (H : Hp) : Res :=
  bnd (ebin (.pointer 120) .eql p0 .nilp) fun t11 =>
  bnd (gdv t11 false (.tuple []) (some p1)) fun t13 =>
  bnd (gdv t11 false ((.tuple []), H) (q77 t13 H)) fun r14 =>
  bnd (gdv t11 false (.tuple []) (aun .not r14.1)) fun t15 =>
  bnd (apick t11 (.bool true) t15) fun t16 =>
  cnd t16
    (some (.nils, r14.2))
    (j78_1 p0 p1 .nils r14.2)
theorem ec78 (p0 p1 : AV) (H : Hp) : c78 p0 p1 H = bc78 q77 (j78_1 H) p0 p1 H := (callw_cxm (C := cfg) (fn := Tryz.f78) (c := bodyOf Tryz.f78) (n := 56) [4, 7, 11, 12] Tryz.func78 (by kernel_rfl) (by kernel_rfl) [p0, p1] (by kernel_rfl) H).trans (by kernel_rfl)
theorem mc78 {q77 dq77 : A1} (hq77 : L1 q77 dq77) {j78_1 dj78_1 : A3} (hj78_1 : L3 j78_1 dj78_1) : L2 (bc78 q77 j78_1) (bc78 dq77 dj78_1) := fun _ _ _ =>
  bR fun _ => bR fun _ => bG (hq77 _ _) fun _ => bR fun _ => bR fun _ => bK (le_refl _) (hj78_1 _ _ _ _)
def rc78 : A2 := fun p0 p1 H => bc78 rq77 (rj78_1) p0 p1 H
theorem sc78 : L2 rc78 c78 := fun _ _ H => le_eq (mc78 sq77 (sj78_1 H) _ _ _) (ec78 _ _ _)
def q78 : A2 := fun p0 p1 H => roC (callw cfg 78) [p0, p1] H
def rq78 : A2 := fun p0 p1 H => roC (ofL2 (rc78)) [p0, p1] H
theorem sq78 : L2 rq78 q78 := fun _ _ _ => ro_le (ofL2_le (sc78)) _ _

def c167 (p0 : AV) (H : Hp) : Res := callw cfg 167 [p0] H
def j167_1 (H0 : Hp) (x0 : AV) (H : Hp) : Res := CXf 167 37 (sub (bodyOf Tryz.f167) [1, 1]) (retL cfg 37 167 Tryz.f167 H0) [(0, x0)] H
def b167_1 (x0 : AV) (H : Hp) : Res :=
  bnd (anil x0) fun t34 =>
  bnd (afield 4 t34) fun t35 =>
  bnd (aload false 1 t35 H) fun t36 =>
  some (t36, H)
theorem e167_1 (H0 : Hp) (x0 : AV) (H : Hp) : j167_1 H0 x0 H = b167_1 x0 H := (CXM_eq [6] _ _ _ _).trans (by kernel_rfl)
theorem m167_1 : L1 (b167_1) (b167_1) := fun _ _ =>
  bR fun _ => bR fun _ => bR fun _ => le_refl _
def rj167_1 : A1 := b167_1
theorem sj167_1 (H0 : Hp) : L1 (rj167_1) (j167_1 H0) := fun _ _ => le_eq (m167_1 _ _) (e167_1 H0 _ _)
def bc167 (j167_1 : A1) (p0 : AV) (H : Hp) : Res :=
  bnd (anil p0) fun t5 =>
  bnd (afield 4 t5) fun t6 =>
  bnd (aload false 1 t6 H) fun t7 =>
  cnd t7
    (j167_1 p0 H)
    (bnd (anil p0) fun t10 =>
    bnd (afield 5 t10) fun t11 =>
    bnd (aload false 1 t11 H) fun t12 =>
    bnd (ibin .eql t12 (.int .i64 1)) fun t13 =>
    cnd t13
      (bnd (anil p0) fun t16 =>
      bnd (afield 4 t16) fun t17 =>
      bnd (astoreU 1 t17 (.bool true) H) fun r_13 =>
      bnd (anil p0) fun t18 =>
      bnd (afield 5 t18) fun t19 =>
      bnd (astoreU 1 t19 (.int .i64 0) r_13.2) fun r_16 =>
      j167_1 p0 r_16.2)
      (bnd (anil p0) fun t22 =>
      bnd (afield 5 t22) fun t23 =>
      bnd (aload false 1 t23 H) fun t24 =>
      bnd (ibin .gtr t24 (.int .i64 1)) fun t25 =>
      cnd t25
        (bnd (anil p0) fun t27 =>
        bnd (afield 5 t27) fun t28 =>
        bnd (aload false 1 t28 H) fun t29 =>
        bnd (ibin .sub t29 (.int .i64 1)) fun t30 =>
        bnd (anil p0) fun t31 =>
        bnd (afield 5 t31) fun t32 =>
        bnd (astoreU 1 t32 t30 H) fun r_27 =>
        j167_1 p0 r_27.2)
        (j167_1 p0 H)))
theorem ec167 (p0 : AV) (H : Hp) : c167 p0 H = bc167 (j167_1 H) p0 H := (callw_cxm (C := cfg) (fn := Tryz.f167) (c := bodyOf Tryz.f167) (n := 37) [6] Tryz.func167 (by kernel_rfl) (by kernel_rfl) [p0] (by kernel_rfl) H).trans (by kernel_rfl)
theorem mc167 {j167_1 dj167_1 : A1} (hj167_1 : L1 j167_1 dj167_1) : L1 (bc167 j167_1) (bc167 dj167_1) := fun _ _ =>
  bR fun _ => bR fun _ => bR fun _ => bK (hj167_1 _ _) (bR fun _ => bR fun _ => bR fun _ => bR fun _ => bK (bR fun _ => bR fun _ => bR fun _ => bR fun _ => bR fun _ => bR fun _ => hj167_1 _ _) (bR fun _ => bR fun _ => bR fun _ => bR fun _ => bK (bR fun _ => bR fun _ => bR fun _ => bR fun _ => bR fun _ => bR fun _ => bR fun _ => hj167_1 _ _) (hj167_1 _ _)))
def rc167 : A1 := fun p0 H => bc167 (rj167_1) p0 H
theorem sc167 : L1 rc167 c167 := fun _ H => le_eq (mc167 (sj167_1 H) _ _) (ec167 _ _)

def c116 (p0 p1 : AV) (H : Hp) : Res := callw cfg 116 [p0, p1] H
def j116_3 (H0 : Hp) (x6 : AV) (H : Hp) : Res := CXf 116 20 (sub (bodyOf Tryz.f116) [1, 1, 1, 1, 1]) (retL cfg 20 116 Tryz.f116 H0) [(6, x6)] H
def j116_2 (H0 : Hp) (x0 x1 : AV) (H : Hp) : Res := CXf 116 20 (sub (bodyOf Tryz.f116) [1, 1, 1]) (retL cfg 20 116 Tryz.f116 H0) [(0, x0), (1, x1)] H
def j116_1 (H0 : Hp) (x0 x1 : AV) (H : Hp) : Res := CXf 116 20 (sub (bodyOf Tryz.f116) [1, 1]) (retL cfg 20 116 Tryz.f116 H0) [(0, x0), (1, x1)] H
def b116_3 (x6 : AV) (H : Hp) : Res :=
  some ((.tuple [x6, (.int .i64 0)]), H)
theorem e116_3 (H0 : Hp) (x6 : AV) (H : Hp) : j116_3 H0 x6 H = b116_3 x6 H := (CXM_eq [3, 5, 8] _ _ _ _).trans (by kernel_rfl)
theorem m116_3 : L1 (b116_3) (b116_3) := fun _ _ =>
  le_refl _
def b116_2 (j116_3 : A1) (x0 x1 : AV) (H : Hp) : Res :=
  bnd (anil x0) fun t12 =>
  bnd (afield 3 t12) fun t13 =>
  bnd (aload false 1 t13 H) fun t14 =>
  bnd (alookup .string .nilp false t14 x1 H) fun t16 =>
  bnd (ebin (.pointer 131) .eql t16 .nilp) fun t18 =>
  cnd t18
    (some ((.tuple [.nilp, (.int .i64 5)]), H))
    (j116_3 t16 H)
theorem e116_2 (H0 : Hp) (x0 x1 : AV) (H : Hp) : j116_2 H0 x0 x1 H = b116_2 (j116_3 H0) x0 x1 H := (CXM_eq [3, 5, 8] _ _ _ _).trans (by kernel_rfl)
theorem m116_2 {j116_3 dj116_3 : A1} (hj116_3 : L1 j116_3 dj116_3) : L2 (b116_2 j116_3) (b116_2 dj116_3) := fun _ _ _ =>
  bR fun _ => bR fun _ => bR fun _ => bR fun _ => bR fun _ => bK (le_refl _) (hj116_3 _ _)
def b116_1 (c167 : A1) (j116_2 : A2) (x0 x1 : AV) (H : Hp) : Res :=
  bnd (c167 x0 H) fun r10 =>
  cnd r10.1
    (some ((.tuple [.nilp, (.int .i64 19)]), r10.2))
    (j116_2 x0 x1 r10.2)
theorem e116_1 (H0 : Hp) (x0 x1 : AV) (H : Hp) : j116_1 H0 x0 x1 H = b116_1 c167 (j116_2 H0) x0 x1 H := (CXM_eq [3, 5, 8] _ _ _ _).trans (by kernel_rfl)
theorem m116_1 {c167 dc167 : A1} (hc167 : L1 c167 dc167) {j116_2 dj116_2 : A2} (hj116_2 : L2 j116_2 dj116_2) : L2 (b116_1 c167 j116_2) (b116_1 dc167 dj116_2) := fun _ _ _ =>
  bC (hc167 _ _) fun _ => bK (le_refl _) (hj116_2 _ _ _)
def rj116_3 : A1 := b116_3
theorem sj116_3 (H0 : Hp) : L1 (rj116_3) (j116_3 H0) := fun _ _ => le_eq (m116_3 _ _) (e116_3 H0 _ _)
def rj116_2 : A2 := b116_2 (rj116_3)
theorem sj116_2 (H0 : Hp) : L2 (rj116_2) (j116_2 H0) := fun _ _ _ => le_eq (m116_2 (sj116_3 H0) _ _ _) (e116_2 H0 _ _ _)
def rj116_1 : A2 := b116_1 rc167 (rj116_2)
theorem sj116_1 (H0 : Hp) : L2 (rj116_1) (j116_1 H0) := fun _ _ _ => le_eq (m116_1 sc167 (sj116_2 H0) _ _ _) (e116_1 H0 _ _ _)
def bc116 (j116_1 : A2) (p0 p1 : AV) (H : Hp) : Res :=
  bnd (ebin (.pointer 120) .eql p0 .nilp) fun t8 =>
  cnd t8
    (some ((.tuple [.nilp, (.int .i64 5)]), H))
    (j116_1 p0 p1 H)
theorem ec116 (p0 p1 : AV) (H : Hp) : c116 p0 p1 H = bc116 (j116_1 H) p0 p1 H := (callw_cxm (C := cfg) (fn := Tryz.f116) (c := bodyOf Tryz.f116) (n := 20) [3, 5, 8] Tryz.func116 (by kernel_rfl) (by kernel_rfl) [p0, p1] (by kernel_rfl) H).trans (by kernel_rfl)
theorem mc116 {j116_1 dj116_1 : A2} (hj116_1 : L2 j116_1 dj116_1) : L2 (bc116 j116_1) (bc116 dj116_1) := fun _ _ _ =>
  bR fun _ => bK (le_refl _) (hj116_1 _ _ _)
def rc116 : A2 := fun p0 p1 H => bc116 (rj116_1) p0 p1 H
theorem sc116 : L2 rc116 c116 := fun _ _ H => le_eq (mc116 (sj116_1 H) _ _ _) (ec116 _ _ _)

def c117 (p0 p1 : AV) (H : Hp) : Res := callw cfg 117 [p0, p1] H
def bc117 (p0 p1 : AV) (H : Hp) : Res :=
  bnd (anil p0) fun t6 =>
  bnd (afield 3 t6) fun t7 =>
  bnd (aload false 1 t7 H) fun t8 =>
  bnd (alookup .string .nilp false t8 p1 H) fun t10 =>
  bnd (ebin (.pointer 131) .neq t10 .nilp) fun t12 =>
  cnd t12
    (bnd (anil p0) fun t14 =>
    bnd (afield 1 t14) fun t15 =>
    bnd (aload false 1 t15 H) fun t16 =>
    bnd (anil t10) fun t18 =>
    bnd (afield 0 t18) fun t19 =>
    bnd (aload false 1 t19 H) fun t20 =>
    bnd (alenD (.slice 5) t20) fun t21 =>
    bnd (ibin .sub t16 t21) fun t22 =>
    bnd (anil p0) fun t23 =>
    bnd (afield 1 t23) fun t24 =>
    bnd (astoreU 1 t24 t22 H) fun r_16 =>
    bnd (anil p0) fun t26 =>
    bnd (afield 3 t26) fun t27 =>
    bnd (aload false 1 t27 r_16.2) fun t28 =>
    bnd (amapDel .string t28 p1 r_16.2) fun r_20 =>
    some ((.tuple []), r_20.2))
    (some ((.tuple []), H))
theorem ec117 (p0 p1 : AV) (H : Hp) : c117 p0 p1 H = bc117 p0 p1 H := (callw_cxm (C := cfg) (fn := Tryz.f117) (c := bodyOf Tryz.f117) (n := 30) [] Tryz.func117 (by kernel_rfl) (by kernel_rfl) [p0, p1] (by kernel_rfl) H).trans (by kernel_rfl)
theorem mc117 : L2 (bc117) (bc117) := fun _ _ _ =>
  bR fun _ => bR fun _ => bR fun _ => bR fun _ => bR fun _ => bK (bR fun _ => bR fun _ => bR fun _ => bR fun _ => bR fun _ => bR fun _ => bR fun _ => bR fun _ => bR fun _ => bR fun _ => bR fun _ => bR fun _ => bR fun _ => bR fun _ => bR fun _ => le_refl _) (le_refl _)
def rc117 : A2 := fun p0 p1 H => bc117 p0 p1 H
theorem sc117 : L2 rc117 c117 := fun _ _ H => le_eq (mc117 _ _ _) (ec117 _ _ _)

def c79 (p0 p1 : AV) (H : Hp) : Res := callw cfg 79 [p0, p1] H
def j79_1 (H0 : Hp) (x6 : AV) (H : Hp) : Res := CXf 79 19 (sub (bodyOf Tryz.f79) [1, 1, 1]) (retL cfg 19 79 Tryz.f79 H0) [(6, x6)] H
def b79_1 (x6 : AV) (H : Hp) : Res :=
  some (x6, H)
theorem e79_1 (H0 : Hp) (x6 : AV) (H : Hp) : j79_1 H0 x6 H = b79_1 x6 H := (CXM_eq [4] _ _ _ _).trans (by kernel_rfl)
theorem m79_1 : L1 (b79_1) (b79_1) := fun _ _ =>
  le_refl _
def rj79_1 : A1 := b79_1
theorem sj79_1 (H0 : Hp) : L1 (rj79_1) (j79_1 H0) := fun _ _ => le_eq (m79_1 _ _) (e79_1 H0 _ _)
def bc79 (c116 : A2) (c117 : A2) (j79_1 : A1) (p0 p1 : AV) (H : Hp) : Res :=
  bnd (c116 p0 p1 H) fun r10 =>
  bnd (aext r10.1 0) fun t11 =>
  bnd (aext r10.1 1) fun t12 =>
  bnd (ibin .eql t12 (.int .i64 0)) fun t14 =>
  cnd t14
    (bnd (c117 p0 p1 r10.2) fun r17 =>
    j79_1 t12 r17.2)
    (j79_1 t12 r10.2)
theorem ec79 (p0 p1 : AV) (H : Hp) : c79 p0 p1 H = bc79 c116 c117 (j79_1 H) p0 p1 H := (callw_cxm (C := cfg) (fn := Tryz.f79) (c := bodyOf Tryz.f79) (n := 19) [4] Tryz.func79 (by kernel_rfl) (by kernel_rfl) [p0, p1] (by kernel_rfl) H).trans (by kernel_rfl)
theorem mc79 {c116 dc116 : A2} (hc116 : L2 c116 dc116) {c117 dc117 : A2} (hc117 : L2 c117 dc117) {j79_1 dj79_1 : A1} (hj79_1 : L1 j79_1 dj79_1) : L2 (bc79 c116 c117 j79_1) (bc79 dc116 dc117 dj79_1) := fun _ _ _ =>
  bC (hc116 _ _ _) fun _ => bR fun _ => bR fun _ => bR fun _ => bK (bC (hc117 _ _ _) fun _ => hj79_1 _ _) (hj79_1 _ _)
def rc79 : A2 := fun p0 p1 H => bc79 rc116 rc117 (rj79_1) p0 p1 H
theorem sc79 : L2 rc79 c79 := fun _ _ H => le_eq (mc79 sc116 sc117 (sj79_1 H) _ _ _) (ec79 _ _ _)

def c28 (p0 p1 p2 : AV) (H : Hp) : Res := callw cfg 28 [p0, p1, p2] H
def j28_3 (H0 : Hp) (x0 x1 x2 : AV) (H : Hp) : Res := CXf 28 39 (sub (bodyOf Tryz.f28) [1, 1, 1, 1]) (retL cfg 39 28 Tryz.f28 H0) [(0, x0), (1, x1), (2, x2)] H
def k28_1 (H0 : Hp) : KL := seqL (fun k al H => CXf 28 39 (sub (bodyOf Tryz.f28) [1, 1, 1, 1]) k (trimL (cfg.keep 28) (sub (bodyOf Tryz.f28) [1, 1, 1, 1]) al) H) (retL cfg 39 28 Tryz.f28 H0)
theorem k28_1_tame (H0 : Hp) : Tame 39 (k28_1 H0) := tame_seq (C := cfg) (kp := cfg.keep 28) (sub (bodyOf Tryz.f28) [1, 1, 1, 1]) (tame_ret 28 Tryz.f28 H0)
def j28_5 (H0 : Hp) (x0 x1 x2 x18 x19 x20 : AV) (H : Hp) : Res := CXf 28 39 (sub (bodyOf Tryz.f28) [1, 1, 1, 0, 1, 0, 0, 1, 1, 1]) (seqL (fun k al H => LPf 28 39 (sub (bodyOf Tryz.f28) [1, 1, 1, 0, 1, 0, 0]) k (trimL (cfg.keep 28) (sub (bodyOf Tryz.f28) [1, 1, 1, 0, 1, 0, 0]) al) H) (blockL 0 (k28_1 H0))) [(0, x0), (1, x1), (2, x2), (18, x18), (19, x19), (20, x20)] H
def j28_4 (H0 : Hp) (x0 x1 x2 x18 x19 x20 x21 : AV) (H : Hp) : Res := CXf 28 39 (sub (bodyOf Tryz.f28) [1, 1, 1, 0, 1, 0, 0, 1, 1]) (seqL (fun k al H => LPf 28 39 (sub (bodyOf Tryz.f28) [1, 1, 1, 0, 1, 0, 0]) k (trimL (cfg.keep 28) (sub (bodyOf Tryz.f28) [1, 1, 1, 0, 1, 0, 0]) al) H) (blockL 0 (k28_1 H0))) [(0, x0), (1, x1), (2, x2), (18, x18), (19, x19), (20, x20), (21, x21)] H
def j28_l1 (H0 : Hp) (x0 x1 x2 x18 x19 x20 : AV) (H : Hp) : Res := LPf 28 39 (sub (bodyOf Tryz.f28) [1, 1, 1, 0, 1, 0, 0]) (blockL 0 (k28_1 H0)) [(0, x0), (1, x1), (2, x2), (18, x18), (19, x19), (20, x20)] H
def j28_2 (H0 : Hp) (x0 x1 x2 : AV) (H : Hp) : Res := CXf 28 39 (sub (bodyOf Tryz.f28) [1, 1, 1]) (retL cfg 39 28 Tryz.f28 H0) [(0, x0), (1, x1), (2, x2)] H
def j28_1 (H0 : Hp) (x0 x1 x2 : AV) (H : Hp) : Res := CXf 28 39 (sub (bodyOf Tryz.f28) [1, 1]) (retL cfg 39 28 Tryz.f28 H0) [(0, x0), (1, x1), (2, x2)] H
def b28_3 (x0 x1 x2 : AV) (H : Hp) : Res :=
  bnd (some ((.map H.length), H ++ [.map [] 0])) fun r33 =>
  bnd ((afill [(0, 1, x0), (1, 1, x1), (3, 1, r33.1)] [.nilp, (.str []), .nils, .nilm]).map .agg) fun t34 =>
  bnd (amax2 (.int .i64 0) x2) fun t36 =>
  bnd ((afill [(0, 4, t34), (4, 1, t36)] [.nilp, (.str []), .nils, .nilm, (.int .i64 0), (.int .i64 0), (.bool false)]).map .agg) fun t37 =>
  bnd (abox t37 r33.2) fun r38 =>
  some ((.tuple [r38.1, (.int .i64 0)]), r38.2)
theorem e28_3 (H0 : Hp) (x0 x1 x2 : AV) (H : Hp) : j28_3 H0 x0 x1 x2 H = b28_3 x0 x1 x2 H := (CXM_eq [3, 5, 7, 11, 12] _ _ _ _).trans (by kernel_rfl)
theorem m28_3 : L3 (b28_3) (b28_3) := fun _ _ _ _ =>
  bR fun _ => bR fun _ => bR fun _ => bR fun _ => bR fun _ => le_refl _
def b28_5 (j28_l1 : A6) (x0 x1 x2 x18 x19 x20 : AV) (H : Hp) : Res :=
  bnd (ibin .add x20 (.int .i64 1)) fun t30 =>
  j28_l1 x0 x1 x2 x18 x19 t30 H
theorem e28_5 (H0 : Hp) (x0 x1 x2 x18 x19 x20 : AV) (H : Hp) : j28_5 H0 x0 x1 x2 x18 x19 x20 H = b28_5 (j28_l1 H0) x0 x1 x2 x18 x19 x20 H := (CXM_eq [3, 5, 7, 11, 12] _ _ _ _).trans (by kernel_rfl)
theorem m28_5 {j28_l1 dj28_l1 : A6} (hj28_l1 : L6 j28_l1 dj28_l1) : L6 (b28_5 j28_l1) (b28_5 dj28_l1) := fun _ _ _ _ _ _ _ =>
  bR fun _ => hj28_l1 _ _ _ _ _ _ _
def b28_4 (c79 : A2) (j28_5 : A6) (x0 x1 x2 x18 x19 x20 x21 : AV) (H : Hp) : Res :=
  bnd (aindexS 1 x18 x20) fun t22 =>
  bnd (aload false 1 t22 H) fun t23 =>
  bnd (c79 x0 t23 H) fun r26 =>
  bnd (ibin .neq r26.1 (.int .i64 0)) fun t28 =>
  cnd t28
    (some ((.tuple [.nilp, r26.1]), r26.2))
    (j28_5 x0 x1 x2 x18 x19 x20 r26.2)
theorem e28_4 (H0 : Hp) (x0 x1 x2 x18 x19 x20 x21 : AV) (H : Hp) : j28_4 H0 x0 x1 x2 x18 x19 x20 x21 H = b28_4 c79 (j28_5 H0) x0 x1 x2 x18 x19 x20 x21 H := (CXM_eq [3, 5, 7, 11, 12] _ _ _ _).trans (by kernel_rfl)
theorem m28_4 {c79 dc79 : A2} (hc79 : L2 c79 dc79) {j28_5 dj28_5 : A6} (hj28_5 : L6 j28_5 dj28_5) : L7 (b28_4 c79 j28_5) (b28_4 dc79 dj28_5) := fun _ _ _ _ _ _ _ _ =>
  bR fun _ => bR fun _ => bC (hc79 _ _ _) fun _ => bR fun _ => bK (le_refl _) (hj28_5 _ _ _ _ _ _ _)
def b28_l1 (j28_3 : A3) (j28_4 : A7) (x0 x1 x2 x18 x19 x20 : AV) (H : Hp) : Res :=
  bnd (ibin .lss x20 x19) fun t21 =>
  cnd t21
    (j28_4 x0 x1 x2 x18 x19 x20 t21 H)
    (j28_3 x0 x1 x2 H)
theorem e28_l1 (H0 : Hp) (x0 x1 x2 x18 x19 x20 : AV) (H : Hp) : j28_l1 H0 x0 x1 x2 x18 x19 x20 H = b28_l1 (j28_3 H0) (j28_4 H0) x0 x1 x2 x18 x19 x20 H := (LPL_eqm (C := cfg) [3, 5, 7, 11, 12] (tame_block 0 (k28_1_tame H0)) _ _).trans (by kernel_rfl)
theorem m28_l1 {j28_3 dj28_3 : A3} (hj28_3 : L3 j28_3 dj28_3) {j28_4 dj28_4 : A7} (hj28_4 : L7 j28_4 dj28_4) : L6 (b28_l1 j28_3 j28_4) (b28_l1 dj28_3 dj28_4) := fun _ _ _ _ _ _ _ =>
  bR fun _ => bK (hj28_4 _ _ _ _ _ _ _ _) (hj28_3 _ _ _ _)
def b28_2 (q78 : A2) (j28_l1 : A6) (x0 x1 x2 : AV) (H : Hp) : Res :=
  bnd (q78 x0 x1 H) fun r18 =>
  bnd (alenD (.slice 9) r18.1) fun t19 =>
  j28_l1 x0 x1 x2 r18.1 t19 (.int .i64 0) r18.2
theorem e28_2 (H0 : Hp) (x0 x1 x2 : AV) (H : Hp) : j28_2 H0 x0 x1 x2 H = b28_2 q78 (j28_l1 H0) x0 x1 x2 H := (CXM_eq [3, 5, 7, 11, 12] _ _ _ _).trans (by kernel_rfl)
theorem m28_2 {q78 dq78 : A2} (hq78 : L2 q78 dq78) {j28_l1 dj28_l1 : A6} (hj28_l1 : L6 j28_l1 dj28_l1) : L3 (b28_2 q78 j28_l1) (b28_2 dq78 dj28_l1) := fun _ _ _ _ =>
  bC (hq78 _ _ _) fun _ => bR fun _ => hj28_l1 _ _ _ _ _ _ _
def b28_1 (q77 : A1) (j28_2 : A3) (x0 x1 x2 : AV) (H : Hp) : Res :=
  bnd (q77 x1 H) fun r14 =>
  bnd (aun .not r14.1) fun t15 =>
  cnd t15
    (some ((.tuple [.nilp, (.int .i64 4)]), r14.2))
    (j28_2 x0 x1 x2 r14.2)
theorem e28_1 (H0 : Hp) (x0 x1 x2 : AV) (H : Hp) : j28_1 H0 x0 x1 x2 H = b28_1 q77 (j28_2 H0) x0 x1 x2 H := (CXM_eq [3, 5, 7, 11, 12] _ _ _ _).trans (by kernel_rfl)
theorem m28_1 {q77 dq77 : A1} (hq77 : L1 q77 dq77) {j28_2 dj28_2 : A3} (hj28_2 : L3 j28_2 dj28_2) : L3 (b28_1 q77 j28_2) (b28_1 dq77 dj28_2) := fun _ _ _ _ =>
  bC (hq77 _ _) fun _ => bR fun _ => bK (le_refl _) (hj28_2 _ _ _ _)
def rj28_3 : A3 := b28_3
theorem sj28_3 (H0 : Hp) : L3 (rj28_3) (j28_3 H0) := fun _ _ _ _ => le_eq (m28_3 _ _ _ _) (e28_3 H0 _ _ _ _)
def rj28_5 (j28_l1 : A6) : A6 := b28_5 j28_l1
theorem sj28_5 (H0 : Hp) {yj28_l1 : A6} (hj28_l1 : L6 yj28_l1 (j28_l1 H0)) : L6 (rj28_5 yj28_l1) (j28_5 H0) := fun _ _ _ _ _ _ _ => le_eq (m28_5 hj28_l1 _ _ _ _ _ _ _) (e28_5 H0 _ _ _ _ _ _ _)
def rj28_4 (j28_l1 : A6) : A7 := b28_4 rc79 (rj28_5 j28_l1)
theorem sj28_4 (H0 : Hp) {yj28_l1 : A6} (hj28_l1 : L6 yj28_l1 (j28_l1 H0)) : L7 (rj28_4 yj28_l1) (j28_4 H0) := fun _ _ _ _ _ _ _ _ => le_eq (m28_4 sc79 (sj28_5 H0 hj28_l1) _ _ _ _ _ _ _ _) (e28_4 H0 _ _ _ _ _ _ _ _)
def rj28_l1 (n : Nat) : A6 := @Nat.rec (fun _ => A6) (fun _ _ _ _ _ _ _ => none) (fun _ j28_l1 => b28_l1 (rj28_3) (rj28_4 j28_l1)) n
theorem sj28_l1 (H0 : Hp) (n : Nat) : L6 (rj28_l1 n) (j28_l1 H0) := by
  induction n with
  | zero => exact fun _ _ _ _ _ _ _ => le_none _
  | succ n hj28_l1 => exact fun _ _ _ _ _ _ _ => le_eq (m28_l1 (sj28_3 H0) (sj28_4 H0 hj28_l1) _ _ _ _ _ _ _) (e28_l1 H0 _ _ _ _ _ _ _)
def rj28_2 : A3 := b28_2 rq78 (rj28_l1 100000)
theorem sj28_2 (H0 : Hp) : L3 (rj28_2) (j28_2 H0) := fun _ _ _ _ => le_eq (m28_2 sq78 (sj28_l1 H0 100000) _ _ _ _) (e28_2 H0 _ _ _ _)
def rj28_1 : A3 := b28_1 rq77 (rj28_2)
theorem sj28_1 (H0 : Hp) : L3 (rj28_1) (j28_1 H0) := fun _ _ _ _ => le_eq (m28_1 sq77 (sj28_2 H0) _ _ _ _) (e28_1 H0 _ _ _ _)
def bc28 (j28_1 : A3) (p0 p1 p2 : AV) (H : Hp) : Res :=
  bnd (ebin (.pointer 120) .eql p0 .nilp) fun t12 =>
  cnd t12
    (some ((.tuple [.nilp, (.int .i64 5)]), H))
    (j28_1 p0 p1 p2 H)
theorem ec28 (p0 p1 p2 : AV) (H : Hp) : c28 p0 p1 p2 H = bc28 (j28_1 H) p0 p1 p2 H := (callw_cxm (C := cfg) (fn := Tryz.f28) (c := bodyOf Tryz.f28) (n := 39) [3, 5, 7, 11, 12] Tryz.func28 (by kernel_rfl) (by kernel_rfl) [p0, p1, p2] (by kernel_rfl) H).trans (by kernel_rfl)
theorem mc28 {j28_1 dj28_1 : A3} (hj28_1 : L3 j28_1 dj28_1) : L3 (bc28 j28_1) (bc28 dj28_1) := fun _ _ _ _ =>
  bR fun _ => bK (le_refl _) (hj28_1 _ _ _ _)
def rc28 : A3 := fun p0 p1 p2 H => bc28 (rj28_1) p0 p1 p2 H
theorem sc28 : L3 rc28 c28 := fun _ _ _ H => le_eq (mc28 (sj28_1 H) _ _ _ _) (ec28 _ _ _ _)

def c29 (p0 : AV) (H : Hp) : Res := callw cfg 29 [p0] H
def bc29 (p0 : AV) (H : Hp) : Res :=
  bnd (amax2 p0 (.int .i64 0)) fun t4 =>
  bnd (amin2 t4 (.int .i64 262144)) fun t5 =>
  bnd (some ((.map H.length), H ++ [.map [] 0])) fun r6 =>
  bnd ((afill [(0, 1, t5), (3, 1, r6.1)] [(.int .i64 0), (.int .i64 0), (.int .i64 0), .nilm, (.bool false), (.int .i64 0)]).map .agg) fun t7 =>
  bnd (abox t7 r6.2) fun r8 =>
  some (r8.1, r8.2)
theorem ec29 (p0 : AV) (H : Hp) : c29 p0 H = bc29 p0 H := (callw_cxm (C := cfg) (fn := Tryz.f29) (c := bodyOf Tryz.f29) (n := 9) [] Tryz.func29 (by kernel_rfl) (by kernel_rfl) [p0] (by kernel_rfl) H).trans (by kernel_rfl)
theorem mc29 : L1 (bc29) (bc29) := fun _ _ =>
  bR fun _ => bR fun _ => bR fun _ => bR fun _ => bR fun _ => le_refl _
def rc29 : A1 := fun p0 H => bc29 p0 H
theorem sc29 : L1 rc29 c29 := fun _ H => le_eq (mc29 _ _) (ec29 _ _)

def c118 (p0 : AV) (H : Hp) : Res := callw cfg 118 [p0] H
def bc118 (p0 : AV) (H : Hp) : Res :=
  bnd (sumC itoaA [p0] H) fun r4 =>
  some (r4.1, r4.2)
theorem ec118 (p0 : AV) (H : Hp) : c118 p0 H = bc118 p0 H := (callw_cxm (C := cfg) (fn := Tryz.f118) (c := bodyOf Tryz.f118) (n := 5) [] Tryz.func118 (by kernel_rfl) (by kernel_rfl) [p0] (by kernel_rfl) H).trans (by kernel_rfl)
theorem mc118 : L1 (bc118) (bc118) := fun _ _ =>
  bR fun _ => le_refl _
def rc118 : A1 := fun p0 H => bc118 p0 H
theorem sc118 : L1 rc118 c118 := fun _ H => le_eq (mc118 _ _) (ec118 _ _)
def q118 : A1 := fun p0 H => flatC (callw cfg 118) [p0] H
def rq118 : A1 := fun p0 H => flatC (ofL1 (rc118)) [p0] H
theorem sq118 : L1 rq118 q118 := fun _ _ => flat_le (ofL1_le (sc118)) _ _

def c169 (p0 : AV) (H : Hp) : Res := callw cfg 169 [p0] H
def j169_1 (H0 : Hp) (x0 : AV) (H : Hp) : Res := CXf 169 58 (sub (bodyOf Tryz.f169) [1, 1]) (retL cfg 58 169 Tryz.f169 H0) [(0, x0)] H
def k169_1 (H0 : Hp) : KL := seqL (fun k al H => CXf 169 58 (sub (bodyOf Tryz.f169) [1, 1]) k (trimL (cfg.keep 169) (sub (bodyOf Tryz.f169) [1, 1]) al) H) (retL cfg 58 169 Tryz.f169 H0)
theorem k169_1_tame (H0 : Hp) : Tame 58 (k169_1 H0) := tame_seq (C := cfg) (kp := cfg.keep 169) (sub (bodyOf Tryz.f169) [1, 1]) (tame_ret 169 Tryz.f169 H0)
def j169_3 (H0 : Hp) (x0 x7 x8 : AV) (H : Hp) : Res := CXf 169 58 (sub (bodyOf Tryz.f169) [1, 0, 1, 0, 0, 1, 1, 1]) (seqL (fun k al H => LPf 169 58 (sub (bodyOf Tryz.f169) [1, 0, 1, 0, 0]) k (trimL (cfg.keep 169) (sub (bodyOf Tryz.f169) [1, 0, 1, 0, 0]) al) H) (blockL 0 (k169_1 H0))) [(0, x0), (7, x7), (8, x8)] H
def j169_2 (H0 : Hp) (x0 x7 x8 x9 : AV) (H : Hp) : Res := CXf 169 58 (sub (bodyOf Tryz.f169) [1, 0, 1, 0, 0, 1, 1]) (seqL (fun k al H => LPf 169 58 (sub (bodyOf Tryz.f169) [1, 0, 1, 0, 0]) k (trimL (cfg.keep 169) (sub (bodyOf Tryz.f169) [1, 0, 1, 0, 0]) al) H) (blockL 0 (k169_1 H0))) [(0, x0), (7, x7), (8, x8), (9, x9)] H
def j169_l1 (H0 : Hp) (x0 x7 x8 : AV) (H : Hp) : Res := LPf 169 58 (sub (bodyOf Tryz.f169) [1, 0, 1, 0, 0]) (blockL 0 (k169_1 H0)) [(0, x0), (7, x7), (8, x8)] H
def b169_1 (x0 : AV) (H : Hp) : Res :=
  bnd (sbin .neq x0 (.str [])) fun t52 =>
  bnd (gdv t52 true (.tuple []) (some x0)) fun t54 =>
  bnd (gdv t52 true (.tuple []) (alenD .string t54)) fun t55 =>
  bnd (gdv t52 true (.tuple []) (ibin .leq t55 (.int .i64 32))) fun t56 =>
  bnd (apick t52 t56 (.bool false)) fun t57 =>
  some (t57, H)
theorem e169_1 (H0 : Hp) (x0 : AV) (H : Hp) : j169_1 H0 x0 H = b169_1 x0 H := (CXM_eq [3, 8, 9] _ _ _ _).trans (by kernel_rfl)
theorem m169_1 : L1 (b169_1) (b169_1) := fun _ _ =>
  bR fun _ => bR fun _ => bR fun _ => bR fun _ => bR fun _ => le_refl _
def b169_3 (j169_l1 : A3) (x0 x7 x8 : AV) (H : Hp) : Res :=
  bnd (ibin .add x8 (.int .i64 1)) fun t50 =>
  j169_l1 x0 x7 t50 H
theorem e169_3 (H0 : Hp) (x0 x7 x8 : AV) (H : Hp) : j169_3 H0 x0 x7 x8 H = b169_3 (j169_l1 H0) x0 x7 x8 H := (CXM_eq [3, 8, 9] _ _ _ _).trans (by kernel_rfl)
theorem m169_3 {j169_l1 dj169_l1 : A3} (hj169_l1 : L3 j169_l1 dj169_l1) : L3 (b169_3 j169_l1) (b169_3 dj169_l1) := fun _ _ _ _ =>
  bR fun _ => hj169_l1 _ _ _ _
def b169_2 (j169_3 : A3) (x0 x7 x8 x9 : AV) (H : Hp) : Res :=
  bnd (aindexStr x0 x8) fun t13 =>
  bnd (ibin .geq t13 (.int .u8 97)) fun t15 =>
  bnd (gdv t15 true (.tuple []) (some t13)) fun t17 =>
  bnd (gdv t15 true (.tuple []) (ibin .leq t17 (.int .u8 122))) fun t18 =>
  bnd (apick t15 t18 (.bool false)) fun t19 =>
  bnd (gdv t19 false (.tuple []) (some t13)) fun t21 =>
  bnd (gdv t19 false (.tuple []) (ibin .geq t21 (.int .u8 65))) fun t22 =>
  bnd (gdv t19 false (.tuple []) (some t22)) fun t23 =>
  bnd (gdv t23 true (.tuple []) (some t13)) fun t24 =>
  bnd (gdv t23 true (.tuple []) (ibin .leq t24 (.int .u8 90))) fun t25 =>
  bnd (gdv t19 false (.tuple []) (apick t23 t25 (.bool false))) fun t26 =>
  bnd (apick t19 (.bool true) t26) fun t27 =>
  bnd (gdv t27 false (.tuple []) (some t13)) fun t29 =>
  bnd (gdv t27 false (.tuple []) (ibin .eql t29 (.int .u8 95))) fun t30 =>
  bnd (apick t27 (.bool true) t30) fun t31 =>
  bnd (gdv t31 false (.tuple []) (some t13)) fun t33 =>
  bnd (gdv t31 false (.tuple []) (ibin .eql t33 (.int .u8 46))) fun t34 =>
  bnd (apick t31 (.bool true) t34) fun t35 =>
  bnd (aun .not t35) fun t37 =>
  bnd (gdv t37 true (.tuple []) (some x8)) fun t39 =>
  bnd (gdv t37 true (.tuple []) (ibin .eql t39 (.int .i64 0))) fun t40 =>
  bnd (gdv t37 true (.tuple []) (some t40)) fun t41 =>
  bnd (gdv t41 false (.tuple []) (some t13)) fun t42 =>
  bnd (gdv t41 false (.tuple []) (ibin .lss t42 (.int .u8 48))) fun t43 =>
  bnd (gdv t37 true (.tuple []) (apick t41 (.bool true) t43)) fun t44 =>
  bnd (gdv t37 true (.tuple []) (some t44)) fun t45 =>
  bnd (gdv t45 false (.tuple []) (some t13)) fun t46 =>
  bnd (gdv t45 false (.tuple []) (ibin .gtr t46 (.int .u8 57))) fun t47 =>
  bnd (gdv t37 true (.tuple []) (apick t45 (.bool true) t47)) fun t48 =>
  bnd (apick t37 t48 (.bool false)) fun t49 =>
  cnd t49
    (some ((.bool false), H))
    (j169_3 x0 x7 x8 H)
theorem e169_2 (H0 : Hp) (x0 x7 x8 x9 : AV) (H : Hp) : j169_2 H0 x0 x7 x8 x9 H = b169_2 (j169_3 H0) x0 x7 x8 x9 H := (CXM_eq [3, 8, 9] _ _ _ _).trans (by kernel_rfl)
theorem m169_2 {j169_3 dj169_3 : A3} (hj169_3 : L3 j169_3 dj169_3) : L4 (b169_2 j169_3) (b169_2 dj169_3) := fun _ _ _ _ _ =>
  bR fun _ => bR fun _ => bR fun _ => bR fun _ => bR fun _ => bR fun _ => bR fun _ => bR fun _ => bR fun _ => bR fun _ => bR fun _ => bR fun _ => bR fun _ => bR fun _ => bR fun _ => bR fun _ => bR fun _ => bR fun _ => bR fun _ => bR fun _ => bR fun _ => bR fun _ => bR fun _ => bR fun _ => bR fun _ => bR fun _ => bR fun _ => bR fun _ => bR fun _ => bR fun _ => bK (le_refl _) (hj169_3 _ _ _ _)
def b169_l1 (j169_1 : A1) (j169_2 : A4) (x0 x7 x8 : AV) (H : Hp) : Res :=
  bnd (ibin .lss x8 x7) fun t9 =>
  cnd t9
    (j169_2 x0 x7 x8 t9 H)
    (j169_1 x0 H)
theorem e169_l1 (H0 : Hp) (x0 x7 x8 : AV) (H : Hp) : j169_l1 H0 x0 x7 x8 H = b169_l1 (j169_1 H0) (j169_2 H0) x0 x7 x8 H := (LPL_eqm (C := cfg) [3, 8, 9] (tame_block 0 (k169_1_tame H0)) _ _).trans (by kernel_rfl)
theorem m169_l1 {j169_1 dj169_1 : A1} (hj169_1 : L1 j169_1 dj169_1) {j169_2 dj169_2 : A4} (hj169_2 : L4 j169_2 dj169_2) : L3 (b169_l1 j169_1 j169_2) (b169_l1 dj169_1 dj169_2) := fun _ _ _ _ =>
  bR fun _ => bK (hj169_2 _ _ _ _ _) (hj169_1 _ _)
def rj169_1 : A1 := b169_1
theorem sj169_1 (H0 : Hp) : L1 (rj169_1) (j169_1 H0) := fun _ _ => le_eq (m169_1 _ _) (e169_1 H0 _ _)
def rj169_3 (j169_l1 : A3) : A3 := b169_3 j169_l1
theorem sj169_3 (H0 : Hp) {yj169_l1 : A3} (hj169_l1 : L3 yj169_l1 (j169_l1 H0)) : L3 (rj169_3 yj169_l1) (j169_3 H0) := fun _ _ _ _ => le_eq (m169_3 hj169_l1 _ _ _ _) (e169_3 H0 _ _ _ _)
def rj169_2 (j169_l1 : A3) : A4 := b169_2 (rj169_3 j169_l1)
theorem sj169_2 (H0 : Hp) {yj169_l1 : A3} (hj169_l1 : L3 yj169_l1 (j169_l1 H0)) : L4 (rj169_2 yj169_l1) (j169_2 H0) := fun _ _ _ _ _ => le_eq (m169_2 (sj169_3 H0 hj169_l1) _ _ _ _ _) (e169_2 H0 _ _ _ _ _)
def rj169_l1 (n : Nat) : A3 := @Nat.rec (fun _ => A3) (fun _ _ _ _ => none) (fun _ j169_l1 => b169_l1 (rj169_1) (rj169_2 j169_l1)) n
theorem sj169_l1 (H0 : Hp) (n : Nat) : L3 (rj169_l1 n) (j169_l1 H0) := by
  induction n with
  | zero => exact fun _ _ _ _ => le_none _
  | succ n hj169_l1 => exact fun _ _ _ _ => le_eq (m169_l1 (sj169_1 H0) (sj169_2 H0 hj169_l1) _ _ _ _) (e169_l1 H0 _ _ _ _)
def bc169 (j169_l1 : A3) (p0 : AV) (H : Hp) : Res :=
  bnd (alenD .string p0) fun t7 =>
  j169_l1 p0 t7 (.int .i64 0) H
theorem ec169 (p0 : AV) (H : Hp) : c169 p0 H = bc169 (j169_l1 H) p0 H := (callw_cxm (C := cfg) (fn := Tryz.f169) (c := bodyOf Tryz.f169) (n := 58) [3, 8, 9] Tryz.func169 (by kernel_rfl) (by kernel_rfl) [p0] (by kernel_rfl) H).trans (by kernel_rfl)
theorem mc169 {j169_l1 dj169_l1 : A3} (hj169_l1 : L3 j169_l1 dj169_l1) : L1 (bc169 j169_l1) (bc169 dj169_l1) := fun _ _ =>
  bR fun _ => hj169_l1 _ _ _ _
def rc169 : A1 := fun p0 H => bc169 (rj169_l1 100000) p0 H
theorem sc169 : L1 rc169 c169 := fun _ H => le_eq (mc169 (sj169_l1 H 100000) _ _) (ec169 _ _)
def q169 : A1 := fun p0 H => flatC (callw cfg 169) [p0] H
def rq169 : A1 := fun p0 H => flatC (ofL1 (rc169)) [p0] H
theorem sq169 : L1 rq169 q169 := fun _ _ => flat_le (ofL1_le (sc169)) _ _

def c119 (p0 p1 : AV) (H : Hp) : Res := callw cfg 119 [p0, p1] H
def j119_2 (H0 : Hp) (x0 x1 : AV) (H : Hp) : Res := CXf 119 46 (sub (bodyOf Tryz.f119) [1, 1, 1]) (retL cfg 46 119 Tryz.f119 H0) [(0, x0), (1, x1)] H
def j119_1 (H0 : Hp) (x0 x1 : AV) (H : Hp) : Res := CXf 119 46 (sub (bodyOf Tryz.f119) [1, 1]) (retL cfg 46 119 Tryz.f119 H0) [(0, x0), (1, x1)] H
def b119_2 (x0 x1 : AV) (H : Hp) : Res :=
  bnd (anil x0) fun t40 =>
  bnd (afield 3 t40) fun t41 =>
  bnd (aload false 1 t41 H) fun t42 =>
  bnd (some (.agg [.nils, (.int .i64 0)])) fun t44 =>
  bnd (abox t44 H) fun r45 =>
  bnd (amapSet .string t42 x1 r45.1 r45.2) fun r_6 =>
  some ((.int .i64 0), r_6.2)
theorem e119_2 (H0 : Hp) (x0 x1 : AV) (H : Hp) : j119_2 H0 x0 x1 H = b119_2 x0 x1 H := (CXM_eq [11, 13] _ _ _ _).trans (by kernel_rfl)
theorem m119_2 : L2 (b119_2) (b119_2) := fun _ _ _ =>
  bR fun _ => bR fun _ => bR fun _ => bR fun _ => bR fun _ => bR fun _ => le_refl _
def b119_1 (j119_2 : A2) (x0 x1 : AV) (H : Hp) : Res :=
  bnd (anil x0) fun t31 =>
  bnd (afield 3 t31) fun t32 =>
  bnd (aload false 1 t32 H) fun t33 =>
  bnd (ebin (.map 9 129) .eql t33 .nilm) fun t34 =>
  cnd t34
    (bnd (some ((.map H.length), H ++ [.map [] 0])) fun r36 =>
    bnd (anil x0) fun t37 =>
    bnd (afield 3 t37) fun t38 =>
    bnd (astoreU 1 t38 r36.1 r36.2) fun r_14 =>
    j119_2 x0 x1 r_14.2)
    (j119_2 x0 x1 H)
theorem e119_1 (H0 : Hp) (x0 x1 : AV) (H : Hp) : j119_1 H0 x0 x1 H = b119_1 (j119_2 H0) x0 x1 H := (CXM_eq [11, 13] _ _ _ _).trans (by kernel_rfl)
theorem m119_1 {j119_2 dj119_2 : A2} (hj119_2 : L2 j119_2 dj119_2) : L2 (b119_1 j119_2) (b119_1 dj119_2) := fun _ _ _ =>
  bR fun _ => bR fun _ => bR fun _ => bR fun _ => bK (bR fun _ => bR fun _ => bR fun _ => bR fun _ => hj119_2 _ _ _) (hj119_2 _ _ _)
def rj119_2 : A2 := b119_2
theorem sj119_2 (H0 : Hp) : L2 (rj119_2) (j119_2 H0) := fun _ _ _ => le_eq (m119_2 _ _ _) (e119_2 H0 _ _ _)
def rj119_1 : A2 := b119_1 (rj119_2)
theorem sj119_1 (H0 : Hp) : L2 (rj119_1) (j119_1 H0) := fun _ _ _ => le_eq (m119_1 (sj119_2 H0) _ _ _) (e119_1 H0 _ _ _)
def bc119 (c167 : A1) (q169 : A1) (j119_1 : A2) (p0 p1 : AV) (H : Hp) : Res :=
  bnd (ebin (.pointer 120) .eql p0 .nilp) fun t7 =>
  cnd t7
    (some ((.int .i64 5), H))
    (bnd (c167 p0 H) fun r10 =>
    cnd r10.1
      (some ((.int .i64 19), r10.2))
      (bnd (q169 p1 r10.2) fun r13 =>
      bnd (aun .not r13.1) fun t14 =>
      cnd t14
        (some ((.int .i64 4), r13.2))
        (bnd (anil p0) fun t17 =>
        bnd (afield 3 t17) fun t18 =>
        bnd (aload false 1 t18 r13.2) fun t19 =>
        bnd (alookup .string .nilp false t19 p1 r13.2) fun t21 =>
        bnd (ebin (.pointer 131) .neq t21 .nilp) fun t22 =>
        cnd t22
          (some ((.int .i64 6), r13.2))
          (bnd (anil p0) fun t25 =>
          bnd (afield 3 t25) fun t26 =>
          bnd (aload false 1 t26 r13.2) fun t27 =>
          bnd (alenM t27 r13.2) fun t28 =>
          bnd (ibin .geq t28 (.int .i64 64)) fun t29 =>
          cnd t29
            (some ((.int .i64 3), r13.2))
            (j119_1 p0 p1 r13.2)))))
theorem ec119 (p0 p1 : AV) (H : Hp) : c119 p0 p1 H = bc119 c167 q169 (j119_1 H) p0 p1 H := (callw_cxm (C := cfg) (fn := Tryz.f119) (c := bodyOf Tryz.f119) (n := 46) [11, 13] Tryz.func119 (by kernel_rfl) (by kernel_rfl) [p0, p1] (by kernel_rfl) H).trans (by kernel_rfl)
theorem mc119 {c167 dc167 : A1} (hc167 : L1 c167 dc167) {q169 dq169 : A1} (hq169 : L1 q169 dq169) {j119_1 dj119_1 : A2} (hj119_1 : L2 j119_1 dj119_1) : L2 (bc119 c167 q169 j119_1) (bc119 dc167 dq169 dj119_1) := fun _ _ _ =>
  bR fun _ => bK (le_refl _) (bC (hc167 _ _) fun _ => bK (le_refl _) (bC (hq169 _ _) fun _ => bR fun _ => bK (le_refl _) (bR fun _ => bR fun _ => bR fun _ => bR fun _ => bR fun _ => bK (le_refl _) (bR fun _ => bR fun _ => bR fun _ => bR fun _ => bR fun _ => bK (le_refl _) (hj119_1 _ _ _)))))
def rc119 : A2 := fun p0 p1 H => bc119 rc167 rq169 (rj119_1) p0 p1 H
theorem sc119 : L2 rc119 c119 := fun _ _ H => le_eq (mc119 sc167 sq169 (sj119_1 H) _ _ _) (ec119 _ _ _)

def c80 (p0 : AV) (H : Hp) : Res := callw cfg 80 [p0] H
def j80_3 (H0 : Hp) (x0 x4 : AV) (H : Hp) : Res := CXf 80 63 (sub (bodyOf Tryz.f80) [1, 1, 1, 1, 1]) (retL cfg 63 80 Tryz.f80 H0) [(0, x0), (4, x4)] H
def j80_2 (H0 : Hp) (x0 : AV) (H : Hp) : Res := CXf 80 63 (sub (bodyOf Tryz.f80) [1, 1, 1]) (retL cfg 63 80 Tryz.f80 H0) [(0, x0)] H
def j80_1 (H0 : Hp) (x0 : AV) (H : Hp) : Res := CXf 80 63 (sub (bodyOf Tryz.f80) [1, 1]) (retL cfg 63 80 Tryz.f80 H0) [(0, x0)] H
def b80_3 (x0 x4 : AV) (H : Hp) : Res :=
  bnd (anil x0) fun t44 =>
  bnd (afield 5 t44) fun t45 =>
  bnd (aload false 1 t45 H) fun t46 =>
  bnd (ibin .add t46 (.int .i64 1)) fun t47 =>
  bnd (anil x0) fun t48 =>
  bnd (afield 5 t48) fun t49 =>
  bnd (astoreU 1 t49 t47 H) fun r_18 =>
  bnd (anil x0) fun t52 =>
  bnd (afield 0 t52) fun t53 =>
  bnd (afield 2 t53) fun t54 =>
  bnd (aload false 1 t54 r_18.2) fun t55 =>
  bnd ((setElems 1 [(0, x4)] [(.str [])]).map (.vs 1 .clip)) fun t57 =>
  bnd (aappE 1 16 t55 t57 r_18.2) fun r58 =>
  bnd (anil x0) fun t59 =>
  bnd (afield 0 t59) fun t60 =>
  bnd (afield 2 t60) fun t61 =>
  bnd (astoreU 1 t61 r58.1 r58.2) fun r_28 =>
  some ((.tuple [x4, (.int .i64 0)]), r_28.2)
theorem e80_3 (H0 : Hp) (x0 x4 : AV) (H : Hp) : j80_3 H0 x0 x4 H = b80_3 x0 x4 H := (CXM_eq [3, 5, 9] _ _ _ _).trans (by kernel_rfl)
theorem m80_3 : L2 (b80_3) (b80_3) := fun _ _ _ =>
  bR fun _ => bR fun _ => bR fun _ => bR fun _ => bR fun _ => bR fun _ => bR fun _ => bR fun _ => bR fun _ => bR fun _ => bR fun _ => bR fun _ => bR fun _ => bR fun _ => bR fun _ => bR fun _ => bR fun _ => le_refl _
def b80_2 (c119 : A2) (q114 : A1) (q118 : A1) (j80_3 : A2) (x0 : AV) (H : Hp) : Res :=
  bnd (anil x0) fun t21 =>
  bnd (afield 0 t21) fun t22 =>
  bnd (afield 1 t22) fun t23 =>
  bnd (aload false 1 t23 H) fun t24 =>
  bnd (q114 t24 H) fun r25 =>
  bnd (anil x0) fun t27 =>
  bnd (afield 5 t27) fun t28 =>
  bnd (aload false 1 t28 r25.2) fun t29 =>
  bnd (ibin .add t29 (.int .i64 1)) fun t30 =>
  bnd (q118 t30 r25.2) fun r31 =>
  bnd (sbin .add r25.1 r31.1) fun t32 =>
  bnd (anil x0) fun t34 =>
  bnd (afield 0 t34) fun t35 =>
  bnd (afield 0 t35) fun t36 =>
  bnd (aload false 1 t36 r31.2) fun t37 =>
  bnd (c119 t37 t32 r31.2) fun r39 =>
  bnd (ibin .neq r39.1 (.int .i64 0)) fun t41 =>
  cnd t41
    (some ((.tuple [(.str []), r39.1]), r39.2))
    (j80_3 x0 t32 r39.2)
theorem e80_2 (H0 : Hp) (x0 : AV) (H : Hp) : j80_2 H0 x0 H = b80_2 c119 q114 q118 (j80_3 H0) x0 H := (CXM_eq [3, 5, 9] _ _ _ _).trans (by kernel_rfl)
theorem m80_2 {c119 dc119 : A2} (hc119 : L2 c119 dc119) {q114 dq114 : A1} (hq114 : L1 q114 dq114) {q118 dq118 : A1} (hq118 : L1 q118 dq118) {j80_3 dj80_3 : A2} (hj80_3 : L2 j80_3 dj80_3) : L1 (b80_2 c119 q114 q118 j80_3) (b80_2 dc119 dq114 dq118 dj80_3) := fun _ _ =>
  bR fun _ => bR fun _ => bR fun _ => bR fun _ => bC (hq114 _ _) fun _ => bR fun _ => bR fun _ => bR fun _ => bR fun _ => bC (hq118 _ _) fun _ => bR fun _ => bR fun _ => bR fun _ => bR fun _ => bR fun _ => bC (hc119 _ _ _) fun _ => bR fun _ => bK (le_refl _) (hj80_3 _ _ _)
def b80_1 (j80_2 : A1) (x0 : AV) (H : Hp) : Res :=
  bnd (anil x0) fun t9 =>
  bnd (afield 6 t9) fun t10 =>
  bnd (aload false 1 t10 H) fun t11 =>
  bnd (gdv t11 false (.tuple []) (some x0)) fun t13 =>
  bnd (gdv t11 false (.tuple []) (anil t13)) fun t14 =>
  bnd (gdv t11 false (.tuple []) (afield 0 t14)) fun t15 =>
  bnd (gdv t11 false (.tuple []) (afield 0 t15)) fun t16 =>
  bnd (gdv t11 false (.tuple []) (aload false 1 t16 H)) fun t17 =>
  bnd (gdv t11 false (.tuple []) (ebin (.pointer 120) .eql t17 .nilp)) fun t18 =>
  bnd (apick t11 (.bool true) t18) fun t19 =>
  cnd t19
    (some ((.tuple [(.str []), (.int .i64 8)]), H))
    (j80_2 x0 H)
theorem e80_1 (H0 : Hp) (x0 : AV) (H : Hp) : j80_1 H0 x0 H = b80_1 (j80_2 H0) x0 H := (CXM_eq [3, 5, 9] _ _ _ _).trans (by kernel_rfl)
theorem m80_1 {j80_2 dj80_2 : A1} (hj80_2 : L1 j80_2 dj80_2) : L1 (b80_1 j80_2) (b80_1 dj80_2) := fun _ _ =>
  bR fun _ => bR fun _ => bR fun _ => bR fun _ => bR fun _ => bR fun _ => bR fun _ => bR fun _ => bR fun _ => bR fun _ => bK (le_refl _) (hj80_2 _ _)
def rj80_3 : A2 := b80_3
theorem sj80_3 (H0 : Hp) : L2 (rj80_3) (j80_3 H0) := fun _ _ _ => le_eq (m80_3 _ _ _) (e80_3 H0 _ _ _)
def rj80_2 : A1 := b80_2 rc119 rq114 rq118 (rj80_3)
theorem sj80_2 (H0 : Hp) : L1 (rj80_2) (j80_2 H0) := fun _ _ => le_eq (m80_2 sc119 sq114 sq118 (sj80_3 H0) _ _) (e80_2 H0 _ _)
def rj80_1 : A1 := b80_1 (rj80_2)
theorem sj80_1 (H0 : Hp) : L1 (rj80_1) (j80_1 H0) := fun _ _ => le_eq (m80_1 (sj80_2 H0) _ _) (e80_1 H0 _ _)
def bc80 (j80_1 : A1) (p0 : AV) (H : Hp) : Res :=
  bnd (ebin (.pointer 117) .eql p0 .nilp) fun t7 =>
  cnd t7
    (some ((.tuple [(.str []), (.int .i64 5)]), H))
    (j80_1 p0 H)
theorem ec80 (p0 : AV) (H : Hp) : c80 p0 H = bc80 (j80_1 H) p0 H := (callw_cxm (C := cfg) (fn := Tryz.f80) (c := bodyOf Tryz.f80) (n := 63) [3, 5, 9] Tryz.func80 (by kernel_rfl) (by kernel_rfl) [p0] (by kernel_rfl) H).trans (by kernel_rfl)
theorem mc80 {j80_1 dj80_1 : A1} (hj80_1 : L1 j80_1 dj80_1) : L1 (bc80 j80_1) (bc80 dj80_1) := fun _ _ =>
  bR fun _ => bK (le_refl _) (hj80_1 _ _)
def rc80 : A1 := fun p0 H => bc80 (rj80_1) p0 H
theorem sc80 : L1 rc80 c80 := fun _ H => le_eq (mc80 (sj80_1 H) _ _) (ec80 _ _)

def c185 (p0 p1 : AV) (H : Hp) : Res := callw cfg 185 [p0, p1] H
def j185_1 (H0 : Hp) (H : Hp) : Res := CXf 185 19 (sub (bodyOf Tryz.f185) [1, 1]) (retL cfg 19 185 Tryz.f185 H0) [] H
def k185_1 (H0 : Hp) : KL := seqL (fun k al H => CXf 185 19 (sub (bodyOf Tryz.f185) [1, 1]) k (trimL (cfg.keep 185) (sub (bodyOf Tryz.f185) [1, 1]) al) H) (retL cfg 19 185 Tryz.f185 H0)
theorem k185_1_tame (H0 : Hp) : Tame 19 (k185_1 H0) := tame_seq (C := cfg) (kp := cfg.keep 185) (sub (bodyOf Tryz.f185) [1, 1]) (tame_ret 185 Tryz.f185 H0)
def j185_3 (H0 : Hp) (x0 x1 x7 x8 : AV) (H : Hp) : Res := CXf 185 19 (sub (bodyOf Tryz.f185) [1, 0, 1, 0, 0, 1, 1, 1]) (seqL (fun k al H => LPf 185 19 (sub (bodyOf Tryz.f185) [1, 0, 1, 0, 0]) k (trimL (cfg.keep 185) (sub (bodyOf Tryz.f185) [1, 0, 1, 0, 0]) al) H) (blockL 0 (k185_1 H0))) [(0, x0), (1, x1), (7, x7), (8, x8)] H
def j185_2 (H0 : Hp) (x0 x1 x7 x8 x9 : AV) (H : Hp) : Res := CXf 185 19 (sub (bodyOf Tryz.f185) [1, 0, 1, 0, 0, 1, 1]) (seqL (fun k al H => LPf 185 19 (sub (bodyOf Tryz.f185) [1, 0, 1, 0, 0]) k (trimL (cfg.keep 185) (sub (bodyOf Tryz.f185) [1, 0, 1, 0, 0]) al) H) (blockL 0 (k185_1 H0))) [(0, x0), (1, x1), (7, x7), (8, x8), (9, x9)] H
def j185_l1 (H0 : Hp) (x0 x1 x7 x8 : AV) (H : Hp) : Res := LPf 185 19 (sub (bodyOf Tryz.f185) [1, 0, 1, 0, 0]) (blockL 0 (k185_1 H0)) [(0, x0), (1, x1), (7, x7), (8, x8)] H
def b185_1 (H : Hp) : Res :=
  some ((.int .i64 (-1)), H)
theorem e185_1 (H0 : Hp) (H : Hp) : j185_1 H0 H = b185_1 H := (CXM_eq [3, 6, 7] _ _ _ _).trans (by kernel_rfl)
theorem m185_1 : L0 (b185_1) (b185_1) := fun _ =>
  le_refl _
def b185_3 (j185_l1 : A4) (x0 x1 x7 x8 : AV) (H : Hp) : Res :=
  bnd (ibin .add x8 (.int .i64 1)) fun t18 =>
  j185_l1 x0 x1 x7 t18 H
theorem e185_3 (H0 : Hp) (x0 x1 x7 x8 : AV) (H : Hp) : j185_3 H0 x0 x1 x7 x8 H = b185_3 (j185_l1 H0) x0 x1 x7 x8 H := (CXM_eq [3, 6, 7] _ _ _ _).trans (by kernel_rfl)
theorem m185_3 {j185_l1 dj185_l1 : A4} (hj185_l1 : L4 j185_l1 dj185_l1) : L4 (b185_3 j185_l1) (b185_3 dj185_l1) := fun _ _ _ _ _ =>
  bR fun _ => hj185_l1 _ _ _ _ _
def b185_2 (j185_3 : A4) (x0 x1 x7 x8 x9 : AV) (H : Hp) : Res :=
  bnd (aindexS 1 x0 x8) fun t14 =>
  bnd (aload false 1 t14 H) fun t15 =>
  bnd (sbin .eql x1 t15) fun t16 =>
  cnd t16
    (some (x8, H))
    (j185_3 x0 x1 x7 x8 H)
theorem e185_2 (H0 : Hp) (x0 x1 x7 x8 x9 : AV) (H : Hp) : j185_2 H0 x0 x1 x7 x8 x9 H = b185_2 (j185_3 H0) x0 x1 x7 x8 x9 H := (CXM_eq [3, 6, 7] _ _ _ _).trans (by kernel_rfl)
theorem m185_2 {j185_3 dj185_3 : A4} (hj185_3 : L4 j185_3 dj185_3) : L5 (b185_2 j185_3) (b185_2 dj185_3) := fun _ _ _ _ _ _ =>
  bR fun _ => bR fun _ => bR fun _ => bK (le_refl _) (hj185_3 _ _ _ _ _)
def b185_l1 (j185_1 : A0) (j185_2 : A5) (x0 x1 x7 x8 : AV) (H : Hp) : Res :=
  bnd (ibin .lss x8 x7) fun t9 =>
  cnd t9
    (j185_2 x0 x1 x7 x8 t9 H)
    (j185_1 H)
theorem e185_l1 (H0 : Hp) (x0 x1 x7 x8 : AV) (H : Hp) : j185_l1 H0 x0 x1 x7 x8 H = b185_l1 (j185_1 H0) (j185_2 H0) x0 x1 x7 x8 H := (LPL_eqm (C := cfg) [3, 6, 7] (tame_block 0 (k185_1_tame H0)) _ _).trans (by kernel_rfl)
theorem m185_l1 {j185_1 dj185_1 : A0} (hj185_1 : L0 j185_1 dj185_1) {j185_2 dj185_2 : A5} (hj185_2 : L5 j185_2 dj185_2) : L4 (b185_l1 j185_1 j185_2) (b185_l1 dj185_1 dj185_2) := fun _ _ _ _ _ =>
  bR fun _ => bK (hj185_2 _ _ _ _ _ _) (hj185_1 _)
def rj185_1 : A0 := b185_1
theorem sj185_1 (H0 : Hp) : L0 (rj185_1) (j185_1 H0) := fun _ => le_eq (m185_1 _) (e185_1 H0 _)
def rj185_3 (j185_l1 : A4) : A4 := b185_3 j185_l1
theorem sj185_3 (H0 : Hp) {yj185_l1 : A4} (hj185_l1 : L4 yj185_l1 (j185_l1 H0)) : L4 (rj185_3 yj185_l1) (j185_3 H0) := fun _ _ _ _ _ => le_eq (m185_3 hj185_l1 _ _ _ _ _) (e185_3 H0 _ _ _ _ _)
def rj185_2 (j185_l1 : A4) : A5 := b185_2 (rj185_3 j185_l1)
theorem sj185_2 (H0 : Hp) {yj185_l1 : A4} (hj185_l1 : L4 yj185_l1 (j185_l1 H0)) : L5 (rj185_2 yj185_l1) (j185_2 H0) := fun _ _ _ _ _ _ => le_eq (m185_2 (sj185_3 H0 hj185_l1) _ _ _ _ _ _) (e185_2 H0 _ _ _ _ _ _)
def rj185_l1 (n : Nat) : A4 := @Nat.rec (fun _ => A4) (fun _ _ _ _ _ => none) (fun _ j185_l1 => b185_l1 (rj185_1) (rj185_2 j185_l1)) n
theorem sj185_l1 (H0 : Hp) (n : Nat) : L4 (rj185_l1 n) (j185_l1 H0) := by
  induction n with
  | zero => exact fun _ _ _ _ _ => le_none _
  | succ n hj185_l1 => exact fun _ _ _ _ _ => le_eq (m185_l1 (sj185_1 H0) (sj185_2 H0 hj185_l1) _ _ _ _ _) (e185_l1 H0 _ _ _ _ _)
def bc185 (j185_l1 : A4) (p0 p1 : AV) (H : Hp) : Res :=
  bnd (alenD (.slice 9) p0) fun t7 =>
  j185_l1 p0 p1 t7 (.int .i64 0) H
theorem ec185 (p0 p1 : AV) (H : Hp) : c185 p0 p1 H = bc185 (j185_l1 H) p0 p1 H := (callw_cxm (C := cfg) (fn := Tryz.f185) (c := bodyOf Tryz.f185) (n := 19) [3, 6, 7] Tryz.func185 (by kernel_rfl) (by kernel_rfl) [p0, p1] (by kernel_rfl) H).trans (by kernel_rfl)
theorem mc185 {j185_l1 dj185_l1 : A4} (hj185_l1 : L4 j185_l1 dj185_l1) : L2 (bc185 j185_l1) (bc185 dj185_l1) := fun _ _ _ =>
  bR fun _ => hj185_l1 _ _ _ _ _
def rc185 : A2 := fun p0 p1 H => bc185 (rj185_l1 100000) p0 p1 H
theorem sc185 : L2 rc185 c185 := fun _ _ H => le_eq (mc185 (sj185_l1 H 100000) _ _ _) (ec185 _ _ _)
def q185 : A2 := fun p0 p1 H => flatC (callw cfg 185) [p0, p1] H
def rq185 : A2 := fun p0 p1 H => flatC (ofL2 (rc185)) [p0, p1] H
theorem sq185 : L2 rq185 q185 := fun _ _ _ => flat_le (ofL2_le (sc185)) _ _

def c146 (p0 p1 : AV) (H : Hp) : Res := callw cfg 146 [p0, p1] H
def bc146 (q185 : A2) (p0 p1 : AV) (H : Hp) : Res :=
  bnd (q185 p0 p1 H) fun r7 =>
  bnd (ibin .geq r7.1 (.int .i64 0)) fun t8 =>
  some (t8, r7.2)
theorem ec146 (p0 p1 : AV) (H : Hp) : c146 p0 p1 H = bc146 q185 p0 p1 H := (callw_cxm (C := cfg) (fn := Tryz.f146) (c := bodyOf Tryz.f146) (n := 9) [] Tryz.func146 (by kernel_rfl) (by kernel_rfl) [p0, p1] (by kernel_rfl) H).trans (by kernel_rfl)
theorem mc146 {q185 dq185 : A2} (hq185 : L2 q185 dq185) : L2 (bc146 q185) (bc146 dq185) := fun _ _ _ =>
  bC (hq185 _ _ _) fun _ => bR fun _ => le_refl _
def rc146 : A2 := fun p0 p1 H => bc146 rq185 p0 p1 H
theorem sc146 : L2 rc146 c146 := fun _ _ H => le_eq (mc146 sq185 _ _ _) (ec146 _ _ _)
def q146 : A2 := fun p0 p1 H => flatC (callw cfg 146) [p0, p1] H
def rq146 : A2 := fun p0 p1 H => flatC (ofL2 (rc146)) [p0, p1] H
theorem sq146 : L2 rq146 q146 := fun _ _ _ => flat_le (ofL2_le (sc146)) _ _

def c103 (p0 : AV) (H : Hp) : Res := callw cfg 103 [p0] H
def j103_1 (H0 : Hp) (x3 : AV) (H : Hp) : Res := CXf 103 29 (sub (bodyOf Tryz.f103) [1, 1, 1]) (retL cfg 29 103 Tryz.f103 H0) [(3, x3)] H
def k103_1 (H0 : Hp) : KL := seqL (fun k al H => CXf 103 29 (sub (bodyOf Tryz.f103) [1, 1, 1]) k (trimL (cfg.keep 103) (sub (bodyOf Tryz.f103) [1, 1, 1]) al) H) (retL cfg 29 103 Tryz.f103 H0)
theorem k103_1_tame (H0 : Hp) : Tame 29 (k103_1 H0) := tame_seq (C := cfg) (kp := cfg.keep 103) (sub (bodyOf Tryz.f103) [1, 1, 1]) (tame_ret 103 Tryz.f103 H0)
def j103_3 (H0 : Hp) (x0 x3 x10 x11 x12 : AV) (H : Hp) : Res := CXf 103 29 (sub (bodyOf Tryz.f103) [1, 1, 0, 1, 0, 0, 1, 1, 1]) (seqL (fun k al H => LPf 103 29 (sub (bodyOf Tryz.f103) [1, 1, 0, 1, 0, 0]) k (trimL (cfg.keep 103) (sub (bodyOf Tryz.f103) [1, 1, 0, 1, 0, 0]) al) H) (blockL 0 (k103_1 H0))) [(0, x0), (3, x3), (10, x10), (11, x11), (12, x12)] H
def j103_2 (H0 : Hp) (x0 x3 x10 x11 x12 x13 : AV) (H : Hp) : Res := CXf 103 29 (sub (bodyOf Tryz.f103) [1, 1, 0, 1, 0, 0, 1, 1]) (seqL (fun k al H => LPf 103 29 (sub (bodyOf Tryz.f103) [1, 1, 0, 1, 0, 0]) k (trimL (cfg.keep 103) (sub (bodyOf Tryz.f103) [1, 1, 0, 1, 0, 0]) al) H) (blockL 0 (k103_1 H0))) [(0, x0), (3, x3), (10, x10), (11, x11), (12, x12), (13, x13)] H
def j103_l1 (H0 : Hp) (x0 x3 x10 x11 x12 : AV) (H : Hp) : Res := LPf 103 29 (sub (bodyOf Tryz.f103) [1, 1, 0, 1, 0, 0]) (blockL 0 (k103_1 H0)) [(0, x0), (3, x3), (10, x10), (11, x11), (12, x12)] H
def b103_1 (x3 : AV) (H : Hp) : Res :=
  some (x3, H)
theorem e103_1 (H0 : Hp) (x3 : AV) (H : Hp) : j103_1 H0 x3 H = b103_1 x3 H := (CXM_eq [4, 7, 8] _ _ _ _).trans (by kernel_rfl)
theorem m103_1 : L1 (b103_1) (b103_1) := fun _ _ =>
  le_refl _
def b103_3 (j103_l1 : A5) (x0 x3 x10 x11 x12 : AV) (H : Hp) : Res :=
  bnd (ibin .add x12 (.int .i64 1)) fun t27 =>
  j103_l1 x0 x3 x10 x11 t27 H
theorem e103_3 (H0 : Hp) (x0 x3 x10 x11 x12 : AV) (H : Hp) : j103_3 H0 x0 x3 x10 x11 x12 H = b103_3 (j103_l1 H0) x0 x3 x10 x11 x12 H := (CXM_eq [4, 7, 8] _ _ _ _).trans (by kernel_rfl)
theorem m103_3 {j103_l1 dj103_l1 : A5} (hj103_l1 : L5 j103_l1 dj103_l1) : L5 (b103_3 j103_l1) (b103_3 dj103_l1) := fun _ _ _ _ _ _ =>
  bR fun _ => hj103_l1 _ _ _ _ _ _
def b103_2 (q146 : A2) (j103_3 : A5) (x0 x3 x10 x11 x12 x13 : AV) (H : Hp) : Res :=
  bnd (aindexS 3 x10 x12) fun t14 =>
  bnd (aload true 3 t14 H) fun t15 =>
  bnd (some ((.ptr H.length 0), H ++ [.cells [(.str []), (.int .i64 0), (.int .i64 0)]])) fun r5 =>
  bnd (astoreU 3 r5.1 t15 r5.2) fun r_11 =>
  bnd (anil x0) fun t17 =>
  bnd (afield 2 t17) fun t18 =>
  bnd (aload false 1 t18 r_11.2) fun t19 =>
  bnd (afield 0 r5.1) fun t20 =>
  bnd (aload false 1 t20 r_11.2) fun t21 =>
  bnd (q146 t19 t21 r_11.2) fun r22 =>
  cnd r22.1
    (bnd (afield 1 r5.1) fun t24 =>
    bnd (aload false 1 t24 r22.2) fun t25 =>
    bnd (ibin .add x3 t25) fun t26 =>
    j103_3 x0 t26 x10 x11 x12 r22.2)
    (j103_3 x0 x3 x10 x11 x12 r22.2)
theorem e103_2 (H0 : Hp) (x0 x3 x10 x11 x12 x13 : AV) (H : Hp) : j103_2 H0 x0 x3 x10 x11 x12 x13 H = b103_2 q146 (j103_3 H0) x0 x3 x10 x11 x12 x13 H := (CXM_eq [4, 7, 8] _ _ _ _).trans (by kernel_rfl)
theorem m103_2 {q146 dq146 : A2} (hq146 : L2 q146 dq146) {j103_3 dj103_3 : A5} (hj103_3 : L5 j103_3 dj103_3) : L6 (b103_2 q146 j103_3) (b103_2 dq146 dj103_3) := fun _ _ _ _ _ _ _ =>
  bR fun _ => bR fun _ => bR fun _ => bR fun _ => bR fun _ => bR fun _ => bR fun _ => bR fun _ => bR fun _ => bC (hq146 _ _ _) fun _ => bK (bR fun _ => bR fun _ => bR fun _ => hj103_3 _ _ _ _ _ _) (hj103_3 _ _ _ _ _ _)
def b103_l1 (j103_1 : A1) (j103_2 : A6) (x0 x3 x10 x11 x12 : AV) (H : Hp) : Res :=
  bnd (ibin .lss x12 x11) fun t13 =>
  cnd t13
    (j103_2 x0 x3 x10 x11 x12 t13 H)
    (j103_1 x3 H)
theorem e103_l1 (H0 : Hp) (x0 x3 x10 x11 x12 : AV) (H : Hp) : j103_l1 H0 x0 x3 x10 x11 x12 H = b103_l1 (j103_1 H0) (j103_2 H0) x0 x3 x10 x11 x12 H := (LPL_eqm (C := cfg) [4, 7, 8] (tame_block 0 (k103_1_tame H0)) _ _).trans (by kernel_rfl)
theorem m103_l1 {j103_1 dj103_1 : A1} (hj103_1 : L1 j103_1 dj103_1) {j103_2 dj103_2 : A6} (hj103_2 : L6 j103_2 dj103_2) : L5 (b103_l1 j103_1 j103_2) (b103_l1 dj103_1 dj103_2) := fun _ _ _ _ _ _ =>
  bR fun _ => bK (hj103_2 _ _ _ _ _ _ _) (hj103_1 _ _)
def rj103_1 : A1 := b103_1
theorem sj103_1 (H0 : Hp) : L1 (rj103_1) (j103_1 H0) := fun _ _ => le_eq (m103_1 _ _) (e103_1 H0 _ _)
def rj103_3 (j103_l1 : A5) : A5 := b103_3 j103_l1
theorem sj103_3 (H0 : Hp) {yj103_l1 : A5} (hj103_l1 : L5 yj103_l1 (j103_l1 H0)) : L5 (rj103_3 yj103_l1) (j103_3 H0) := fun _ _ _ _ _ _ => le_eq (m103_3 hj103_l1 _ _ _ _ _ _) (e103_3 H0 _ _ _ _ _ _)
def rj103_2 (j103_l1 : A5) : A6 := b103_2 rq146 (rj103_3 j103_l1)
theorem sj103_2 (H0 : Hp) {yj103_l1 : A5} (hj103_l1 : L5 yj103_l1 (j103_l1 H0)) : L6 (rj103_2 yj103_l1) (j103_2 H0) := fun _ _ _ _ _ _ _ => le_eq (m103_2 sq146 (sj103_3 H0 hj103_l1) _ _ _ _ _ _ _) (e103_2 H0 _ _ _ _ _ _ _)
def rj103_l1 (n : Nat) : A5 := @Nat.rec (fun _ => A5) (fun _ _ _ _ _ _ => none) (fun _ j103_l1 => b103_l1 (rj103_1) (rj103_2 j103_l1)) n
theorem sj103_l1 (H0 : Hp) (n : Nat) : L5 (rj103_l1 n) (j103_l1 H0) := by
  induction n with
  | zero => exact fun _ _ _ _ _ _ => le_none _
  | succ n hj103_l1 => exact fun _ _ _ _ _ _ => le_eq (m103_l1 (sj103_1 H0) (sj103_2 H0 hj103_l1) _ _ _ _ _ _) (e103_l1 H0 _ _ _ _ _ _)
def bc103 (q53 : A1) (j103_l1 : A5) (p0 : AV) (H : Hp) : Res :=
  bnd (anil p0) fun t7 =>
  bnd (afield 0 t7) fun t8 =>
  bnd (aload false 1 t8 H) fun t9 =>
  bnd (q53 t9 H) fun r10 =>
  bnd (alenD (.slice 142) r10.1) fun t11 =>
  j103_l1 p0 (.int .i64 0) r10.1 t11 (.int .i64 0) r10.2
theorem ec103 (p0 : AV) (H : Hp) : c103 p0 H = bc103 q53 (j103_l1 H) p0 H := (callw_cxm (C := cfg) (fn := Tryz.f103) (c := bodyOf Tryz.f103) (n := 29) [4, 7, 8] Tryz.func103 (by kernel_rfl) (by kernel_rfl) [p0] (by kernel_rfl) H).trans (by kernel_rfl)
theorem mc103 {q53 dq53 : A1} (hq53 : L1 q53 dq53) {j103_l1 dj103_l1 : A5} (hj103_l1 : L5 j103_l1 dj103_l1) : L1 (bc103 q53 j103_l1) (bc103 dq53 dj103_l1) := fun _ _ =>
  bR fun _ => bR fun _ => bR fun _ => bC (hq53 _ _) fun _ => bR fun _ => hj103_l1 _ _ _ _ _ _
def rc103 : A1 := fun p0 H => bc103 rq53 (rj103_l1 100000) p0 H
theorem sc103 : L1 rc103 c103 := fun _ H => le_eq (mc103 sq53 (sj103_l1 H 100000) _ _) (ec103 _ _)
def q103 : A1 := fun p0 H => roC (callw cfg 103) [p0] H
def rq103 : A1 := fun p0 H => roC (ofL1 (rc103)) [p0] H
theorem sq103 : L1 rq103 q103 := fun _ _ => ro_le (ofL1_le (sc103)) _ _

def c120 (p0 p1 : AV) (H : Hp) : Res := callw cfg 120 [p0, p1] H
def j120_1 (H0 : Hp) (H : Hp) : Res := CXf 120 22 (sub (bodyOf Tryz.f120) [1, 1]) (retL cfg 22 120 Tryz.f120 H0) [] H
def b120_1 (H : Hp) : Res :=
  some ((.int .i64 0), H)
theorem e120_1 (H0 : Hp) (H : Hp) : j120_1 H0 H = b120_1 H := (CXM_eq [7] _ _ _ _).trans (by kernel_rfl)
theorem m120_1 : L0 (b120_1) (b120_1) := fun _ =>
  le_refl _
def rj120_1 : A0 := b120_1
theorem sj120_1 (H0 : Hp) : L0 (rj120_1) (j120_1 H0) := fun _ => le_eq (m120_1 _) (e120_1 H0 _)
def bc120 (q146 : A2) (j120_1 : A0) (p0 p1 : AV) (H : Hp) : Res :=
  bnd (ebin (.pointer 117) .eql p0 .nilp) fun t7 =>
  cnd t7
    (some ((.int .i64 5), H))
    (bnd (anil p0) fun t10 =>
    bnd (afield 6 t10) fun t11 =>
    bnd (aload false 1 t11 H) fun t12 =>
    cnd t12
      (some ((.int .i64 8), H))
      (bnd (anil p0) fun t15 =>
      bnd (afield 0 t15) fun t16 =>
      bnd (afield 2 t16) fun t17 =>
      bnd (aload false 1 t17 H) fun t18 =>
      bnd (q146 t18 p1 H) fun r20 =>
      bnd (aun .not r20.1) fun t21 =>
      cnd t21
        (some ((.int .i64 5), r20.2))
        (j120_1 r20.2)))
theorem ec120 (p0 p1 : AV) (H : Hp) : c120 p0 p1 H = bc120 q146 (j120_1 H) p0 p1 H := (callw_cxm (C := cfg) (fn := Tryz.f120) (c := bodyOf Tryz.f120) (n := 22) [7] Tryz.func120 (by kernel_rfl) (by kernel_rfl) [p0, p1] (by kernel_rfl) H).trans (by kernel_rfl)
theorem mc120 {q146 dq146 : A2} (hq146 : L2 q146 dq146) {j120_1 dj120_1 : A0} (hj120_1 : L0 j120_1 dj120_1) : L2 (bc120 q146 j120_1) (bc120 dq146 dj120_1) := fun _ _ _ =>
  bR fun _ => bK (le_refl _) (bR fun _ => bR fun _ => bR fun _ => bK (le_refl _) (bR fun _ => bR fun _ => bR fun _ => bR fun _ => bC (hq146 _ _ _) fun _ => bR fun _ => bK (le_refl _) (hj120_1 _)))
def rc120 : A2 := fun p0 p1 H => bc120 rq146 (rj120_1) p0 p1 H
theorem sc120 : L2 rc120 c120 := fun _ _ H => le_eq (mc120 sq146 (sj120_1 H) _ _ _) (ec120 _ _ _)

def c208 (p0 : AV) (H : Hp) : Res := callw cfg 208 [p0] H
def j208_1 (H0 : Hp) (x3 : AV) (H : Hp) : Res := CXf 208 33 (sub (bodyOf Tryz.f208) [1, 1, 1]) (retL cfg 33 208 Tryz.f208 H0) [(3, x3)] H
def k208_1 (H0 : Hp) : KL := seqL (fun k al H => CXf 208 33 (sub (bodyOf Tryz.f208) [1, 1, 1]) k (trimL (cfg.keep 208) (sub (bodyOf Tryz.f208) [1, 1, 1]) al) H) (retL cfg 33 208 Tryz.f208 H0)
theorem k208_1_tame (H0 : Hp) : Tame 33 (k208_1 H0) := tame_seq (C := cfg) (kp := cfg.keep 208) (sub (bodyOf Tryz.f208) [1, 1, 1]) (tame_ret 208 Tryz.f208 H0)
def j208_3 (H0 : Hp) (x0 x3 x6 x7 : AV) (H : Hp) : Res := CXf 208 33 (sub (bodyOf Tryz.f208) [1, 1, 0, 1, 0, 0, 1, 1, 1]) (seqL (fun k al H => LPf 208 33 (sub (bodyOf Tryz.f208) [1, 1, 0, 1, 0, 0]) k (trimL (cfg.keep 208) (sub (bodyOf Tryz.f208) [1, 1, 0, 1, 0, 0]) al) H) (blockL 0 (k208_1 H0))) [(0, x0), (3, x3), (6, x6), (7, x7)] H
def j208_2 (H0 : Hp) (x0 x3 x6 x7 x8 : AV) (H : Hp) : Res := CXf 208 33 (sub (bodyOf Tryz.f208) [1, 1, 0, 1, 0, 0, 1, 1]) (seqL (fun k al H => LPf 208 33 (sub (bodyOf Tryz.f208) [1, 1, 0, 1, 0, 0]) k (trimL (cfg.keep 208) (sub (bodyOf Tryz.f208) [1, 1, 0, 1, 0, 0]) al) H) (blockL 0 (k208_1 H0))) [(0, x0), (3, x3), (6, x6), (7, x7), (8, x8)] H
def j208_l1 (H0 : Hp) (x0 x3 x6 x7 : AV) (H : Hp) : Res := LPf 208 33 (sub (bodyOf Tryz.f208) [1, 1, 0, 1, 0, 0]) (blockL 0 (k208_1 H0)) [(0, x0), (3, x3), (6, x6), (7, x7)] H
def b208_1 (x3 : AV) (H : Hp) : Res :=
  bnd (aun .xor x3) fun t32 =>
  some (t32, H)
theorem e208_1 (H0 : Hp) (x3 : AV) (H : Hp) : j208_1 H0 x3 H = b208_1 x3 H := (CXM_eq [4, 8, 9] _ _ _ _).trans (by kernel_rfl)
theorem m208_1 : L1 (b208_1) (b208_1) := fun _ _ =>
  bR fun _ => le_refl _
def b208_3 (j208_l1 : A4) (x0 x3 x6 x7 : AV) (H : Hp) : Res :=
  bnd (ibin .add x7 (.int .i64 1)) fun t30 =>
  j208_l1 x0 x3 x6 t30 H
theorem e208_3 (H0 : Hp) (x0 x3 x6 x7 : AV) (H : Hp) : j208_3 H0 x0 x3 x6 x7 H = b208_3 (j208_l1 H0) x0 x3 x6 x7 H := (CXM_eq [4, 8, 9] _ _ _ _).trans (by kernel_rfl)
theorem m208_3 {j208_l1 dj208_l1 : A4} (hj208_l1 : L4 j208_l1 dj208_l1) : L4 (b208_3 j208_l1) (b208_3 dj208_l1) := fun _ _ _ _ _ =>
  bR fun _ => hj208_l1 _ _ _ _ _
def b208_2 (j208_3 : A4) (x0 x3 x6 x7 x8 : AV) (H : Hp) : Res :=
  bnd (aindexStr x0 x7) fun t13 =>
  bnd (cvInt .u32 t13) fun t14 =>
  bnd (ibin .xor x3 t14) fun t15 =>
  bnd (ibin .and t15 (.int .u32 15)) fun t17 =>
  bnd (aindexA 16 1 crcV t17) fun t18 =>
  bnd (aload false 1 t18 H) fun t19 =>
  bnd (ibin .shr t15 (.int .u64 4)) fun t21 =>
  bnd (ibin .xor t19 t21) fun t22 =>
  bnd (ibin .and t22 (.int .u32 15)) fun t24 =>
  bnd (aindexA 16 1 crcV t24) fun t25 =>
  bnd (aload false 1 t25 H) fun t26 =>
  bnd (ibin .shr t22 (.int .u64 4)) fun t28 =>
  bnd (ibin .xor t26 t28) fun t29 =>
  j208_3 x0 t29 x6 x7 H
theorem e208_2 (H0 : Hp) (x0 x3 x6 x7 x8 : AV) (H : Hp) : j208_2 H0 x0 x3 x6 x7 x8 H = b208_2 (j208_3 H0) x0 x3 x6 x7 x8 H := (CXM_eq [4, 8, 9] _ _ _ _).trans (by kernel_rfl)
theorem m208_2 {j208_3 dj208_3 : A4} (hj208_3 : L4 j208_3 dj208_3) : L5 (b208_2 j208_3) (b208_2 dj208_3) := fun _ _ _ _ _ _ =>
  bR fun _ => bR fun _ => bR fun _ => bR fun _ => bR fun _ => bR fun _ => bR fun _ => bR fun _ => bR fun _ => bR fun _ => bR fun _ => bR fun _ => bR fun _ => hj208_3 _ _ _ _ _
def b208_l1 (j208_1 : A1) (j208_2 : A5) (x0 x3 x6 x7 : AV) (H : Hp) : Res :=
  bnd (ibin .lss x7 x6) fun t8 =>
  cnd t8
    (j208_2 x0 x3 x6 x7 t8 H)
    (j208_1 x3 H)
theorem e208_l1 (H0 : Hp) (x0 x3 x6 x7 : AV) (H : Hp) : j208_l1 H0 x0 x3 x6 x7 H = b208_l1 (j208_1 H0) (j208_2 H0) x0 x3 x6 x7 H := (LPL_eqm (C := cfg) [4, 8, 9] (tame_block 0 (k208_1_tame H0)) _ _).trans (by kernel_rfl)
theorem m208_l1 {j208_1 dj208_1 : A1} (hj208_1 : L1 j208_1 dj208_1) {j208_2 dj208_2 : A5} (hj208_2 : L5 j208_2 dj208_2) : L4 (b208_l1 j208_1 j208_2) (b208_l1 dj208_1 dj208_2) := fun _ _ _ _ _ =>
  bR fun _ => bK (hj208_2 _ _ _ _ _ _) (hj208_1 _ _)
def rj208_1 : A1 := b208_1
theorem sj208_1 (H0 : Hp) : L1 (rj208_1) (j208_1 H0) := fun _ _ => le_eq (m208_1 _ _) (e208_1 H0 _ _)
def rj208_3 (j208_l1 : A4) : A4 := b208_3 j208_l1
theorem sj208_3 (H0 : Hp) {yj208_l1 : A4} (hj208_l1 : L4 yj208_l1 (j208_l1 H0)) : L4 (rj208_3 yj208_l1) (j208_3 H0) := fun _ _ _ _ _ => le_eq (m208_3 hj208_l1 _ _ _ _ _) (e208_3 H0 _ _ _ _ _)
def rj208_2 (j208_l1 : A4) : A5 := b208_2 (rj208_3 j208_l1)
theorem sj208_2 (H0 : Hp) {yj208_l1 : A4} (hj208_l1 : L4 yj208_l1 (j208_l1 H0)) : L5 (rj208_2 yj208_l1) (j208_2 H0) := fun _ _ _ _ _ _ => le_eq (m208_2 (sj208_3 H0 hj208_l1) _ _ _ _ _ _) (e208_2 H0 _ _ _ _ _ _)
def rj208_l1 (n : Nat) : A4 := @Nat.rec (fun _ => A4) (fun _ _ _ _ _ => none) (fun _ j208_l1 => b208_l1 (rj208_1) (rj208_2 j208_l1)) n
theorem sj208_l1 (H0 : Hp) (n : Nat) : L4 (rj208_l1 n) (j208_l1 H0) := by
  induction n with
  | zero => exact fun _ _ _ _ _ => le_none _
  | succ n hj208_l1 => exact fun _ _ _ _ _ => le_eq (m208_l1 (sj208_1 H0) (sj208_2 H0 hj208_l1) _ _ _ _ _) (e208_l1 H0 _ _ _ _ _)
def bc208 (j208_l1 : A4) (p0 : AV) (H : Hp) : Res :=
  bnd (alenD .string p0) fun t6 =>
  j208_l1 p0 (.int .u32 4294967295) t6 (.int .i64 0) H
theorem ec208 (p0 : AV) (H : Hp) : c208 p0 H = bc208 (j208_l1 H) p0 H := (callw_cxm (C := cfg) (fn := Tryz.f208) (c := bodyOf Tryz.f208) (n := 33) [4, 8, 9] Tryz.func208 (by kernel_rfl) (by kernel_rfl) [p0] (by kernel_rfl) H).trans (by kernel_rfl)
theorem mc208 {j208_l1 dj208_l1 : A4} (hj208_l1 : L4 j208_l1 dj208_l1) : L1 (bc208 j208_l1) (bc208 dj208_l1) := fun _ _ =>
  bR fun _ => hj208_l1 _ _ _ _ _
def rc208 : A1 := fun p0 H => bc208 (rj208_l1 100000) p0 H
theorem sc208 : L1 rc208 c208 := fun _ H => le_eq (mc208 (sj208_l1 H 100000) _ _) (ec208 _ _)
def q208 : A1 := fun p0 H => flatC (callw cfg 208) [p0] H
def rq208 : A1 := fun p0 H => flatC (ofL1 (rc208)) [p0] H
theorem sq208 : L1 rq208 q208 := fun _ _ => flat_le (ofL1_le (sc208)) _ _

def c173 (p0 : AV) (H : Hp) : Res := callw cfg 173 [p0] H
def bc173 (q208 : A1) (p0 : AV) (H : Hp) : Res :=
  bnd (q208 p0 H) fun r5 =>
  bnd (cvInt .u8 r5.1) fun t7 =>
  bnd (ibin .shr r5.1 (.int .u64 8)) fun t9 =>
  bnd (cvInt .u8 t9) fun t10 =>
  bnd (ibin .shr r5.1 (.int .u64 16)) fun t12 =>
  bnd (cvInt .u8 t12) fun t13 =>
  bnd (ibin .shr r5.1 (.int .u64 24)) fun t15 =>
  bnd (cvInt .u8 t15) fun t16 =>
  bnd ((setElems 1 [(0, t7), (1, t10), (2, t13), (3, t16)] [(.int .u8 0), (.int .u8 0), (.int .u8 0), (.int .u8 0)]).map (.vs 1 .clip)) fun t17 =>
  bnd (cvRd t17 r5.2) fun t18 =>
  some (t18, r5.2)
theorem ec173 (p0 : AV) (H : Hp) : c173 p0 H = bc173 q208 p0 H := (callw_cxm (C := cfg) (fn := Tryz.f173) (c := bodyOf Tryz.f173) (n := 19) [] Tryz.func173 (by kernel_rfl) (by kernel_rfl) [p0] (by kernel_rfl) H).trans (by kernel_rfl)
theorem mc173 {q208 dq208 : A1} (hq208 : L1 q208 dq208) : L1 (bc173 q208) (bc173 dq208) := fun _ _ =>
  bC (hq208 _ _) fun _ => bR fun _ => bR fun _ => bR fun _ => bR fun _ => bR fun _ => bR fun _ => bR fun _ => bR fun _ => bR fun _ => le_refl _
def rc173 : A1 := fun p0 H => bc173 rq208 p0 H
theorem sc173 : L1 rc173 c173 := fun _ H => le_eq (mc173 sq208 _ _) (ec173 _ _)
def q173 : A1 := fun p0 H => flatC (callw cfg 173) [p0] H
def rq173 : A1 := fun p0 H => flatC (ofL1 (rc173)) [p0] H
theorem sq173 : L1 rq173 q173 := fun _ _ => flat_le (ofL1_le (sc173)) _ _

def c170 (p0 : AV) (H : Hp) : Res := callw cfg 170 [p0] H
def j170_1 (H0 : Hp) (x0 : AV) (H : Hp) : Res := CXf 170 23 (sub (bodyOf Tryz.f170) [1, 1]) (retL cfg 23 170 Tryz.f170 H0) [(0, x0)] H
def b170_1 (q173 : A1) (x0 : AV) (H : Hp) : Res :=
  bnd (alenD .string x0) fun t9 =>
  bnd (ibin .shr t9 (.int .u64 8)) fun t10 =>
  bnd (cvInt .u8 t10) fun t11 =>
  bnd (alenD .string x0) fun t13 =>
  bnd (cvInt .u8 t13) fun t14 =>
  bnd ((setElems 1 [(0, t11), (1, t14)] [(.int .u8 0), (.int .u8 0)]).map (.vs 1 .clip)) fun t15 =>
  bnd (cvRd t15 H) fun t16 =>
  bnd (sbin .add t16 x0) fun t18 =>
  bnd (q173 t18 H) fun r21 =>
  bnd (sbin .add t18 r21.1) fun t22 =>
  some ((.tuple [t22, (.int .i64 0)]), r21.2)
theorem e170_1 (H0 : Hp) (x0 : AV) (H : Hp) : j170_1 H0 x0 H = b170_1 q173 x0 H := (CXM_eq [3] _ _ _ _).trans (by kernel_rfl)
theorem m170_1 {q173 dq173 : A1} (hq173 : L1 q173 dq173) : L1 (b170_1 q173) (b170_1 dq173) := fun _ _ =>
  bR fun _ => bR fun _ => bR fun _ => bR fun _ => bR fun _ => bR fun _ => bR fun _ => bR fun _ => bC (hq173 _ _) fun _ => bR fun _ => le_refl _
def rj170_1 : A1 := b170_1 rq173
theorem sj170_1 (H0 : Hp) : L1 (rj170_1) (j170_1 H0) := fun _ _ => le_eq (m170_1 sq173 _ _) (e170_1 H0 _ _)
def bc170 (j170_1 : A1) (p0 : AV) (H : Hp) : Res :=
  bnd (alenD .string p0) fun t6 =>
  bnd (ibin .gtr t6 (.int .i64 4096)) fun t7 =>
  cnd t7
    (some ((.tuple [(.str []), (.int .i64 3)]), H))
    (j170_1 p0 H)
theorem ec170 (p0 : AV) (H : Hp) : c170 p0 H = bc170 (j170_1 H) p0 H := (callw_cxm (C := cfg) (fn := Tryz.f170) (c := bodyOf Tryz.f170) (n := 23) [3] Tryz.func170 (by kernel_rfl) (by kernel_rfl) [p0] (by kernel_rfl) H).trans (by kernel_rfl)
theorem mc170 {j170_1 dj170_1 : A1} (hj170_1 : L1 j170_1 dj170_1) : L1 (bc170 j170_1) (bc170 dj170_1) := fun _ _ =>
  bR fun _ => bR fun _ => bK (le_refl _) (hj170_1 _ _)
def rc170 : A1 := fun p0 H => bc170 (rj170_1) p0 H
theorem sc170 : L1 rc170 c170 := fun _ H => le_eq (mc170 (sj170_1 H) _ _) (ec170 _ _)
def q170 : A1 := fun p0 H => flatC (callw cfg 170) [p0] H
def rq170 : A1 := fun p0 H => flatC (ofL1 (rc170)) [p0] H
theorem sq170 : L1 rq170 q170 := fun _ _ => flat_le (ofL1_le (sc170)) _ _

def c121 (p0 : AV) (H : Hp) : Res := callw cfg 121 [p0] H
def j121_1 (H0 : Hp) (x4 : AV) (H : Hp) : Res := CXf 121 27 (sub (bodyOf Tryz.f121) [1, 1, 1]) (retL cfg 27 121 Tryz.f121 H0) [(4, x4)] H
def k121_1 (H0 : Hp) : KL := seqL (fun k al H => CXf 121 27 (sub (bodyOf Tryz.f121) [1, 1, 1]) k (trimL (cfg.keep 121) (sub (bodyOf Tryz.f121) [1, 1, 1]) al) H) (retL cfg 27 121 Tryz.f121 H0)
theorem k121_1_tame (H0 : Hp) : Tame 27 (k121_1 H0) := tame_seq (C := cfg) (kp := cfg.keep 121) (sub (bodyOf Tryz.f121) [1, 1, 1]) (tame_ret 121 Tryz.f121 H0)
def j121_3 (H0 : Hp) (x4 x9 x10 x11 : AV) (H : Hp) : Res := CXf 121 27 (sub (bodyOf Tryz.f121) [1, 1, 0, 1, 0, 0, 1, 1, 1]) (seqL (fun k al H => LPf 121 27 (sub (bodyOf Tryz.f121) [1, 1, 0, 1, 0, 0]) k (trimL (cfg.keep 121) (sub (bodyOf Tryz.f121) [1, 1, 0, 1, 0, 0]) al) H) (blockL 0 (k121_1 H0))) [(4, x4), (9, x9), (10, x10), (11, x11)] H
def k121_2 (H0 : Hp) : KL := seqL (fun k al H => CXf 121 27 (sub (bodyOf Tryz.f121) [1, 1, 0, 1, 0, 0, 1, 1, 1]) k (trimL (cfg.keep 121) (sub (bodyOf Tryz.f121) [1, 1, 0, 1, 0, 0, 1, 1, 1]) al) H) (seqL (fun k al H => LPf 121 27 (sub (bodyOf Tryz.f121) [1, 1, 0, 1, 0, 0]) k (trimL (cfg.keep 121) (sub (bodyOf Tryz.f121) [1, 1, 0, 1, 0, 0]) al) H) (blockL 0 (k121_1 H0)))
def j121_4 (H0 : Hp) (x4 x7 x9 x10 x11 : AV) (H : Hp) : Res := CXf 121 27 (sub (bodyOf Tryz.f121) [1, 1, 0, 1, 0, 0, 1, 1, 0, 0, 1, 1, 1]) (blockL 1 (k121_2 H0)) [(4, x4), (7, x7), (9, x9), (10, x10), (11, x11)] H
def j121_2 (H0 : Hp) (x4 x9 x10 x11 x12 : AV) (H : Hp) : Res := CXf 121 27 (sub (bodyOf Tryz.f121) [1, 1, 0, 1, 0, 0, 1, 1]) (seqL (fun k al H => LPf 121 27 (sub (bodyOf Tryz.f121) [1, 1, 0, 1, 0, 0]) k (trimL (cfg.keep 121) (sub (bodyOf Tryz.f121) [1, 1, 0, 1, 0, 0]) al) H) (blockL 0 (k121_1 H0))) [(4, x4), (9, x9), (10, x10), (11, x11), (12, x12)] H
def j121_l1 (H0 : Hp) (x4 x9 x10 x11 : AV) (H : Hp) : Res := LPf 121 27 (sub (bodyOf Tryz.f121) [1, 1, 0, 1, 0, 0]) (blockL 0 (k121_1 H0)) [(4, x4), (9, x9), (10, x10), (11, x11)] H
def b121_1 (x4 : AV) (H : Hp) : Res :=
  bnd (stringE.run [x4] H) fun r26 =>
  some ((.tuple [r26.1, (.int .i64 0)]), r26.2)
theorem e121_1 (H0 : Hp) (x4 : AV) (H : Hp) : j121_1 H0 x4 H = b121_1 x4 H := (CXM_eq [4, 8, 9, 10] _ _ _ _).trans (by kernel_rfl)
theorem m121_1 : L1 (b121_1) (b121_1) := fun _ _ =>
  bR fun _ => le_refl _
def b121_3 (j121_l1 : A4) (x4 x9 x10 x11 : AV) (H : Hp) : Res :=
  bnd (ibin .add x11 (.int .i64 1)) fun t25 =>
  j121_l1 x4 x9 x10 t25 H
theorem e121_3 (H0 : Hp) (x4 x9 x10 x11 : AV) (H : Hp) : j121_3 H0 x4 x9 x10 x11 H = b121_3 (j121_l1 H0) x4 x9 x10 x11 H := (CXM_eq [4, 8, 9, 10] _ _ _ _).trans (by kernel_rfl)
theorem m121_3 {j121_l1 dj121_l1 : A4} (hj121_l1 : L4 j121_l1 dj121_l1) : L4 (b121_3 j121_l1) (b121_3 dj121_l1) := fun _ _ _ _ _ =>
  bR fun _ => hj121_l1 _ _ _ _ _
def b121_4 (j121_3 : A4) (x4 x7 x9 x10 x11 : AV) (H : Hp) : Res :=
  bnd (textE.run [x4, x7] H) fun r24 =>
  j121_3 x4 x9 x10 x11 r24.2
theorem e121_4 (H0 : Hp) (x4 x7 x9 x10 x11 : AV) (H : Hp) : j121_4 H0 x4 x7 x9 x10 x11 H = b121_4 (j121_3 H0) x4 x7 x9 x10 x11 H := (CXM_eq [4, 8, 9, 10] _ _ _ _).trans (by kernel_rfl)
theorem m121_4 {j121_3 dj121_3 : A4} (hj121_3 : L4 j121_3 dj121_3) : L5 (b121_4 j121_3) (b121_4 dj121_3) := fun _ _ _ _ _ _ =>
  bR fun _ => hj121_3 _ _ _ _ _
def b121_2 (q170 : A1) (j121_4 : A5) (x4 x9 x10 x11 x12 : AV) (H : Hp) : Res :=
  bnd (aindexS 1 x9 x11) fun t13 =>
  bnd (aload false 1 t13 H) fun t14 =>
  bnd (q170 t14 H) fun r17 =>
  bnd (aext r17.1 0) fun t18 =>
  bnd (aext r17.1 1) fun t19 =>
  bnd (ibin .neq t19 (.int .i64 0)) fun t21 =>
  cnd t21
    (some ((.tuple [(.str []), t19]), r17.2))
    (j121_4 x4 t18 x9 x10 x11 r17.2)
theorem e121_2 (H0 : Hp) (x4 x9 x10 x11 x12 : AV) (H : Hp) : j121_2 H0 x4 x9 x10 x11 x12 H = b121_2 q170 (j121_4 H0) x4 x9 x10 x11 x12 H := (CXM_eq [4, 8, 9, 10] _ _ _ _).trans (by kernel_rfl)
theorem m121_2 {q170 dq170 : A1} (hq170 : L1 q170 dq170) {j121_4 dj121_4 : A5} (hj121_4 : L5 j121_4 dj121_4) : L5 (b121_2 q170 j121_4) (b121_2 dq170 dj121_4) := fun _ _ _ _ _ _ =>
  bR fun _ => bR fun _ => bC (hq170 _ _) fun _ => bR fun _ => bR fun _ => bR fun _ => bK (le_refl _) (hj121_4 _ _ _ _ _ _)
def b121_l1 (j121_1 : A1) (j121_2 : A5) (x4 x9 x10 x11 : AV) (H : Hp) : Res :=
  bnd (ibin .lss x11 x10) fun t12 =>
  cnd t12
    (j121_2 x4 x9 x10 x11 t12 H)
    (j121_1 x4 H)
theorem e121_l1 (H0 : Hp) (x4 x9 x10 x11 : AV) (H : Hp) : j121_l1 H0 x4 x9 x10 x11 H = b121_l1 (j121_1 H0) (j121_2 H0) x4 x9 x10 x11 H := (LPL_eqm (C := cfg) [4, 8, 9, 10] (tame_block 0 (k121_1_tame H0)) _ _).trans (by kernel_rfl)
theorem m121_l1 {j121_1 dj121_1 : A1} (hj121_1 : L1 j121_1 dj121_1) {j121_2 dj121_2 : A5} (hj121_2 : L5 j121_2 dj121_2) : L4 (b121_l1 j121_1 j121_2) (b121_l1 dj121_1 dj121_2) := fun _ _ _ _ _ =>
  bR fun _ => bK (hj121_2 _ _ _ _ _ _) (hj121_1 _ _)
def rj121_1 : A1 := b121_1
theorem sj121_1 (H0 : Hp) : L1 (rj121_1) (j121_1 H0) := fun _ _ => le_eq (m121_1 _ _) (e121_1 H0 _ _)
def rj121_3 (j121_l1 : A4) : A4 := b121_3 j121_l1
theorem sj121_3 (H0 : Hp) {yj121_l1 : A4} (hj121_l1 : L4 yj121_l1 (j121_l1 H0)) : L4 (rj121_3 yj121_l1) (j121_3 H0) := fun _ _ _ _ _ => le_eq (m121_3 hj121_l1 _ _ _ _ _) (e121_3 H0 _ _ _ _ _)
def rj121_4 (j121_l1 : A4) : A5 := b121_4 (rj121_3 j121_l1)
theorem sj121_4 (H0 : Hp) {yj121_l1 : A4} (hj121_l1 : L4 yj121_l1 (j121_l1 H0)) : L5 (rj121_4 yj121_l1) (j121_4 H0) := fun _ _ _ _ _ _ => le_eq (m121_4 (sj121_3 H0 hj121_l1) _ _ _ _ _ _) (e121_4 H0 _ _ _ _ _ _)
def rj121_2 (j121_l1 : A4) : A5 := b121_2 rq170 (rj121_4 j121_l1)
theorem sj121_2 (H0 : Hp) {yj121_l1 : A4} (hj121_l1 : L4 yj121_l1 (j121_l1 H0)) : L5 (rj121_2 yj121_l1) (j121_2 H0) := fun _ _ _ _ _ _ => le_eq (m121_2 sq170 (sj121_4 H0 hj121_l1) _ _ _ _ _ _) (e121_2 H0 _ _ _ _ _ _)
def rj121_l1 (n : Nat) : A4 := @Nat.rec (fun _ => A4) (fun _ _ _ _ _ => none) (fun _ j121_l1 => b121_l1 (rj121_1) (rj121_2 j121_l1)) n
theorem sj121_l1 (H0 : Hp) (n : Nat) : L4 (rj121_l1 n) (j121_l1 H0) := by
  induction n with
  | zero => exact fun _ _ _ _ _ => le_none _
  | succ n hj121_l1 => exact fun _ _ _ _ _ => le_eq (m121_l1 (sj121_1 H0) (sj121_2 H0 hj121_l1) _ _ _ _ _) (e121_l1 H0 _ _ _ _ _)
def bc121 (j121_l1 : A4) (p0 : AV) (H : Hp) : Res :=
  bnd (some ((.ptr H.length 0), H ++ [.bld 192 5 []])) fun r4 =>
  bnd (alenD (.slice 9) p0) fun t10 =>
  j121_l1 r4.1 p0 t10 (.int .i64 0) r4.2
theorem ec121 (p0 : AV) (H : Hp) : c121 p0 H = bc121 (j121_l1 H) p0 H := (callw_cxm (C := cfg) (fn := Tryz.f121) (c := bodyOf Tryz.f121) (n := 27) [4, 8, 9, 10] Tryz.func121 (by kernel_rfl) (by kernel_rfl) [p0] (by kernel_rfl) H).trans (by kernel_rfl)
theorem mc121 {j121_l1 dj121_l1 : A4} (hj121_l1 : L4 j121_l1 dj121_l1) : L1 (bc121 j121_l1) (bc121 dj121_l1) := fun _ _ =>
  bR fun _ => bR fun _ => hj121_l1 _ _ _ _ _
def rc121 : A1 := fun p0 H => bc121 (rj121_l1 100000) p0 H
theorem sc121 : L1 rc121 c121 := fun _ H => le_eq (mc121 (sj121_l1 H 100000) _ _) (ec121 _ _)
def q121 : A1 := fun p0 H => flatC (callw cfg 121) [p0] H
def rq121 : A1 := fun p0 H => flatC (ofL1 (rc121)) [p0] H
theorem sq121 : L1 rq121 q121 := fun _ _ => flat_le (ofL1_le (sc121)) _ _

def c122 (p0 p1 p2 : AV) (H : Hp) : Res := callw cfg 122 [p0, p1, p2] H
def j122_2 (H0 : Hp) (x0 x2 x7 : AV) (H : Hp) : Res := CXf 122 60 (sub (bodyOf Tryz.f122) [1, 1, 1, 1]) (retL cfg 60 122 Tryz.f122 H0) [(0, x0), (2, x2), (7, x7)] H
def j122_1 (H0 : Hp) (x0 x2 x7 : AV) (H : Hp) : Res := CXf 122 60 (sub (bodyOf Tryz.f122) [1, 1, 1]) (retL cfg 60 122 Tryz.f122 H0) [(0, x0), (2, x2), (7, x7)] H
def b122_2 (x0 x2 x7 : AV) (H : Hp) : Res :=
  bnd (anil x7) fun t32 =>
  bnd (afield 0 t32) fun t33 =>
  bnd (aload false 1 t33 H) fun t34 =>
  bnd (aappE 1 1 t34 x2 H) fun r36 =>
  bnd (anil x7) fun t37 =>
  bnd (afield 0 t37) fun t38 =>
  bnd (astoreU 1 t38 r36.1 r36.2) fun r_10 =>
  bnd (anil x0) fun t40 =>
  bnd (afield 1 t40) fun t41 =>
  bnd (aload false 1 t41 r_10.2) fun t42 =>
  bnd (alenD .string x2) fun t44 =>
  bnd (ibin .add t42 t44) fun t45 =>
  bnd (anil x0) fun t46 =>
  bnd (afield 1 t46) fun t47 =>
  bnd (astoreU 1 t47 t45 r_10.2) fun r_18 =>
  bnd (anil x0) fun t50 =>
  bnd (afield 2 t50) fun t51 =>
  bnd (aload false 1 t51 r_18.2) fun t52 =>
  bnd (anil x0) fun t54 =>
  bnd (afield 1 t54) fun t55 =>
  bnd (aload false 1 t55 r_18.2) fun t56 =>
  bnd (amax2 t52 t56) fun t57 =>
  bnd (anil x0) fun t58 =>
  bnd (afield 2 t58) fun t59 =>
  bnd (astoreU 1 t59 t57 r_18.2) fun r_28 =>
  some ((.int .i64 0), r_28.2)
theorem e122_2 (H0 : Hp) (x0 x2 x7 : AV) (H : Hp) : j122_2 H0 x0 x2 x7 H = b122_2 x0 x2 x7 H := (CXM_eq [4, 6] _ _ _ _).trans (by kernel_rfl)
theorem m122_2 : L3 (b122_2) (b122_2) := fun _ _ _ _ =>
  bR fun _ => bR fun _ => bR fun _ => bR fun _ => bR fun _ => bR fun _ => bR fun _ => bR fun _ => bR fun _ => bR fun _ => bR fun _ => bR fun _ => bR fun _ => bR fun _ => bR fun _ => bR fun _ => bR fun _ => bR fun _ => bR fun _ => bR fun _ => bR fun _ => bR fun _ => bR fun _ => bR fun _ => bR fun _ => le_refl _
def b122_1 (j122_2 : A3) (x0 x2 x7 : AV) (H : Hp) : Res :=
  bnd (anil x0) fun t19 =>
  bnd (afield 1 t19) fun t20 =>
  bnd (aload false 1 t20 H) fun t21 =>
  bnd (alenD .string x2) fun t23 =>
  bnd (ibin .add t21 t23) fun t24 =>
  bnd (anil x0) fun t26 =>
  bnd (afield 0 t26) fun t27 =>
  bnd (aload false 1 t27 H) fun t28 =>
  bnd (ibin .gtr t24 t28) fun t29 =>
  cnd t29
    (some ((.int .i64 12), H))
    (j122_2 x0 x2 x7 H)
theorem e122_1 (H0 : Hp) (x0 x2 x7 : AV) (H : Hp) : j122_1 H0 x0 x2 x7 H = b122_1 (j122_2 H0) x0 x2 x7 H := (CXM_eq [4, 6] _ _ _ _).trans (by kernel_rfl)
theorem m122_1 {j122_2 dj122_2 : A3} (hj122_2 : L3 j122_2 dj122_2) : L3 (b122_1 j122_2) (b122_1 dj122_2) := fun _ _ _ _ =>
  bR fun _ => bR fun _ => bR fun _ => bR fun _ => bR fun _ => bR fun _ => bR fun _ => bR fun _ => bR fun _ => bK (le_refl _) (hj122_2 _ _ _ _)
def rj122_2 : A3 := b122_2
theorem sj122_2 (H0 : Hp) : L3 (rj122_2) (j122_2 H0) := fun _ _ _ _ => le_eq (m122_2 _ _ _ _) (e122_2 H0 _ _ _ _)
def rj122_1 : A3 := b122_1 (rj122_2)
theorem sj122_1 (H0 : Hp) : L3 (rj122_1) (j122_1 H0) := fun _ _ _ _ => le_eq (m122_1 (sj122_2 H0) _ _ _ _) (e122_1 H0 _ _ _ _)
def bc122 (c116 : A2) (j122_1 : A3) (p0 p1 p2 : AV) (H : Hp) : Res :=
  bnd (c116 p0 p1 H) fun r12 =>
  bnd (aext r12.1 0) fun t13 =>
  bnd (aext r12.1 1) fun t14 =>
  bnd (ibin .neq t14 (.int .i64 0)) fun t16 =>
  cnd t16
    (some (t14, r12.2))
    (j122_1 p0 p2 t13 r12.2)
theorem ec122 (p0 p1 p2 : AV) (H : Hp) : c122 p0 p1 p2 H = bc122 c116 (j122_1 H) p0 p1 p2 H := (callw_cxm (C := cfg) (fn := Tryz.f122) (c := bodyOf Tryz.f122) (n := 60) [4, 6] Tryz.func122 (by kernel_rfl) (by kernel_rfl) [p0, p1, p2] (by kernel_rfl) H).trans (by kernel_rfl)
theorem mc122 {c116 dc116 : A2} (hc116 : L2 c116 dc116) {j122_1 dj122_1 : A3} (hj122_1 : L3 j122_1 dj122_1) : L3 (bc122 c116 j122_1) (bc122 dc116 dj122_1) := fun _ _ _ _ =>
  bC (hc116 _ _ _) fun _ => bR fun _ => bR fun _ => bR fun _ => bK (le_refl _) (hj122_1 _ _ _ _)
def rc122 : A3 := fun p0 p1 p2 H => bc122 rc116 (rj122_1) p0 p1 p2 H
theorem sc122 : L3 rc122 c122 := fun _ _ _ H => le_eq (mc122 sc116 (sj122_1 H) _ _ _ _) (ec122 _ _ _ _)

def c81 (p0 p1 p2 : AV) (H : Hp) : Res := callw cfg 81 [p0, p1, p2] H
def j81_4 (H0 : Hp) (x0 x1 x8 : AV) (H : Hp) : Res := CXf 81 51 (sub (bodyOf Tryz.f81) [1, 1, 1, 1, 1, 1]) (retL cfg 51 81 Tryz.f81 H0) [(0, x0), (1, x1), (8, x8)] H
def j81_3 (H0 : Hp) (x0 x1 x8 : AV) (H : Hp) : Res := CXf 81 51 (sub (bodyOf Tryz.f81) [1, 1, 1, 1, 1]) (retL cfg 51 81 Tryz.f81 H0) [(0, x0), (1, x1), (8, x8)] H
def j81_2 (H0 : Hp) (x0 x1 x2 : AV) (H : Hp) : Res := CXf 81 51 (sub (bodyOf Tryz.f81) [1, 1, 1]) (retL cfg 51 81 Tryz.f81 H0) [(0, x0), (1, x1), (2, x2)] H
def j81_1 (H0 : Hp) (x0 x1 x2 : AV) (H : Hp) : Res := CXf 81 51 (sub (bodyOf Tryz.f81) [1, 1]) (retL cfg 51 81 Tryz.f81 H0) [(0, x0), (1, x1), (2, x2)] H
def b81_4 (c122 : A3) (x0 x1 x8 : AV) (H : Hp) : Res :=
  bnd (anil x0) fun t44 =>
  bnd (afield 0 t44) fun t45 =>
  bnd (afield 0 t45) fun t46 =>
  bnd (aload false 1 t46 H) fun t47 =>
  bnd (c122 t47 x1 x8 H) fun r50 =>
  some (r50.1, r50.2)
theorem e81_4 (H0 : Hp) (x0 x1 x8 : AV) (H : Hp) : j81_4 H0 x0 x1 x8 H = b81_4 c122 x0 x1 x8 H := (CXM_eq [4, 6, 9, 11] _ _ _ _).trans (by kernel_rfl)
theorem m81_4 {c122 dc122 : A3} (hc122 : L3 c122 dc122) : L3 (b81_4 c122) (b81_4 dc122) := fun _ _ _ _ =>
  bR fun _ => bR fun _ => bR fun _ => bR fun _ => bC (hc122 _ _ _ _) fun _ => le_refl _
def b81_3 (q103 : A1) (j81_4 : A3) (x0 x1 x8 : AV) (H : Hp) : Res :=
  bnd (alenD .string x8) fun t32 =>
  bnd (anil x0) fun t34 =>
  bnd (afield 4 t34) fun t35 =>
  bnd (aload false 1 t35 H) fun t36 =>
  bnd (anil x0) fun t38 =>
  bnd (afield 0 t38) fun t39 =>
  bnd (q103 t39 H) fun r40 =>
  bnd (ibin .sub t36 r40.1) fun t41 =>
  bnd (ibin .gtr t32 t41) fun t42 =>
  cnd t42
    (some ((.int .i64 11), r40.2))
    (j81_4 x0 x1 x8 r40.2)
theorem e81_3 (H0 : Hp) (x0 x1 x8 : AV) (H : Hp) : j81_3 H0 x0 x1 x8 H = b81_3 q103 (j81_4 H0) x0 x1 x8 H := (CXM_eq [4, 6, 9, 11] _ _ _ _).trans (by kernel_rfl)
theorem m81_3 {q103 dq103 : A1} (hq103 : L1 q103 dq103) {j81_4 dj81_4 : A3} (hj81_4 : L3 j81_4 dj81_4) : L3 (b81_3 q103 j81_4) (b81_3 dq103 dj81_4) := fun _ _ _ _ =>
  bR fun _ => bR fun _ => bR fun _ => bR fun _ => bR fun _ => bR fun _ => bC (hq103 _ _) fun _ => bR fun _ => bR fun _ => bK (le_refl _) (hj81_4 _ _ _ _)
def b81_2 (q121 : A1) (j81_3 : A3) (x0 x1 x2 : AV) (H : Hp) : Res :=
  bnd (q121 x2 H) fun r25 =>
  bnd (aext r25.1 0) fun t26 =>
  bnd (aext r25.1 1) fun t27 =>
  bnd (ibin .neq t27 (.int .i64 0)) fun t29 =>
  cnd t29
    (some (t27, r25.2))
    (j81_3 x0 x1 t26 r25.2)
theorem e81_2 (H0 : Hp) (x0 x1 x2 : AV) (H : Hp) : j81_2 H0 x0 x1 x2 H = b81_2 q121 (j81_3 H0) x0 x1 x2 H := (CXM_eq [4, 6, 9, 11] _ _ _ _).trans (by kernel_rfl)
theorem m81_2 {q121 dq121 : A1} (hq121 : L1 q121 dq121) {j81_3 dj81_3 : A3} (hj81_3 : L3 j81_3 dj81_3) : L3 (b81_2 q121 j81_3) (b81_2 dq121 dj81_3) := fun _ _ _ _ =>
  bC (hq121 _ _) fun _ => bR fun _ => bR fun _ => bR fun _ => bK (le_refl _) (hj81_3 _ _ _ _)
def b81_1 (j81_2 : A3) (x0 x1 x2 : AV) (H : Hp) : Res :=
  bnd (anil x0) fun t17 =>
  bnd (afield 0 t17) fun t18 =>
  bnd (afield 3 t18) fun t19 =>
  bnd (aload false 1 t19 H) fun t20 =>
  bnd (alookup .string (.bool false) false t20 x1 H) fun t22 =>
  cnd t22
    (some ((.int .i64 8), H))
    (j81_2 x0 x1 x2 H)
theorem e81_1 (H0 : Hp) (x0 x1 x2 : AV) (H : Hp) : j81_1 H0 x0 x1 x2 H = b81_1 (j81_2 H0) x0 x1 x2 H := (CXM_eq [4, 6, 9, 11] _ _ _ _).trans (by kernel_rfl)
theorem m81_1 {j81_2 dj81_2 : A3} (hj81_2 : L3 j81_2 dj81_2) : L3 (b81_1 j81_2) (b81_1 dj81_2) := fun _ _ _ _ =>
  bR fun _ => bR fun _ => bR fun _ => bR fun _ => bR fun _ => bK (le_refl _) (hj81_2 _ _ _ _)
def rj81_4 : A3 := b81_4 rc122
theorem sj81_4 (H0 : Hp) : L3 (rj81_4) (j81_4 H0) := fun _ _ _ _ => le_eq (m81_4 sc122 _ _ _ _) (e81_4 H0 _ _ _ _)
def rj81_3 : A3 := b81_3 rq103 (rj81_4)
theorem sj81_3 (H0 : Hp) : L3 (rj81_3) (j81_3 H0) := fun _ _ _ _ => le_eq (m81_3 sq103 (sj81_4 H0) _ _ _ _) (e81_3 H0 _ _ _ _)
def rj81_2 : A3 := b81_2 rq121 (rj81_3)
theorem sj81_2 (H0 : Hp) : L3 (rj81_2) (j81_2 H0) := fun _ _ _ _ => le_eq (m81_2 sq121 (sj81_3 H0) _ _ _ _) (e81_2 H0 _ _ _ _)
def rj81_1 : A3 := b81_1 (rj81_2)
theorem sj81_1 (H0 : Hp) : L3 (rj81_1) (j81_1 H0) := fun _ _ _ _ => le_eq (m81_1 (sj81_2 H0) _ _ _ _) (e81_1 H0 _ _ _ _)
def bc81 (c120 : A2) (j81_1 : A3) (p0 p1 p2 : AV) (H : Hp) : Res :=
  bnd (c120 p0 p1 H) fun r12 =>
  bnd (ibin .neq r12.1 (.int .i64 0)) fun t14 =>
  cnd t14
    (some (r12.1, r12.2))
    (j81_1 p0 p1 p2 r12.2)
theorem ec81 (p0 p1 p2 : AV) (H : Hp) : c81 p0 p1 p2 H = bc81 c120 (j81_1 H) p0 p1 p2 H := (callw_cxm (C := cfg) (fn := Tryz.f81) (c := bodyOf Tryz.f81) (n := 51) [4, 6, 9, 11] Tryz.func81 (by kernel_rfl) (by kernel_rfl) [p0, p1, p2] (by kernel_rfl) H).trans (by kernel_rfl)
theorem mc81 {c120 dc120 : A2} (hc120 : L2 c120 dc120) {j81_1 dj81_1 : A3} (hj81_1 : L3 j81_1 dj81_1) : L3 (bc81 c120 j81_1) (bc81 dc120 dj81_1) := fun _ _ _ _ =>
  bC (hc120 _ _ _) fun _ => bR fun _ => bK (le_refl _) (hj81_1 _ _ _ _)
def rc81 : A3 := fun p0 p1 p2 H => bc81 rc120 (rj81_1) p0 p1 p2 H
theorem sc81 : L3 rc81 c81 := fun _ _ _ H => le_eq (mc81 sc120 (sj81_1 H) _ _ _ _) (ec81 _ _ _ _)

def c123 (p0 p1 : AV) (H : Hp) : Res := callw cfg 123 [p0, p1] H
def j123_1 (H0 : Hp) (x6 : AV) (H : Hp) : Res := CXf 123 24 (sub (bodyOf Tryz.f123) [1, 1, 1]) (retL cfg 24 123 Tryz.f123 H0) [(6, x6)] H
def b123_1 (x6 : AV) (H : Hp) : Res :=
  some (x6, H)
theorem e123_1 (H0 : Hp) (x6 : AV) (H : Hp) : j123_1 H0 x6 H = b123_1 x6 H := (CXM_eq [4] _ _ _ _).trans (by kernel_rfl)
theorem m123_1 : L1 (b123_1) (b123_1) := fun _ _ =>
  le_refl _
def rj123_1 : A1 := b123_1
theorem sj123_1 (H0 : Hp) : L1 (rj123_1) (j123_1 H0) := fun _ _ => le_eq (m123_1 _ _) (e123_1 H0 _ _)
def bc123 (c116 : A2) (j123_1 : A1) (p0 p1 : AV) (H : Hp) : Res :=
  bnd (c116 p0 p1 H) fun r10 =>
  bnd (aext r10.1 0) fun t11 =>
  bnd (aext r10.1 1) fun t12 =>
  bnd (ibin .eql t12 (.int .i64 0)) fun t14 =>
  cnd t14
    (bnd (anil t11) fun t17 =>
    bnd (afield 0 t17) fun t18 =>
    bnd (aload false 1 t18 r10.2) fun t19 =>
    bnd (alenD (.slice 5) t19) fun t20 =>
    bnd (anil t11) fun t21 =>
    bnd (afield 1 t21) fun t22 =>
    bnd (astoreU 1 t22 t20 r10.2) fun r_11 =>
    j123_1 t12 r_11.2)
    (j123_1 t12 r10.2)
theorem ec123 (p0 p1 : AV) (H : Hp) : c123 p0 p1 H = bc123 c116 (j123_1 H) p0 p1 H := (callw_cxm (C := cfg) (fn := Tryz.f123) (c := bodyOf Tryz.f123) (n := 24) [4] Tryz.func123 (by kernel_rfl) (by kernel_rfl) [p0, p1] (by kernel_rfl) H).trans (by kernel_rfl)
theorem mc123 {c116 dc116 : A2} (hc116 : L2 c116 dc116) {j123_1 dj123_1 : A1} (hj123_1 : L1 j123_1 dj123_1) : L2 (bc123 c116 j123_1) (bc123 dc116 dj123_1) := fun _ _ _ =>
  bC (hc116 _ _ _) fun _ => bR fun _ => bR fun _ => bR fun _ => bK (bR fun _ => bR fun _ => bR fun _ => bR fun _ => bR fun _ => bR fun _ => bR fun _ => hj123_1 _ _) (hj123_1 _ _)
def rc123 : A2 := fun p0 p1 H => bc123 rc116 (rj123_1) p0 p1 H
theorem sc123 : L2 rc123 c123 := fun _ _ H => le_eq (mc123 sc116 (sj123_1 H) _ _ _) (ec123 _ _ _)

def c82 (p0 p1 : AV) (H : Hp) : Res := callw cfg 82 [p0, p1] H
def j82_2 (H0 : Hp) (x0 x1 : AV) (H : Hp) : Res := CXf 82 29 (sub (bodyOf Tryz.f82) [1, 1, 1]) (retL cfg 29 82 Tryz.f82 H0) [(0, x0), (1, x1)] H
def j82_1 (H0 : Hp) (x0 x1 : AV) (H : Hp) : Res := CXf 82 29 (sub (bodyOf Tryz.f82) [1, 1]) (retL cfg 29 82 Tryz.f82 H0) [(0, x0), (1, x1)] H
def b82_2 (x0 x1 : AV) (H : Hp) : Res :=
  bnd (anil x0) fun t24 =>
  bnd (afield 0 t24) fun t25 =>
  bnd (afield 3 t25) fun t26 =>
  bnd (aload false 1 t26 H) fun t27 =>
  bnd (amapSet .string t27 x1 (.bool true) H) fun r_5 =>
  some ((.int .i64 0), r_5.2)
theorem e82_2 (H0 : Hp) (x0 x1 : AV) (H : Hp) : j82_2 H0 x0 x1 H = b82_2 x0 x1 H := (CXM_eq [4, 7] _ _ _ _).trans (by kernel_rfl)
theorem m82_2 : L2 (b82_2) (b82_2) := fun _ _ _ =>
  bR fun _ => bR fun _ => bR fun _ => bR fun _ => bR fun _ => le_refl _
def b82_1 (c123 : A2) (j82_2 : A2) (x0 x1 : AV) (H : Hp) : Res :=
  bnd (anil x0) fun t14 =>
  bnd (afield 0 t14) fun t15 =>
  bnd (afield 0 t15) fun t16 =>
  bnd (aload false 1 t16 H) fun t17 =>
  bnd (c123 t17 x1 H) fun r19 =>
  bnd (ibin .neq r19.1 (.int .i64 0)) fun t21 =>
  cnd t21
    (some (r19.1, r19.2))
    (j82_2 x0 x1 r19.2)
theorem e82_1 (H0 : Hp) (x0 x1 : AV) (H : Hp) : j82_1 H0 x0 x1 H = b82_1 c123 (j82_2 H0) x0 x1 H := (CXM_eq [4, 7] _ _ _ _).trans (by kernel_rfl)
theorem m82_1 {c123 dc123 : A2} (hc123 : L2 c123 dc123) {j82_2 dj82_2 : A2} (hj82_2 : L2 j82_2 dj82_2) : L2 (b82_1 c123 j82_2) (b82_1 dc123 dj82_2) := fun _ _ _ =>
  bR fun _ => bR fun _ => bR fun _ => bR fun _ => bC (hc123 _ _ _) fun _ => bR fun _ => bK (le_refl _) (hj82_2 _ _ _)
def rj82_2 : A2 := b82_2
theorem sj82_2 (H0 : Hp) : L2 (rj82_2) (j82_2 H0) := fun _ _ _ => le_eq (m82_2 _ _ _) (e82_2 H0 _ _ _)
def rj82_1 : A2 := b82_1 rc123 (rj82_2)
theorem sj82_1 (H0 : Hp) : L2 (rj82_1) (j82_1 H0) := fun _ _ _ => le_eq (m82_1 sc123 (sj82_2 H0) _ _ _) (e82_1 H0 _ _ _)
def bc82 (c120 : A2) (j82_1 : A2) (p0 p1 : AV) (H : Hp) : Res :=
  bnd (c120 p0 p1 H) fun r9 =>
  bnd (ibin .neq r9.1 (.int .i64 0)) fun t11 =>
  cnd t11
    (some (r9.1, r9.2))
    (j82_1 p0 p1 r9.2)
theorem ec82 (p0 p1 : AV) (H : Hp) : c82 p0 p1 H = bc82 c120 (j82_1 H) p0 p1 H := (callw_cxm (C := cfg) (fn := Tryz.f82) (c := bodyOf Tryz.f82) (n := 29) [4, 7] Tryz.func82 (by kernel_rfl) (by kernel_rfl) [p0, p1] (by kernel_rfl) H).trans (by kernel_rfl)
theorem mc82 {c120 dc120 : A2} (hc120 : L2 c120 dc120) {j82_1 dj82_1 : A2} (hj82_1 : L2 j82_1 dj82_1) : L2 (bc82 c120 j82_1) (bc82 dc120 dj82_1) := fun _ _ _ =>
  bC (hc120 _ _ _) fun _ => bR fun _ => bK (le_refl _) (hj82_1 _ _ _)
def rc82 : A2 := fun p0 p1 H => bc82 rc120 (rj82_1) p0 p1 H
theorem sc82 : L2 rc82 c82 := fun _ _ H => le_eq (mc82 sc120 (sj82_1 H) _ _ _) (ec82 _ _ _)

def c30 (p0 p1 p2 p3 : AV) (H : Hp) : Res := callw cfg 30 [p0, p1, p2, p3] H
def j30_4 (H0 : Hp) (x10 : AV) (H : Hp) : Res := CXf 30 39 (sub (bodyOf Tryz.f30) [1, 1, 1, 1, 1, 1]) (retL cfg 39 30 Tryz.f30 H0) [(10, x10)] H
def j30_3 (H0 : Hp) (x0 x10 : AV) (H : Hp) : Res := CXf 30 39 (sub (bodyOf Tryz.f30) [1, 1, 1, 1, 1]) (retL cfg 39 30 Tryz.f30 H0) [(0, x0), (10, x10)] H
def j30_2 (H0 : Hp) (x0 x3 x5 x6 x10 : AV) (H : Hp) : Res := CXf 30 39 (sub (bodyOf Tryz.f30) [1, 1, 1, 1]) (retL cfg 39 30 Tryz.f30 H0) [(0, x0), (3, x3), (5, x5), (6, x6), (10, x10)] H
def j30_1 (H0 : Hp) (x0 x3 x5 x6 : AV) (H : Hp) : Res := CXf 30 39 (sub (bodyOf Tryz.f30) [1, 1]) (retL cfg 39 30 Tryz.f30 H0) [(0, x0), (3, x3), (5, x5), (6, x6)] H
def b30_4 (x10 : AV) (H : Hp) : Res :=
  some ((.tuple [x10, (.int .i64 0)]), H)
theorem e30_4 (H0 : Hp) (x10 : AV) (H : Hp) : j30_4 H0 x10 H = b30_4 x10 H := (CXM_eq [3, 6, 9, 12] _ _ _ _).trans (by kernel_rfl)
theorem m30_4 : L1 (b30_4) (b30_4) := fun _ _ =>
  le_refl _
def b30_3 (c82 : A2) (j30_4 : A1) (x0 x10 : AV) (H : Hp) : Res :=
  bnd (c82 x0 x10 H) fun r34 =>
  bnd (ibin .neq r34.1 (.int .i64 0)) fun t36 =>
  cnd t36
    (some ((.tuple [(.str []), r34.1]), r34.2))
    (j30_4 x10 r34.2)
theorem e30_3 (H0 : Hp) (x0 x10 : AV) (H : Hp) : j30_3 H0 x0 x10 H = b30_3 c82 (j30_4 H0) x0 x10 H := (CXM_eq [3, 6, 9, 12] _ _ _ _).trans (by kernel_rfl)
theorem m30_3 {c82 dc82 : A2} (hc82 : L2 c82 dc82) {j30_4 dj30_4 : A1} (hj30_4 : L1 j30_4 dj30_4) : L2 (b30_3 c82 j30_4) (b30_3 dc82 dj30_4) := fun _ _ _ =>
  bC (hc82 _ _ _) fun _ => bR fun _ => bK (le_refl _) (hj30_4 _ _)
def b30_2 (c81 : A3) (q34 : A3) (j30_3 : A2) (x0 x3 x5 x6 x10 : AV) (H : Hp) : Res :=
  bnd (aload true 6 x5 H) fun t24 =>
  bnd (aload true 5 x6 H) fun t25 =>
  bnd (q34 t24 t25 x3 H) fun r27 =>
  bnd (c81 x0 x10 r27.1 r27.2) fun r28 =>
  bnd (ibin .neq r28.1 (.int .i64 0)) fun t30 =>
  cnd t30
    (some ((.tuple [(.str []), r28.1]), r28.2))
    (j30_3 x0 x10 r28.2)
theorem e30_2 (H0 : Hp) (x0 x3 x5 x6 x10 : AV) (H : Hp) : j30_2 H0 x0 x3 x5 x6 x10 H = b30_2 c81 q34 (j30_3 H0) x0 x3 x5 x6 x10 H := (CXM_eq [3, 6, 9, 12] _ _ _ _).trans (by kernel_rfl)
theorem m30_2 {c81 dc81 : A3} (hc81 : L3 c81 dc81) {q34 dq34 : A3} (hq34 : L3 q34 dq34) {j30_3 dj30_3 : A2} (hj30_3 : L2 j30_3 dj30_3) : L5 (b30_2 c81 q34 j30_3) (b30_2 dc81 dq34 dj30_3) := fun _ _ _ _ _ _ =>
  bR fun _ => bR fun _ => bC (hq34 _ _ _ _) fun _ => bC (hc81 _ _ _ _) fun _ => bR fun _ => bK (le_refl _) (hj30_3 _ _ _)
def b30_1 (c80 : A1) (j30_2 : A5) (x0 x3 x5 x6 : AV) (H : Hp) : Res :=
  bnd (c80 x0 H) fun r16 =>
  bnd (aext r16.1 0) fun t17 =>
  bnd (aext r16.1 1) fun t18 =>
  bnd (ibin .neq t18 (.int .i64 0)) fun t20 =>
  cnd t20
    (some ((.tuple [(.str []), t18]), r16.2))
    (j30_2 x0 x3 x5 x6 t17 r16.2)
theorem e30_1 (H0 : Hp) (x0 x3 x5 x6 : AV) (H : Hp) : j30_1 H0 x0 x3 x5 x6 H = b30_1 c80 (j30_2 H0) x0 x3 x5 x6 H := (CXM_eq [3, 6, 9, 12] _ _ _ _).trans (by kernel_rfl)
theorem m30_1 {c80 dc80 : A1} (hc80 : L1 c80 dc80) {j30_2 dj30_2 : A5} (hj30_2 : L5 j30_2 dj30_2) : L4 (b30_1 c80 j30_2) (b30_1 dc80 dj30_2) := fun _ _ _ _ _ =>
  bC (hc80 _ _) fun _ => bR fun _ => bR fun _ => bR fun _ => bK (le_refl _) (hj30_2 _ _ _ _ _ _)
def rj30_4 (gV : AV → List AV → Hp → Res) : A1 := b30_4
theorem sj30_4 (H0 : Hp) {gV : AV → List AV → Hp → Res} (hV : LV gV (acall cfg (callw cfg))) : L1 (rj30_4 gV) (j30_4 H0) := fun _ _ => le_eq (m30_4 _ _) (e30_4 H0 _ _)
def rj30_3 (gV : AV → List AV → Hp → Res) : A2 := b30_3 rc82 (rj30_4 gV)
theorem sj30_3 (H0 : Hp) {gV : AV → List AV → Hp → Res} (hV : LV gV (acall cfg (callw cfg))) : L2 (rj30_3 gV) (j30_3 H0) := fun _ _ _ => le_eq (m30_3 sc82 (sj30_4 H0 hV) _ _ _) (e30_3 H0 _ _ _)
def rj30_2 (gV : AV → List AV → Hp → Res) : A5 := b30_2 rc81 (rq34 gV) (rj30_3 gV)
theorem sj30_2 (H0 : Hp) {gV : AV → List AV → Hp → Res} (hV : LV gV (acall cfg (callw cfg))) : L5 (rj30_2 gV) (j30_2 H0) := fun _ _ _ _ _ _ => le_eq (m30_2 sc81 (sq34 hV) (sj30_3 H0 hV) _ _ _ _ _ _) (e30_2 H0 _ _ _ _ _ _)
def rj30_1 (gV : AV → List AV → Hp → Res) : A4 := b30_1 rc80 (rj30_2 gV)
theorem sj30_1 (H0 : Hp) {gV : AV → List AV → Hp → Res} (hV : LV gV (acall cfg (callw cfg))) : L4 (rj30_1 gV) (j30_1 H0) := fun _ _ _ _ _ => le_eq (m30_1 sc80 (sj30_2 H0 hV) _ _ _ _ _) (e30_1 H0 _ _ _ _ _)
def bc30 (j30_1 : A4) (p0 p1 p2 p3 : AV) (H : Hp) : Res :=
  bnd (abox p1 H) fun r5 =>
  bnd (abox p2 r5.2) fun r6 =>
  bnd (ebin (.pointer 117) .eql p0 .nilp) fun t13 =>
  cnd t13
    (some ((.tuple [(.str []), (.int .i64 5)]), r6.2))
    (j30_1 p0 p3 r5.1 r6.1 r6.2)
theorem ec30 (p0 p1 p2 p3 : AV) (H : Hp) : c30 p0 p1 p2 p3 H = bc30 (j30_1 H) p0 p1 p2 p3 H := (callw_cxm (C := cfg) (fn := Tryz.f30) (c := bodyOf Tryz.f30) (n := 39) [3, 6, 9, 12] Tryz.func30 (by kernel_rfl) (by kernel_rfl) [p0, p1, p2, p3] (by kernel_rfl) H).trans (by kernel_rfl)
theorem mc30 {j30_1 dj30_1 : A4} (hj30_1 : L4 j30_1 dj30_1) : L4 (bc30 j30_1) (bc30 dj30_1) := fun _ _ _ _ _ =>
  bR fun _ => bR fun _ => bR fun _ => bK (le_refl _) (hj30_1 _ _ _ _ _)
def rc30 (gV : AV → List AV → Hp → Res) : A4 := fun p0 p1 p2 p3 H => bc30 (rj30_1 gV) p0 p1 p2 p3 H
theorem sc30 {gV : AV → List AV → Hp → Res} (hV : LV gV (acall cfg (callw cfg))) : L4 (rc30 gV) c30 := fun _ _ _ _ H => le_eq (mc30 (sj30_1 H hV) _ _ _ _ _) (ec30 _ _ _ _ _)

def c32 (p0 p1 : AV) (H : Hp) : Res := callw cfg 32 [p0, p1] H
def j32_1 (H0 : Hp) (x0 x1 : AV) (H : Hp) : Res := CXf 32 11 (sub (bodyOf Tryz.f32) [1, 1]) (retL cfg 11 32 Tryz.f32 H0) [(0, x0), (1, x1)] H
def b32_1 (x0 x1 : AV) (H : Hp) : Res :=
  bnd ((afill [(0, 1, x0), (1, 1, x1)] [.nilp, (.str []), (.int .i64 0), (.bool false), (.bool false), (.str [])]).map .agg) fun t9 =>
  bnd (abox t9 H) fun r10 =>
  some (r10.1, r10.2)
theorem e32_1 (H0 : Hp) (x0 x1 : AV) (H : Hp) : j32_1 H0 x0 x1 H = b32_1 x0 x1 H := (CXM_eq [3] _ _ _ _).trans (by kernel_rfl)
theorem m32_1 : L2 (b32_1) (b32_1) := fun _ _ _ =>
  bR fun _ => bR fun _ => le_refl _
def rj32_1 : A2 := b32_1
theorem sj32_1 (H0 : Hp) : L2 (rj32_1) (j32_1 H0) := fun _ _ _ => le_eq (m32_1 _ _ _) (e32_1 H0 _ _ _)
def bc32 (j32_1 : A2) (p0 p1 : AV) (H : Hp) : Res :=
  bnd (ebin (.pointer 117) .eql p0 .nilp) fun t6 =>
  cnd t6
    (some (.nilp, H))
    (j32_1 p0 p1 H)
theorem ec32 (p0 p1 : AV) (H : Hp) : c32 p0 p1 H = bc32 (j32_1 H) p0 p1 H := (callw_cxm (C := cfg) (fn := Tryz.f32) (c := bodyOf Tryz.f32) (n := 11) [3] Tryz.func32 (by kernel_rfl) (by kernel_rfl) [p0, p1] (by kernel_rfl) H).trans (by kernel_rfl)
theorem mc32 {j32_1 dj32_1 : A2} (hj32_1 : L2 j32_1 dj32_1) : L2 (bc32 j32_1) (bc32 dj32_1) := fun _ _ _ =>
  bR fun _ => bK (le_refl _) (hj32_1 _ _ _)
def rc32 : A2 := fun p0 p1 H => bc32 (rj32_1) p0 p1 H
theorem sc32 : L2 rc32 c32 := fun _ _ H => le_eq (mc32 (sj32_1 H) _ _ _) (ec32 _ _ _)

def c124 (p0 p1 p2 p3 : AV) (H : Hp) : Res := callw cfg 124 [p0, p1, p2, p3] H
def j124_2 (H0 : Hp) (x2 x3 x10 : AV) (H : Hp) : Res := CXf 124 54 (sub (bodyOf Tryz.f124) [1, 1, 1, 1]) (retL cfg 54 124 Tryz.f124 H0) [(2, x2), (3, x3), (10, x10)] H
def j124_1 (H0 : Hp) (x2 x3 x10 : AV) (H : Hp) : Res := CXf 124 54 (sub (bodyOf Tryz.f124) [1, 1, 1]) (retL cfg 54 124 Tryz.f124 H0) [(2, x2), (3, x3), (10, x10)] H
def b124_2 (x2 x3 x10 : AV) (H : Hp) : Res :=
  bnd (anil x10) fun t37 =>
  bnd (afield 0 t37) fun t38 =>
  bnd (aload false 1 t38 H) fun t39 =>
  bnd (anil x10) fun t44 =>
  bnd (afield 0 t44) fun t45 =>
  bnd (aload false 1 t45 H) fun t46 =>
  bnd (alenD (.slice 5) t46) fun t47 =>
  bnd (ibin .sub t47 x2) fun t49 =>
  bnd (amin2 x3 t49) fun t50 =>
  bnd (ibin .add x2 t50) fun t51 =>
  bnd (asliceV 1 t39 (some x2) (some t51) none) fun t52 =>
  bnd (cvRd t52 H) fun t53 =>
  some ((.tuple [t53, (.int .i64 0)]), H)
theorem e124_2 (H0 : Hp) (x2 x3 x10 : AV) (H : Hp) : j124_2 H0 x2 x3 x10 H = b124_2 x2 x3 x10 H := (CXM_eq [4, 6] _ _ _ _).trans (by kernel_rfl)
theorem m124_2 : L3 (b124_2) (b124_2) := fun _ _ _ _ =>
  bR fun _ => bR fun _ => bR fun _ => bR fun _ => bR fun _ => bR fun _ => bR fun _ => bR fun _ => bR fun _ => bR fun _ => bR fun _ => bR fun _ => le_refl _
def b124_1 (j124_2 : A3) (x2 x3 x10 : AV) (H : Hp) : Res :=
  bnd (ibin .lss x2 (.int .i64 0)) fun t22 =>
  bnd (gdv t22 false (.tuple []) (some x2)) fun t24 =>
  bnd (gdv t22 false (.tuple []) (some x10)) fun t25 =>
  bnd (gdv t22 false (.tuple []) (anil t25)) fun t26 =>
  bnd (gdv t22 false (.tuple []) (afield 0 t26)) fun t27 =>
  bnd (gdv t22 false (.tuple []) (aload false 1 t27 H)) fun t28 =>
  bnd (gdv t22 false (.tuple []) (alenD (.slice 5) t28)) fun t29 =>
  bnd (gdv t22 false (.tuple []) (ibin .gtr t24 t29)) fun t30 =>
  bnd (apick t22 (.bool true) t30) fun t31 =>
  bnd (gdv t31 false (.tuple []) (some x3)) fun t33 =>
  bnd (gdv t31 false (.tuple []) (ibin .lss t33 (.int .i64 0))) fun t34 =>
  bnd (apick t31 (.bool true) t34) fun t35 =>
  cnd t35
    (some ((.tuple [(.str []), (.int .i64 2)]), H))
    (j124_2 x2 x3 x10 H)
theorem e124_1 (H0 : Hp) (x2 x3 x10 : AV) (H : Hp) : j124_1 H0 x2 x3 x10 H = b124_1 (j124_2 H0) x2 x3 x10 H := (CXM_eq [4, 6] _ _ _ _).trans (by kernel_rfl)
theorem m124_1 {j124_2 dj124_2 : A3} (hj124_2 : L3 j124_2 dj124_2) : L3 (b124_1 j124_2) (b124_1 dj124_2) := fun _ _ _ _ =>
  bR fun _ => bR fun _ => bR fun _ => bR fun _ => bR fun _ => bR fun _ => bR fun _ => bR fun _ => bR fun _ => bR fun _ => bR fun _ => bR fun _ => bK (le_refl _) (hj124_2 _ _ _ _)
def rj124_2 : A3 := b124_2
theorem sj124_2 (H0 : Hp) : L3 (rj124_2) (j124_2 H0) := fun _ _ _ _ => le_eq (m124_2 _ _ _ _) (e124_2 H0 _ _ _ _)
def rj124_1 : A3 := b124_1 (rj124_2)
theorem sj124_1 (H0 : Hp) : L3 (rj124_1) (j124_1 H0) := fun _ _ _ _ => le_eq (m124_1 (sj124_2 H0) _ _ _ _) (e124_1 H0 _ _ _ _)
def bc124 (c116 : A2) (j124_1 : A3) (p0 p1 p2 p3 : AV) (H : Hp) : Res :=
  bnd (c116 p0 p1 H) fun r15 =>
  bnd (aext r15.1 0) fun t16 =>
  bnd (aext r15.1 1) fun t17 =>
  bnd (ibin .neq t17 (.int .i64 0)) fun t19 =>
  cnd t19
    (some ((.tuple [(.str []), t17]), r15.2))
    (j124_1 p2 p3 t16 r15.2)
theorem ec124 (p0 p1 p2 p3 : AV) (H : Hp) : c124 p0 p1 p2 p3 H = bc124 c116 (j124_1 H) p0 p1 p2 p3 H := (callw_cxm (C := cfg) (fn := Tryz.f124) (c := bodyOf Tryz.f124) (n := 54) [4, 6] Tryz.func124 (by kernel_rfl) (by kernel_rfl) [p0, p1, p2, p3] (by kernel_rfl) H).trans (by kernel_rfl)
theorem mc124 {c116 dc116 : A2} (hc116 : L2 c116 dc116) {j124_1 dj124_1 : A3} (hj124_1 : L3 j124_1 dj124_1) : L4 (bc124 c116 j124_1) (bc124 dc116 dj124_1) := fun _ _ _ _ _ =>
  bC (hc116 _ _ _) fun _ => bR fun _ => bR fun _ => bR fun _ => bK (le_refl _) (hj124_1 _ _ _ _)
def rc124 : A4 := fun p0 p1 p2 p3 H => bc124 rc116 (rj124_1) p0 p1 p2 p3 H
theorem sc124 : L4 rc124 c124 := fun _ _ _ _ H => le_eq (mc124 sc116 (sj124_1 H) _ _ _ _ _) (ec124 _ _ _ _ _)

def c125 (p0 p1 : AV) (H : Hp) : Res := callw cfg 125 [p0, p1] H
def j125_5 (H0 : Hp) (x1 x7 x8 : AV) (H : Hp) : Res := CXf 125 58 (sub (bodyOf Tryz.f125) [1, 1, 1, 1, 1, 1, 1, 1]) (retL cfg 58 125 Tryz.f125 H0) [(1, x1), (7, x7), (8, x8)] H
def j125_4 (H0 : Hp) (x1 x7 x8 : AV) (H : Hp) : Res := CXf 125 58 (sub (bodyOf Tryz.f125) [1, 1, 1, 1, 1, 1, 1]) (retL cfg 58 125 Tryz.f125 H0) [(1, x1), (7, x7), (8, x8)] H
def j125_3 (H0 : Hp) (x1 x7 x8 : AV) (H : Hp) : Res := CXf 125 58 (sub (bodyOf Tryz.f125) [1, 1, 1, 1, 1, 1]) (retL cfg 58 125 Tryz.f125 H0) [(1, x1), (7, x7), (8, x8)] H
def j125_2 (H0 : Hp) (x1 x7 : AV) (H : Hp) : Res := CXf 125 58 (sub (bodyOf Tryz.f125) [1, 1, 1, 1]) (retL cfg 58 125 Tryz.f125 H0) [(1, x1), (7, x7)] H
def j125_1 (H0 : Hp) (x0 x1 : AV) (H : Hp) : Res := CXf 125 58 (sub (bodyOf Tryz.f125) [1, 1]) (retL cfg 58 125 Tryz.f125 H0) [(0, x0), (1, x1)] H
def b125_5 (x1 x7 x8 : AV) (H : Hp) : Res :=
  bnd (ibin .add x8 (.int .i64 2)) fun t52 =>
  bnd (asliceS x7 (some (.int .i64 2)) (some t52) none) fun t53 =>
  bnd (ibin .add x1 x8) fun t56 =>
  bnd (ibin .add t56 (.int .i64 6)) fun t57 =>
  some ((.tuple [t53, t57, (.int .i64 0)]), H)
theorem e125_5 (H0 : Hp) (x1 x7 x8 : AV) (H : Hp) : j125_5 H0 x1 x7 x8 H = b125_5 x1 x7 x8 H := (CXM_eq [3, 6, 9, 11, 13] _ _ _ _).trans (by kernel_rfl)
theorem m125_5 : L3 (b125_5) (b125_5) := fun _ _ _ _ =>
  bR fun _ => bR fun _ => bR fun _ => bR fun _ => le_refl _
def b125_4 (q173 : A1) (j125_5 : A3) (x1 x7 x8 : AV) (H : Hp) : Res :=
  bnd (ibin .add x8 (.int .i64 2)) fun t40 =>
  bnd (ibin .add x8 (.int .i64 6)) fun t42 =>
  bnd (asliceS x7 (some t40) (some t42) none) fun t43 =>
  bnd (ibin .add x8 (.int .i64 2)) fun t46 =>
  bnd (asliceS x7 none (some t46) none) fun t47 =>
  bnd (q173 t47 H) fun r48 =>
  bnd (sbin .neq t43 r48.1) fun t49 =>
  cnd t49
    (some ((.tuple [(.str []), (.int .i64 0), (.int .i64 13)]), r48.2))
    (j125_5 x1 x7 x8 r48.2)
theorem e125_4 (H0 : Hp) (x1 x7 x8 : AV) (H : Hp) : j125_4 H0 x1 x7 x8 H = b125_4 q173 (j125_5 H0) x1 x7 x8 H := (CXM_eq [3, 6, 9, 11, 13] _ _ _ _).trans (by kernel_rfl)
theorem m125_4 {q173 dq173 : A1} (hq173 : L1 q173 dq173) {j125_5 dj125_5 : A3} (hj125_5 : L3 j125_5 dj125_5) : L3 (b125_4 q173 j125_5) (b125_4 dq173 dj125_5) := fun _ _ _ _ =>
  bR fun _ => bR fun _ => bR fun _ => bR fun _ => bR fun _ => bC (hq173 _ _) fun _ => bR fun _ => bK (le_refl _) (hj125_5 _ _ _ _)
def b125_3 (j125_4 : A3) (x1 x7 x8 : AV) (H : Hp) : Res :=
  bnd (alenD .string x7) fun t34 =>
  bnd (ibin .add x8 (.int .i64 6)) fun t36 =>
  bnd (ibin .lss t34 t36) fun t37 =>
  cnd t37
    (some ((.tuple [(.str []), (.int .i64 0), (.int .i64 14)]), H))
    (j125_4 x1 x7 x8 H)
theorem e125_3 (H0 : Hp) (x1 x7 x8 : AV) (H : Hp) : j125_3 H0 x1 x7 x8 H = b125_3 (j125_4 H0) x1 x7 x8 H := (CXM_eq [3, 6, 9, 11, 13] _ _ _ _).trans (by kernel_rfl)
theorem m125_3 {j125_4 dj125_4 : A3} (hj125_4 : L3 j125_4 dj125_4) : L3 (b125_3 j125_4) (b125_3 dj125_4) := fun _ _ _ _ =>
  bR fun _ => bR fun _ => bR fun _ => bK (le_refl _) (hj125_4 _ _ _ _)
def b125_2 (j125_3 : A3) (x1 x7 : AV) (H : Hp) : Res :=
  bnd (aindexStr x7 (.int .i64 0)) fun t24 =>
  bnd (cvInt .i64 t24) fun t25 =>
  bnd (ibin .shl t25 (.int .u64 8)) fun t26 =>
  bnd (aindexStr x7 (.int .i64 1)) fun t28 =>
  bnd (cvInt .i64 t28) fun t29 =>
  bnd (ibin .or t26 t29) fun t30 =>
  bnd (ibin .gtr t30 (.int .i64 4096)) fun t32 =>
  cnd t32
    (some ((.tuple [(.str []), (.int .i64 0), (.int .i64 13)]), H))
    (j125_3 x1 x7 t30 H)
theorem e125_2 (H0 : Hp) (x1 x7 : AV) (H : Hp) : j125_2 H0 x1 x7 H = b125_2 (j125_3 H0) x1 x7 H := (CXM_eq [3, 6, 9, 11, 13] _ _ _ _).trans (by kernel_rfl)
theorem m125_2 {j125_3 dj125_3 : A3} (hj125_3 : L3 j125_3 dj125_3) : L2 (b125_2 j125_3) (b125_2 dj125_3) := fun _ _ _ =>
  bR fun _ => bR fun _ => bR fun _ => bR fun _ => bR fun _ => bR fun _ => bR fun _ => bK (le_refl _) (hj125_3 _ _ _ _)
def b125_1 (j125_2 : A2) (x0 x1 : AV) (H : Hp) : Res :=
  bnd (asliceS x0 (some x1) none none) fun t19 =>
  bnd (alenD .string t19) fun t21 =>
  bnd (ibin .lss t21 (.int .i64 2)) fun t22 =>
  cnd t22
    (some ((.tuple [(.str []), (.int .i64 0), (.int .i64 14)]), H))
    (j125_2 x1 t19 H)
theorem e125_1 (H0 : Hp) (x0 x1 : AV) (H : Hp) : j125_1 H0 x0 x1 H = b125_1 (j125_2 H0) x0 x1 H := (CXM_eq [3, 6, 9, 11, 13] _ _ _ _).trans (by kernel_rfl)
theorem m125_1 {j125_2 dj125_2 : A2} (hj125_2 : L2 j125_2 dj125_2) : L2 (b125_1 j125_2) (b125_1 dj125_2) := fun _ _ _ =>
  bR fun _ => bR fun _ => bR fun _ => bK (le_refl _) (hj125_2 _ _ _)
def rj125_5 : A3 := b125_5
theorem sj125_5 (H0 : Hp) : L3 (rj125_5) (j125_5 H0) := fun _ _ _ _ => le_eq (m125_5 _ _ _ _) (e125_5 H0 _ _ _ _)
def rj125_4 : A3 := b125_4 rq173 (rj125_5)
theorem sj125_4 (H0 : Hp) : L3 (rj125_4) (j125_4 H0) := fun _ _ _ _ => le_eq (m125_4 sq173 (sj125_5 H0) _ _ _ _) (e125_4 H0 _ _ _ _)
def rj125_3 : A3 := b125_3 (rj125_4)
theorem sj125_3 (H0 : Hp) : L3 (rj125_3) (j125_3 H0) := fun _ _ _ _ => le_eq (m125_3 (sj125_4 H0) _ _ _ _) (e125_3 H0 _ _ _ _)
def rj125_2 : A2 := b125_2 (rj125_3)
theorem sj125_2 (H0 : Hp) : L2 (rj125_2) (j125_2 H0) := fun _ _ _ => le_eq (m125_2 (sj125_3 H0) _ _ _) (e125_2 H0 _ _ _)
def rj125_1 : A2 := b125_1 (rj125_2)
theorem sj125_1 (H0 : Hp) : L2 (rj125_1) (j125_1 H0) := fun _ _ _ => le_eq (m125_1 (sj125_2 H0) _ _ _) (e125_1 H0 _ _ _)
def bc125 (j125_1 : A2) (p0 p1 : AV) (H : Hp) : Res :=
  bnd (ibin .lss p1 (.int .i64 0)) fun t10 =>
  bnd (gdv t10 false (.tuple []) (some p1)) fun t12 =>
  bnd (gdv t10 false (.tuple []) (some p0)) fun t13 =>
  bnd (gdv t10 false (.tuple []) (alenD .string t13)) fun t14 =>
  bnd (gdv t10 false (.tuple []) (ibin .gtr t12 t14)) fun t15 =>
  bnd (apick t10 (.bool true) t15) fun t16 =>
  cnd t16
    (some ((.tuple [(.str []), (.int .i64 0), (.int .i64 2)]), H))
    (j125_1 p0 p1 H)
theorem ec125 (p0 p1 : AV) (H : Hp) : c125 p0 p1 H = bc125 (j125_1 H) p0 p1 H := (callw_cxm (C := cfg) (fn := Tryz.f125) (c := bodyOf Tryz.f125) (n := 58) [3, 6, 9, 11, 13] Tryz.func125 (by kernel_rfl) (by kernel_rfl) [p0, p1] (by kernel_rfl) H).trans (by kernel_rfl)
theorem mc125 {j125_1 dj125_1 : A2} (hj125_1 : L2 j125_1 dj125_1) : L2 (bc125 j125_1) (bc125 dj125_1) := fun _ _ _ =>
  bR fun _ => bR fun _ => bR fun _ => bR fun _ => bR fun _ => bR fun _ => bK (le_refl _) (hj125_1 _ _ _)
def rc125 : A2 := fun p0 p1 H => bc125 (rj125_1) p0 p1 H
theorem sc125 : L2 rc125 c125 := fun _ _ H => le_eq (mc125 (sj125_1 H) _ _ _) (ec125 _ _ _)
def q125 : A2 := fun p0 p1 H => flatC (callw cfg 125) [p0, p1] H
def rq125 : A2 := fun p0 p1 H => flatC (ofL2 (rc125)) [p0, p1] H
theorem sq125 : L2 rq125 q125 := fun _ _ _ => flat_le (ofL2_le (sc125)) _ _

def c86 (p0 p1 p2 : AV) (H : Hp) : Res := callw cfg 86 [p0, p1, p2] H
def j86_4 (H0 : Hp) (x2 x12 x13 : AV) (H : Hp) : Res := CXf 86 49 (sub (bodyOf Tryz.f86) [1, 1, 1, 1, 1, 1, 1]) (retL cfg 49 86 Tryz.f86 H0) [(2, x2), (12, x12), (13, x13)] H
def j86_3 (H0 : Hp) (x2 x10 : AV) (H : Hp) : Res := CXf 86 49 (sub (bodyOf Tryz.f86) [1, 1, 1, 1, 1]) (retL cfg 49 86 Tryz.f86 H0) [(2, x2), (10, x10)] H
def j86_2 (H0 : Hp) (x2 x10 : AV) (H : Hp) : Res := CXf 86 49 (sub (bodyOf Tryz.f86) [1, 1, 1, 1]) (retL cfg 49 86 Tryz.f86 H0) [(2, x2), (10, x10)] H
def j86_1 (H0 : Hp) (x0 x1 x2 : AV) (H : Hp) : Res := CXf 86 49 (sub (bodyOf Tryz.f86) [1, 1]) (retL cfg 49 86 Tryz.f86 H0) [(0, x0), (1, x1), (2, x2)] H
def b86_4 (x2 x12 x13 : AV) (H : Hp) : Res :=
  bnd (ibin .add x2 x13) fun t48 =>
  some ((.tuple [x12, t48, (.int .i64 0)]), H)
theorem e86_4 (H0 : Hp) (x2 x12 x13 : AV) (H : Hp) : j86_4 H0 x2 x12 x13 H = b86_4 x2 x12 x13 H := (CXM_eq [4, 7, 9, 12] _ _ _ _).trans (by kernel_rfl)
theorem m86_4 : L3 (b86_4) (b86_4) := fun _ _ _ _ =>
  bR fun _ => le_refl _
def b86_3 (q125 : A2) (j86_4 : A3) (x2 x10 : AV) (H : Hp) : Res :=
  bnd (q125 x10 (.int .i64 0) H) fun r38 =>
  bnd (aext r38.1 0) fun t39 =>
  bnd (aext r38.1 1) fun t40 =>
  bnd (aext r38.1 2) fun t41 =>
  bnd (ibin .neq t41 (.int .i64 0)) fun t43 =>
  cnd t43
    (some ((.tuple [(.str []), (.int .i64 0), t41]), r38.2))
    (j86_4 x2 t39 t40 r38.2)
theorem e86_3 (H0 : Hp) (x2 x10 : AV) (H : Hp) : j86_3 H0 x2 x10 H = b86_3 q125 (j86_4 H0) x2 x10 H := (CXM_eq [4, 7, 9, 12] _ _ _ _).trans (by kernel_rfl)
theorem m86_3 {q125 dq125 : A2} (hq125 : L2 q125 dq125) {j86_4 dj86_4 : A3} (hj86_4 : L3 j86_4 dj86_4) : L2 (b86_3 q125 j86_4) (b86_3 dq125 dj86_4) := fun _ _ _ =>
  bC (hq125 _ _ _) fun _ => bR fun _ => bR fun _ => bR fun _ => bR fun _ => bK (le_refl _) (hj86_4 _ _ _ _)
def b86_2 (j86_3 : A2) (x2 x10 : AV) (H : Hp) : Res :=
  bnd (sbin .eql x10 (.str [])) fun t35 =>
  cnd t35
    (some ((.tuple [(.str []), (.int .i64 0), (.int .i64 5)]), H))
    (j86_3 x2 x10 H)
theorem e86_2 (H0 : Hp) (x2 x10 : AV) (H : Hp) : j86_2 H0 x2 x10 H = b86_2 (j86_3 H0) x2 x10 H := (CXM_eq [4, 7, 9, 12] _ _ _ _).trans (by kernel_rfl)
theorem m86_2 {j86_3 dj86_3 : A2} (hj86_3 : L2 j86_3 dj86_3) : L2 (b86_2 j86_3) (b86_2 dj86_3) := fun _ _ _ =>
  bR fun _ => bK (le_refl _) (hj86_3 _ _ _)
def b86_1 (c124 : A4) (j86_2 : A2) (x0 x1 x2 : AV) (H : Hp) : Res :=
  bnd (anil x0) fun t22 =>
  bnd (afield 0 t22) fun t23 =>
  bnd (afield 0 t23) fun t24 =>
  bnd (aload false 1 t24 H) fun t25 =>
  bnd (c124 t25 x1 x2 (.int .i64 4102) H) fun r28 =>
  bnd (aext r28.1 0) fun t29 =>
  bnd (aext r28.1 1) fun t30 =>
  bnd (ibin .neq t30 (.int .i64 0)) fun t32 =>
  cnd t32
    (some ((.tuple [(.str []), (.int .i64 0), t30]), r28.2))
    (j86_2 x2 t29 r28.2)
theorem e86_1 (H0 : Hp) (x0 x1 x2 : AV) (H : Hp) : j86_1 H0 x0 x1 x2 H = b86_1 c124 (j86_2 H0) x0 x1 x2 H := (CXM_eq [4, 7, 9, 12] _ _ _ _).trans (by kernel_rfl)
theorem m86_1 {c124 dc124 : A4} (hc124 : L4 c124 dc124) {j86_2 dj86_2 : A2} (hj86_2 : L2 j86_2 dj86_2) : L3 (b86_1 c124 j86_2) (b86_1 dc124 dj86_2) := fun _ _ _ _ =>
  bR fun _ => bR fun _ => bR fun _ => bR fun _ => bC (hc124 _ _ _ _ _) fun _ => bR fun _ => bR fun _ => bR fun _ => bK (le_refl _) (hj86_2 _ _ _)
def rj86_4 : A3 := b86_4
theorem sj86_4 (H0 : Hp) : L3 (rj86_4) (j86_4 H0) := fun _ _ _ _ => le_eq (m86_4 _ _ _ _) (e86_4 H0 _ _ _ _)
def rj86_3 : A2 := b86_3 rq125 (rj86_4)
theorem sj86_3 (H0 : Hp) : L2 (rj86_3) (j86_3 H0) := fun _ _ _ => le_eq (m86_3 sq125 (sj86_4 H0) _ _ _) (e86_3 H0 _ _ _)
def rj86_2 : A2 := b86_2 (rj86_3)
theorem sj86_2 (H0 : Hp) : L2 (rj86_2) (j86_2 H0) := fun _ _ _ => le_eq (m86_2 (sj86_3 H0) _ _ _) (e86_2 H0 _ _ _)
def rj86_1 : A3 := b86_1 rc124 (rj86_2)
theorem sj86_1 (H0 : Hp) : L3 (rj86_1) (j86_1 H0) := fun _ _ _ _ => le_eq (m86_1 sc124 (sj86_2 H0) _ _ _ _) (e86_1 H0 _ _ _ _)
def bc86 (c120 : A2) (j86_1 : A3) (p0 p1 p2 : AV) (H : Hp) : Res :=
  bnd (c120 p0 p1 H) fun r16 =>
  bnd (ibin .neq r16.1 (.int .i64 0)) fun t18 =>
  cnd t18
    (some ((.tuple [(.str []), (.int .i64 0), r16.1]), r16.2))
    (j86_1 p0 p1 p2 r16.2)
theorem ec86 (p0 p1 p2 : AV) (H : Hp) : c86 p0 p1 p2 H = bc86 c120 (j86_1 H) p0 p1 p2 H := (callw_cxm (C := cfg) (fn := Tryz.f86) (c := bodyOf Tryz.f86) (n := 49) [4, 7, 9, 12] Tryz.func86 (by kernel_rfl) (by kernel_rfl) [p0, p1, p2] (by kernel_rfl) H).trans (by kernel_rfl)
theorem mc86 {c120 dc120 : A2} (hc120 : L2 c120 dc120) {j86_1 dj86_1 : A3} (hj86_1 : L3 j86_1 dj86_1) : L3 (bc86 c120 j86_1) (bc86 dc120 dj86_1) := fun _ _ _ _ =>
  bC (hc120 _ _ _) fun _ => bR fun _ => bK (le_refl _) (hj86_1 _ _ _ _)
def rc86 : A3 := fun p0 p1 p2 H => bc86 rc120 (rj86_1) p0 p1 p2 H
theorem sc86 : L3 rc86 c86 := fun _ _ _ H => le_eq (mc86 sc120 (sj86_1 H) _ _ _ _) (ec86 _ _ _ _)

def c36 (p0 : AV) (H : Hp) : Res := callw cfg 36 [p0] H
def j36_3 (H0 : Hp) (x0 : AV) (H : Hp) : Res := CXf 36 68 (sub (bodyOf Tryz.f36) [1, 1, 1, 1]) (retL cfg 68 36 Tryz.f36 H0) [(0, x0)] H
def j36_2 (H0 : Hp) (x0 : AV) (H : Hp) : Res := CXf 36 68 (sub (bodyOf Tryz.f36) [1, 1, 1]) (retL cfg 68 36 Tryz.f36 H0) [(0, x0)] H
def j36_1 (H0 : Hp) (x0 : AV) (H : Hp) : Res := CXf 36 68 (sub (bodyOf Tryz.f36) [1, 1]) (retL cfg 68 36 Tryz.f36 H0) [(0, x0)] H
def b36_3 (x0 : AV) (H : Hp) : Res :=
  bnd (anil x0) fun t65 =>
  bnd (afield 5 t65) fun t66 =>
  bnd (aload false 1 t66 H) fun t67 =>
  some ((.tuple [t67, (.bool true), (.int .i64 0)]), H)
theorem e36_3 (H0 : Hp) (x0 : AV) (H : Hp) : j36_3 H0 x0 H = b36_3 x0 H := (CXM_eq [3, 11, 13] _ _ _ _).trans (by kernel_rfl)
theorem m36_3 : L1 (b36_3) (b36_3) := fun _ _ =>
  bR fun _ => bR fun _ => bR fun _ => le_refl _
def b36_2 (j36_3 : A1) (x0 : AV) (H : Hp) : Res :=
  bnd (anil x0) fun t60 =>
  bnd (afield 3 t60) fun t61 =>
  bnd (aload false 1 t61 H) fun t62 =>
  bnd (aun .not t62) fun t63 =>
  cnd t63
    (some ((.tuple [(.str []), (.bool false), (.int .i64 0)]), H))
    (j36_3 x0 H)
theorem e36_2 (H0 : Hp) (x0 : AV) (H : Hp) : j36_2 H0 x0 H = b36_2 (j36_3 H0) x0 H := (CXM_eq [3, 11, 13] _ _ _ _).trans (by kernel_rfl)
theorem m36_2 {j36_3 dj36_3 : A1} (hj36_3 : L1 j36_3 dj36_3) : L1 (b36_2 j36_3) (b36_2 dj36_3) := fun _ _ =>
  bR fun _ => bR fun _ => bR fun _ => bR fun _ => bK (le_refl _) (hj36_3 _ _)
def b36_1 (c86 : A3) (j36_2 : A1) (x0 : AV) (H : Hp) : Res :=
  bnd (anil x0) fun t11 =>
  bnd (afield 3 t11) fun t12 =>
  bnd (aload false 1 t12 H) fun t13 =>
  bnd (aun .not t13) fun t14 =>
  bnd (gdv t14 true (.tuple []) (some x0)) fun t16 =>
  bnd (gdv t14 true (.tuple []) (anil t16)) fun t17 =>
  bnd (gdv t14 true (.tuple []) (afield 4 t17)) fun t18 =>
  bnd (gdv t14 true (.tuple []) (aload false 1 t18 H)) fun t19 =>
  bnd (gdv t14 true (.tuple []) (aun .not t19)) fun t20 =>
  bnd (apick t14 t20 (.bool false)) fun t21 =>
  cnd t21
    (bnd (anil x0) fun t24 =>
    bnd (afield 0 t24) fun t25 =>
    bnd (aload false 1 t25 H) fun t26 =>
    bnd (anil x0) fun t28 =>
    bnd (afield 1 t28) fun t29 =>
    bnd (aload false 1 t29 H) fun t30 =>
    bnd (anil x0) fun t32 =>
    bnd (afield 2 t32) fun t33 =>
    bnd (aload false 1 t33 H) fun t34 =>
    bnd (c86 t26 t30 t34 H) fun r35 =>
    bnd (aext r35.1 0) fun t36 =>
    bnd (aext r35.1 1) fun t37 =>
    bnd (aext r35.1 2) fun t38 =>
    bnd (ibin .eql t38 (.int .i64 0)) fun t42 =>
    cnd t42
      (bnd (anil x0) fun t48 =>
      bnd (afield 5 t48) fun t49 =>
      bnd (astoreU 1 t49 t36 r35.2) fun r_34 =>
      bnd (anil x0) fun t50 =>
      bnd (afield 2 t50) fun t51 =>
      bnd (astoreU 1 t51 t37 r_34.2) fun r_37 =>
      bnd (anil x0) fun t52 =>
      bnd (afield 3 t52) fun t53 =>
      bnd (astoreU 1 t53 (.bool true) r_37.2) fun r_40 =>
      j36_2 x0 r_40.2)
      (bnd (ibin .eql t38 (.int .i64 5)) fun t55 =>
      cnd t55
        (bnd (anil x0) fun t57 =>
        bnd (afield 4 t57) fun t58 =>
        bnd (astoreU 1 t58 (.bool true) r35.2) fun r_44 =>
        j36_2 x0 r_44.2)
        (some ((.tuple [(.str []), (.bool false), t38]), r35.2))))
    (j36_2 x0 H)
theorem e36_1 (H0 : Hp) (x0 : AV) (H : Hp) : j36_1 H0 x0 H = b36_1 c86 (j36_2 H0) x0 H := (CXM_eq [3, 11, 13] _ _ _ _).trans (by kernel_rfl)
theorem m36_1 {c86 dc86 : A3} (hc86 : L3 c86 dc86) {j36_2 dj36_2 : A1} (hj36_2 : L1 j36_2 dj36_2) : L1 (b36_1 c86 j36_2) (b36_1 dc86 dj36_2) := fun _ _ =>
  bR fun _ => bR fun _ => bR fun _ => bR fun _ => bR fun _ => bR fun _ => bR fun _ => bR fun _ => bR fun _ => bR fun _ => bK (bR fun _ => bR fun _ => bR fun _ => bR fun _ => bR fun _ => bR fun _ => bR fun _ => bR fun _ => bR fun _ => bC (hc86 _ _ _ _) fun _ => bR fun _ => bR fun _ => bR fun _ => bR fun _ => bK (bR fun _ => bR fun _ => bR fun _ => bR fun _ => bR fun _ => bR fun _ => bR fun _ => bR fun _ => bR fun _ => hj36_2 _ _) (bR fun _ => bK (bR fun _ => bR fun _ => bR fun _ => hj36_2 _ _) (le_refl _))) (hj36_2 _ _)
def rj36_3 : A1 := b36_3
theorem sj36_3 (H0 : Hp) : L1 (rj36_3) (j36_3 H0) := fun _ _ => le_eq (m36_3 _ _) (e36_3 H0 _ _)
def rj36_2 : A1 := b36_2 (rj36_3)
theorem sj36_2 (H0 : Hp) : L1 (rj36_2) (j36_2 H0) := fun _ _ => le_eq (m36_2 (sj36_3 H0) _ _) (e36_2 H0 _ _)
def rj36_1 : A1 := b36_1 rc86 (rj36_2)
theorem sj36_1 (H0 : Hp) : L1 (rj36_1) (j36_1 H0) := fun _ _ => le_eq (m36_1 sc86 (sj36_2 H0) _ _) (e36_1 H0 _ _)
def bc36 (j36_1 : A1) (p0 : AV) (H : Hp) : Res :=
  bnd (ebin (.pointer 125) .eql p0 .nilp) fun t9 =>
  cnd t9
    (some ((.tuple [(.str []), (.bool false), (.int .i64 5)]), H))
    (j36_1 p0 H)
theorem ec36 (p0 : AV) (H : Hp) : c36 p0 H = bc36 (j36_1 H) p0 H := (callw_cxm (C := cfg) (fn := Tryz.f36) (c := bodyOf Tryz.f36) (n := 68) [3, 11, 13] Tryz.func36 (by kernel_rfl) (by kernel_rfl) [p0] (by kernel_rfl) H).trans (by kernel_rfl)
theorem mc36 {j36_1 dj36_1 : A1} (hj36_1 : L1 j36_1 dj36_1) : L1 (bc36 j36_1) (bc36 dj36_1) := fun _ _ =>
  bR fun _ => bK (le_refl _) (hj36_1 _ _)
def rc36 : A1 := fun p0 H => bc36 (rj36_1) p0 H
theorem sc36 : L1 rc36 c36 := fun _ H => le_eq (mc36 (sj36_1 H) _ _) (ec36 _ _)

def c33 (p0 : AV) (H : Hp) : Res := callw cfg 33 [p0] H
def j33_1 (H0 : Hp) (x5 x6 x7 : AV) (H : Hp) : Res := CXf 33 24 (sub (bodyOf Tryz.f33) [1, 1, 1]) (retL cfg 24 33 Tryz.f33 H0) [(5, x5), (6, x6), (7, x7)] H
def b33_1 (x5 x6 x7 : AV) (H : Hp) : Res :=
  some ((.tuple [x5, x6, x7]), H)
theorem e33_1 (H0 : Hp) (x5 x6 x7 : AV) (H : Hp) : j33_1 H0 x5 x6 x7 H = b33_1 x5 x6 x7 H := (CXM_eq [4] _ _ _ _).trans (by kernel_rfl)
theorem m33_1 : L3 (b33_1) (b33_1) := fun _ _ _ _ =>
  le_refl _
def rj33_1 : A3 := b33_1
theorem sj33_1 (H0 : Hp) : L3 (rj33_1) (j33_1 H0) := fun _ _ _ _ => le_eq (m33_1 _ _ _ _) (e33_1 H0 _ _ _ _)
def bc33 (c36 : A1) (j33_1 : A3) (p0 : AV) (H : Hp) : Res :=
  bnd (c36 p0 H) fun r10 =>
  bnd (aext r10.1 0) fun t11 =>
  bnd (aext r10.1 1) fun t12 =>
  bnd (aext r10.1 2) fun t13 =>
  cnd t12
    (bnd (anil p0) fun t17 =>
    bnd (afield 3 t17) fun t18 =>
    bnd (astoreU 1 t18 (.bool false) r10.2) fun r_7 =>
    bnd (anil p0) fun t19 =>
    bnd (afield 5 t19) fun t20 =>
    bnd (astoreU 1 t20 (.str []) r_7.2) fun r_10 =>
    j33_1 t11 t12 t13 r_10.2)
    (j33_1 t11 t12 t13 r10.2)
theorem ec33 (p0 : AV) (H : Hp) : c33 p0 H = bc33 c36 (j33_1 H) p0 H := (callw_cxm (C := cfg) (fn := Tryz.f33) (c := bodyOf Tryz.f33) (n := 24) [4] Tryz.func33 (by kernel_rfl) (by kernel_rfl) [p0] (by kernel_rfl) H).trans (by kernel_rfl)
theorem mc33 {c36 dc36 : A1} (hc36 : L1 c36 dc36) {j33_1 dj33_1 : A3} (hj33_1 : L3 j33_1 dj33_1) : L1 (bc33 c36 j33_1) (bc33 dc36 dj33_1) := fun _ _ =>
  bC (hc36 _ _) fun _ => bR fun _ => bR fun _ => bR fun _ => bK (bR fun _ => bR fun _ => bR fun _ => bR fun _ => bR fun _ => bR fun _ => hj33_1 _ _ _ _) (hj33_1 _ _ _ _)
def rc33 : A1 := fun p0 H => bc33 rc36 (rj33_1) p0 H
theorem sc33 : L1 rc33 c33 := fun _ H => le_eq (mc33 sc36 (sj33_1 H) _ _) (ec33 _ _)

def c39 (p0 p1 : AV) (H : Hp) : Res := callw cfg 39 [p0, p1] H
def j39_1 (H0 : Hp) (x5 : AV) (H : Hp) : Res := CXf 39 38 (sub (bodyOf Tryz.f39) [1, 1, 1, 1]) (retL cfg 38 39 Tryz.f39 H0) [(5, x5)] H
def k39_1 (H0 : Hp) : KL := seqL (fun k al H => CXf 39 38 (sub (bodyOf Tryz.f39) [1, 1, 1, 1]) k (trimL (cfg.keep 39) (sub (bodyOf Tryz.f39) [1, 1, 1, 1]) al) H) (retL cfg 38 39 Tryz.f39 H0)
theorem k39_1_tame (H0 : Hp) : Tame 38 (k39_1 H0) := tame_seq (C := cfg) (kp := cfg.keep 39) (sub (bodyOf Tryz.f39) [1, 1, 1, 1]) (tame_ret 39 Tryz.f39 H0)
def j39_3 (H0 : Hp) (x1 x5 x12 x13 : AV) (H : Hp) : Res := CXf 39 38 (sub (bodyOf Tryz.f39) [1, 1, 1, 0, 1, 0, 0, 1, 1, 1]) (seqL (fun k al H => LPf 39 38 (sub (bodyOf Tryz.f39) [1, 1, 1, 0, 1, 0, 0]) k (trimL (cfg.keep 39) (sub (bodyOf Tryz.f39) [1, 1, 1, 0, 1, 0, 0]) al) H) (blockL 0 (k39_1 H0))) [(1, x1), (5, x5), (12, x12), (13, x13)] H
def k39_2 (H0 : Hp) : KL := seqL (fun k al H => CXf 39 38 (sub (bodyOf Tryz.f39) [1, 1, 1, 0, 1, 0, 0, 1, 1, 1]) k (trimL (cfg.keep 39) (sub (bodyOf Tryz.f39) [1, 1, 1, 0, 1, 0, 0, 1, 1, 1]) al) H) (seqL (fun k al H => LPf 39 38 (sub (bodyOf Tryz.f39) [1, 1, 1, 0, 1, 0, 0]) k (trimL (cfg.keep 39) (sub (bodyOf Tryz.f39) [1, 1, 1, 0, 1, 0, 0]) al) H) (blockL 0 (k39_1 H0)))
def j39_4 (H0 : Hp) (x1 x5 x6 x12 x13 : AV) (H : Hp) : Res := CXf 39 38 (sub (bodyOf Tryz.f39) [1, 1, 1, 0, 1, 0, 0, 1, 1, 0, 0, 1, 1]) (blockL 1 (k39_2 H0)) [(1, x1), (5, x5), (6, x6), (12, x12), (13, x13)] H
def j39_2 (H0 : Hp) (x1 x5 x12 x13 x14 : AV) (H : Hp) : Res := CXf 39 38 (sub (bodyOf Tryz.f39) [1, 1, 1, 0, 1, 0, 0, 1, 1]) (seqL (fun k al H => LPf 39 38 (sub (bodyOf Tryz.f39) [1, 1, 1, 0, 1, 0, 0]) k (trimL (cfg.keep 39) (sub (bodyOf Tryz.f39) [1, 1, 1, 0, 1, 0, 0]) al) H) (blockL 0 (k39_1 H0))) [(1, x1), (5, x5), (12, x12), (13, x13), (14, x14)] H
def j39_l1 (H0 : Hp) (x1 x5 x12 x13 : AV) (H : Hp) : Res := LPf 39 38 (sub (bodyOf Tryz.f39) [1, 1, 1, 0, 1, 0, 0]) (blockL 0 (k39_1 H0)) [(1, x1), (5, x5), (12, x12), (13, x13)] H
def b39_1 (x5 : AV) (H : Hp) : Res :=
  some (x5, H)
theorem e39_1 (H0 : Hp) (x5 : AV) (H : Hp) : j39_1 H0 x5 H = b39_1 x5 H := (CXM_eq [5, 8, 10, 11] _ _ _ _).trans (by kernel_rfl)
theorem m39_1 : L1 (b39_1) (b39_1) := fun _ _ =>
  le_refl _
def b39_3 (j39_l1 : A4) (x1 x5 x12 x13 : AV) (H : Hp) : Res :=
  bnd (ibin .add x13 (.int .i64 1)) fun t36 =>
  j39_l1 x1 x5 x12 t36 H
theorem e39_3 (H0 : Hp) (x1 x5 x12 x13 : AV) (H : Hp) : j39_3 H0 x1 x5 x12 x13 H = b39_3 (j39_l1 H0) x1 x5 x12 x13 H := (CXM_eq [5, 8, 10, 11] _ _ _ _).trans (by kernel_rfl)
theorem m39_3 {j39_l1 dj39_l1 : A4} (hj39_l1 : L4 j39_l1 dj39_l1) : L4 (b39_3 j39_l1) (b39_3 dj39_l1) := fun _ _ _ _ _ =>
  bR fun _ => hj39_l1 _ _ _ _ _
def b39_4 (j39_3 : A4) (x1 x5 x6 x12 x13 : AV) (H : Hp) : Res :=
  bnd (alenD (.slice 22) x5) fun t24 =>
  bnd (ibin .sub t24 (.int .i64 1)) fun t25 =>
  bnd (aindexS 1 x5 t25) fun t30 =>
  bnd (aload false 1 t30 H) fun t31 =>
  bnd ((setElems 1 [(0, x6)] [(.int .i64 0)]).map (.vs 1 .clip)) fun t33 =>
  bnd (aappE 1 8 t31 t33 H) fun r34 =>
  bnd (aindexS 1 x5 t25) fun t35 =>
  bnd (astoreU 1 t35 r34.1 r34.2) fun r_13 =>
  j39_3 x1 x5 x12 x13 r_13.2
theorem e39_4 (H0 : Hp) (x1 x5 x6 x12 x13 : AV) (H : Hp) : j39_4 H0 x1 x5 x6 x12 x13 H = b39_4 (j39_3 H0) x1 x5 x6 x12 x13 H := (CXM_eq [5, 8, 10, 11] _ _ _ _).trans (by kernel_rfl)
theorem m39_4 {j39_3 dj39_3 : A4} (hj39_3 : L4 j39_3 dj39_3) : L5 (b39_4 j39_3) (b39_4 dj39_3) := fun _ _ _ _ _ _ =>
  bR fun _ => bR fun _ => bR fun _ => bR fun _ => bR fun _ => bR fun _ => bR fun _ => bR fun _ => hj39_3 _ _ _ _ _
def b39_2 (j39_4 : A5) (x1 x5 x12 x13 x14 : AV) (H : Hp) : Res :=
  bnd (ibin .rem x13 x1) fun t18 =>
  bnd (ibin .eql t18 (.int .i64 0)) fun t19 =>
  cnd t19
    (bnd ((setElems 1 [(0, .nils)] [.nils]).map (.vs 1 .clip)) fun t21 =>
    bnd (aappEL false 1 24 x5 t21 H) fun r22 =>
    j39_4 x1 r22.1 x13 x12 x13 r22.2)
    (j39_4 x1 x5 x13 x12 x13 H)
theorem e39_2 (H0 : Hp) (x1 x5 x12 x13 x14 : AV) (H : Hp) : j39_2 H0 x1 x5 x12 x13 x14 H = b39_2 (j39_4 H0) x1 x5 x12 x13 x14 H := (CXM_eq [5, 8, 10, 11] _ _ _ _).trans (by kernel_rfl)
theorem m39_2 {j39_4 dj39_4 : A5} (hj39_4 : L5 j39_4 dj39_4) : L5 (b39_2 j39_4) (b39_2 dj39_4) := fun _ _ _ _ _ _ =>
  bR fun _ => bR fun _ => bK (bR fun _ => bR fun _ => hj39_4 _ _ _ _ _ _) (hj39_4 _ _ _ _ _ _)
def b39_l1 (j39_1 : A1) (j39_2 : A5) (x1 x5 x12 x13 : AV) (H : Hp) : Res :=
  bnd (ibin .lss x13 x12) fun t14 =>
  cnd t14
    (j39_2 x1 x5 x12 x13 t14 H)
    (j39_1 x5 H)
theorem e39_l1 (H0 : Hp) (x1 x5 x12 x13 : AV) (H : Hp) : j39_l1 H0 x1 x5 x12 x13 H = b39_l1 (j39_1 H0) (j39_2 H0) x1 x5 x12 x13 H := (LPL_eqm (C := cfg) [5, 8, 10, 11] (tame_block 0 (k39_1_tame H0)) _ _).trans (by kernel_rfl)
theorem m39_l1 {j39_1 dj39_1 : A1} (hj39_1 : L1 j39_1 dj39_1) {j39_2 dj39_2 : A5} (hj39_2 : L5 j39_2 dj39_2) : L4 (b39_l1 j39_1 j39_2) (b39_l1 dj39_1 dj39_2) := fun _ _ _ _ _ =>
  bR fun _ => bK (hj39_2 _ _ _ _ _ _) (hj39_1 _ _)
def rj39_1 : A1 := b39_1
theorem sj39_1 (H0 : Hp) : L1 (rj39_1) (j39_1 H0) := fun _ _ => le_eq (m39_1 _ _) (e39_1 H0 _ _)
def rj39_3 (j39_l1 : A4) : A4 := b39_3 j39_l1
theorem sj39_3 (H0 : Hp) {yj39_l1 : A4} (hj39_l1 : L4 yj39_l1 (j39_l1 H0)) : L4 (rj39_3 yj39_l1) (j39_3 H0) := fun _ _ _ _ _ => le_eq (m39_3 hj39_l1 _ _ _ _ _) (e39_3 H0 _ _ _ _ _)
def rj39_4 (j39_l1 : A4) : A5 := b39_4 (rj39_3 j39_l1)
theorem sj39_4 (H0 : Hp) {yj39_l1 : A4} (hj39_l1 : L4 yj39_l1 (j39_l1 H0)) : L5 (rj39_4 yj39_l1) (j39_4 H0) := fun _ _ _ _ _ _ => le_eq (m39_4 (sj39_3 H0 hj39_l1) _ _ _ _ _ _) (e39_4 H0 _ _ _ _ _ _)
def rj39_2 (j39_l1 : A4) : A5 := b39_2 (rj39_4 j39_l1)
theorem sj39_2 (H0 : Hp) {yj39_l1 : A4} (hj39_l1 : L4 yj39_l1 (j39_l1 H0)) : L5 (rj39_2 yj39_l1) (j39_2 H0) := fun _ _ _ _ _ _ => le_eq (m39_2 (sj39_4 H0 hj39_l1) _ _ _ _ _ _) (e39_2 H0 _ _ _ _ _ _)
def rj39_l1 (n : Nat) : A4 := @Nat.rec (fun _ => A4) (fun _ _ _ _ _ => none) (fun _ j39_l1 => b39_l1 (rj39_1) (rj39_2 j39_l1)) n
theorem sj39_l1 (H0 : Hp) (n : Nat) : L4 (rj39_l1 n) (j39_l1 H0) := by
  induction n with
  | zero => exact fun _ _ _ _ _ => le_none _
  | succ n hj39_l1 => exact fun _ _ _ _ _ => le_eq (m39_l1 (sj39_1 H0) (sj39_2 H0 hj39_l1) _ _ _ _ _) (e39_l1 H0 _ _ _ _ _)
def bc39 (j39_l1 : A4) (p0 p1 : AV) (H : Hp) : Res :=
  bnd (amax2 p1 (.int .i64 2)) fun t9 =>
  bnd (amin2 t9 (.int .i64 32)) fun t10 =>
  bnd (amax2 p0 (.int .i64 0)) fun t12 =>
  j39_l1 t10 .nils t12 (.int .i64 0) H
theorem ec39 (p0 p1 : AV) (H : Hp) : c39 p0 p1 H = bc39 (j39_l1 H) p0 p1 H := (callw_cxm (C := cfg) (fn := Tryz.f39) (c := bodyOf Tryz.f39) (n := 38) [5, 8, 10, 11] Tryz.func39 (by kernel_rfl) (by kernel_rfl) [p0, p1] (by kernel_rfl) H).trans (by kernel_rfl)
theorem mc39 {j39_l1 dj39_l1 : A4} (hj39_l1 : L4 j39_l1 dj39_l1) : L2 (bc39 j39_l1) (bc39 dj39_l1) := fun _ _ _ =>
  bR fun _ => bR fun _ => bR fun _ => hj39_l1 _ _ _ _ _
def rc39 : A2 := fun p0 p1 H => bc39 (rj39_l1 100000) p0 p1 H
theorem sc39 : L2 rc39 c39 := fun _ _ H => le_eq (mc39 (sj39_l1 H 100000) _ _ _) (ec39 _ _ _)
def q39 : A2 := fun p0 p1 H => flatC (callw cfg 39) [p0, p1] H
def rq39 : A2 := fun p0 p1 H => flatC (ofL2 (rc39)) [p0, p1] H
theorem sq39 : L2 rq39 q39 := fun _ _ _ => flat_le (ofL2_le (sc39)) _ _

def c42 (p0 p1 p2 p3 : AV) (H : Hp) : Res := callw cfg 42 [p0, p1, p2, p3] H
def j42_1 (H0 : Hp) (x11 x12 x13 : AV) (H : Hp) : Res := CXf 42 70 (sub (bodyOf Tryz.f42) [1, 1, 1, 1]) (retL cfg 70 42 Tryz.f42 H0) [(11, x11), (12, x12), (13, x13)] H
def k42_1 (H0 : Hp) : KL := seqL (fun k al H => CXf 42 70 (sub (bodyOf Tryz.f42) [1, 1, 1, 1]) k (trimL (cfg.keep 42) (sub (bodyOf Tryz.f42) [1, 1, 1, 1]) al) H) (retL cfg 70 42 Tryz.f42 H0)
theorem k42_1_tame (H0 : Hp) : Tame 70 (k42_1 H0) := tame_seq (C := cfg) (kp := cfg.keep 42) (sub (bodyOf Tryz.f42) [1, 1, 1, 1]) (tame_ret 42 Tryz.f42 H0)
def j42_3 (H0 : Hp) (x2 x3 x4 x5 x11 x12 x13 x14 : AV) (H : Hp) : Res := CXf 42 70 (sub (bodyOf Tryz.f42) [1, 1, 1, 0, 1, 0, 0, 1, 1]) (seqL (fun k al H => LPf 42 70 (sub (bodyOf Tryz.f42) [1, 1, 1, 0, 1, 0, 0]) k (trimL (cfg.keep 42) (sub (bodyOf Tryz.f42) [1, 1, 1, 0, 1, 0, 0]) al) H) (blockL 0 (k42_1 H0))) [(2, x2), (3, x3), (4, x4), (5, x5), (11, x11), (12, x12), (13, x13), (14, x14)] H
def k42_2 (H0 : Hp) : KL := seqL (fun k al H => CXf 42 70 (sub (bodyOf Tryz.f42) [1, 1, 1, 0, 1, 0, 0, 1, 1]) k (trimL (cfg.keep 42) (sub (bodyOf Tryz.f42) [1, 1, 1, 0, 1, 0, 0, 1, 1]) al) H) (seqL (fun k al H => LPf 42 70 (sub (bodyOf Tryz.f42) [1, 1, 1, 0, 1, 0, 0]) k (trimL (cfg.keep 42) (sub (bodyOf Tryz.f42) [1, 1, 1, 0, 1, 0, 0]) al) H) (blockL 0 (k42_1 H0)))
def j42_4 (H0 : Hp) (x2 x3 x4 x5 x11 x12 x13 x14 x15 : AV) (H : Hp) : Res := CXf 42 70 (sub (bodyOf Tryz.f42) [1, 1, 1, 0, 1, 0, 0, 1, 0, 0, 1, 1]) (blockL 1 (k42_2 H0)) [(2, x2), (3, x3), (4, x4), (5, x5), (11, x11), (12, x12), (13, x13), (14, x14), (15, x15)] H
def k42_3 (H0 : Hp) : KL := seqL (fun k al H => CXf 42 70 (sub (bodyOf Tryz.f42) [1, 1, 1, 0, 1, 0, 0, 1, 0, 0, 1, 1]) k (trimL (cfg.keep 42) (sub (bodyOf Tryz.f42) [1, 1, 1, 0, 1, 0, 0, 1, 0, 0, 1, 1]) al) H) (blockL 1 (k42_2 H0))
def j42_5 (H0 : Hp) (x2 x3 x4 x5 x11 x12 x13 x14 x15 : AV) (H : Hp) : Res := CXf 42 70 (sub (bodyOf Tryz.f42) [1, 1, 1, 0, 1, 0, 0, 1, 0, 0, 1, 0, 1, 1, 1, 1]) (k42_3 H0) [(2, x2), (3, x3), (4, x4), (5, x5), (11, x11), (12, x12), (13, x13), (14, x14), (15, x15)] H
def j42_2 (H0 : Hp) (x2 x3 x4 x5 x11 x13 x14 : AV) (H : Hp) : Res := CXf 42 70 (sub (bodyOf Tryz.f42) [1, 1, 1, 0, 1, 0, 0, 1]) (seqL (fun k al H => LPf 42 70 (sub (bodyOf Tryz.f42) [1, 1, 1, 0, 1, 0, 0]) k (trimL (cfg.keep 42) (sub (bodyOf Tryz.f42) [1, 1, 1, 0, 1, 0, 0]) al) H) (blockL 0 (k42_1 H0))) [(2, x2), (3, x3), (4, x4), (5, x5), (11, x11), (13, x13), (14, x14)] H
def j42_l1 (H0 : Hp) (x2 x3 x4 x5 x11 x12 x13 x14 : AV) (H : Hp) : Res := LPf 42 70 (sub (bodyOf Tryz.f42) [1, 1, 1, 0, 1, 0, 0]) (blockL 0 (k42_1 H0)) [(2, x2), (3, x3), (4, x4), (5, x5), (11, x11), (12, x12), (13, x13), (14, x14)] H
def b42_1 (x11 x12 x13 : AV) (H : Hp) : Res :=
  bnd (ibin .eql x12 (.int .i64 0)) fun t69 =>
  some ((.tuple [x11, x13, t69]), H)
theorem e42_1 (H0 : Hp) (x11 x12 x13 : AV) (H : Hp) : j42_1 H0 x11 x12 x13 H = b42_1 x11 x12 x13 H := (CXM_eq [5, 6, 12, 14, 15] _ _ _ _).trans (by kernel_rfl)
theorem m42_1 : L3 (b42_1) (b42_1) := fun _ _ _ _ =>
  bR fun _ => le_refl _
def b42_3 (j42_l1 : A8) (x2 x3 x4 x5 x11 x12 x13 x14 : AV) (H : Hp) : Res :=
  bnd (ibin .add x14 (.int .i64 1)) fun t30 =>
  j42_l1 x2 x3 x4 x5 x11 x12 x13 t30 H
theorem e42_3 (H0 : Hp) (x2 x3 x4 x5 x11 x12 x13 x14 : AV) (H : Hp) : j42_3 H0 x2 x3 x4 x5 x11 x12 x13 x14 H = b42_3 (j42_l1 H0) x2 x3 x4 x5 x11 x12 x13 x14 H := (CXM_eq [5, 6, 12, 14, 15] _ _ _ _).trans (by kernel_rfl)
theorem m42_3 {j42_l1 dj42_l1 : A8} (hj42_l1 : L8 j42_l1 dj42_l1) : L8 (b42_3 j42_l1) (b42_3 dj42_l1) := fun _ _ _ _ _ _ _ _ _ =>
  bR fun _ => hj42_l1 _ _ _ _ _ _ _ _ _
def b42_4 (j42_3 : A8) (x2 x3 x4 x5 x11 x12 x13 x14 x15 : AV) (H : Hp) : Res :=
  bnd ((setElems 1 [(0, x15)] [(.str [])]).map (.vs 1 .clip)) fun t64 =>
  bnd (aappE 1 16 x13 t64 H) fun r65 =>
  j42_3 x2 x3 x4 x5 x11 x12 r65.1 x14 r65.2
theorem e42_4 (H0 : Hp) (x2 x3 x4 x5 x11 x12 x13 x14 x15 : AV) (H : Hp) : j42_4 H0 x2 x3 x4 x5 x11 x12 x13 x14 x15 H = b42_4 (j42_3 H0) x2 x3 x4 x5 x11 x12 x13 x14 x15 H := (CXM_eq [5, 6, 12, 14, 15] _ _ _ _).trans (by kernel_rfl)
theorem m42_4 {j42_3 dj42_3 : A8} (hj42_3 : L8 j42_3 dj42_3) : L9 (b42_4 j42_3) (b42_4 dj42_3) := fun _ _ _ _ _ _ _ _ _ _ =>
  bR fun _ => bR fun _ => hj42_3 _ _ _ _ _ _ _ _ _
def b42_5 (c82 : A2) (j42_4 : A9) (x2 x3 x4 x5 x11 x12 x13 x14 x15 : AV) (H : Hp) : Res :=
  bnd (ibin .eql x12 (.int .i64 0)) fun t58 =>
  cnd t58
    (bnd (c82 x11 x15 H) fun r61 =>
    j42_4 x2 x3 x4 x5 x11 r61.1 x13 x14 x15 r61.2)
    (j42_4 x2 x3 x4 x5 x11 x12 x13 x14 x15 H)
theorem e42_5 (H0 : Hp) (x2 x3 x4 x5 x11 x12 x13 x14 x15 : AV) (H : Hp) : j42_5 H0 x2 x3 x4 x5 x11 x12 x13 x14 x15 H = b42_5 c82 (j42_4 H0) x2 x3 x4 x5 x11 x12 x13 x14 x15 H := (CXM_eq [5, 6, 12, 14, 15] _ _ _ _).trans (by kernel_rfl)
theorem m42_5 {c82 dc82 : A2} (hc82 : L2 c82 dc82) {j42_4 dj42_4 : A9} (hj42_4 : L9 j42_4 dj42_4) : L9 (b42_5 c82 j42_4) (b42_5 dc82 dj42_4) := fun _ _ _ _ _ _ _ _ _ _ =>
  bR fun _ => bK (bC (hc82 _ _ _) fun _ => hj42_4 _ _ _ _ _ _ _ _ _ _) (hj42_4 _ _ _ _ _ _ _ _ _ _)
def b42_2 (c30 : A4) (c80 : A1) (c81 : A3) (j42_4 : A9) (j42_5 : A9) (x2 x3 x4 x5 x11 x13 x14 : AV) (H : Hp) : Res :=
  cnd x3
    (bnd (aload true 6 x4 H) fun t34 =>
    bnd (aload true 5 x5 H) fun t35 =>
    bnd (aindexS 1 x2 x14) fun t38 =>
    bnd (aload false 1 t38 H) fun t39 =>
    bnd (c30 x11 t34 t35 t39 H) fun r40 =>
    bnd (aext r40.1 0) fun t41 =>
    bnd (aext r40.1 1) fun t42 =>
    j42_4 x2 x3 x4 x5 x11 t42 x13 x14 t41 r40.2)
    (bnd (c80 x11 H) fun r45 =>
    bnd (aext r45.1 0) fun t46 =>
    bnd (aext r45.1 1) fun t47 =>
    bnd (ibin .eql t47 (.int .i64 0)) fun t49 =>
    cnd t49
      (bnd (aindexS 1 x2 x14) fun t54 =>
      bnd (aload false 1 t54 r45.2) fun t55 =>
      bnd (c81 x11 t46 t55 r45.2) fun r56 =>
      j42_5 x2 x3 x4 x5 x11 r56.1 x13 x14 t46 r56.2)
      (j42_5 x2 x3 x4 x5 x11 t47 x13 x14 t46 r45.2))
theorem e42_2 (H0 : Hp) (x2 x3 x4 x5 x11 x13 x14 : AV) (H : Hp) : j42_2 H0 x2 x3 x4 x5 x11 x13 x14 H = b42_2 c30 c80 c81 (j42_4 H0) (j42_5 H0) x2 x3 x4 x5 x11 x13 x14 H := (CXM_eq [5, 6, 12, 14, 15] _ _ _ _).trans (by kernel_rfl)
theorem m42_2 {c30 dc30 : A4} (hc30 : L4 c30 dc30) {c80 dc80 : A1} (hc80 : L1 c80 dc80) {c81 dc81 : A3} (hc81 : L3 c81 dc81) {j42_4 dj42_4 : A9} (hj42_4 : L9 j42_4 dj42_4) {j42_5 dj42_5 : A9} (hj42_5 : L9 j42_5 dj42_5) : L7 (b42_2 c30 c80 c81 j42_4 j42_5) (b42_2 dc30 dc80 dc81 dj42_4 dj42_5) := fun _ _ _ _ _ _ _ _ =>
  bK (bR fun _ => bR fun _ => bR fun _ => bR fun _ => bC (hc30 _ _ _ _ _) fun _ => bR fun _ => bR fun _ => hj42_4 _ _ _ _ _ _ _ _ _ _) (bC (hc80 _ _) fun _ => bR fun _ => bR fun _ => bR fun _ => bK (bR fun _ => bR fun _ => bC (hc81 _ _ _ _) fun _ => hj42_5 _ _ _ _ _ _ _ _ _ _) (hj42_5 _ _ _ _ _ _ _ _ _ _))
def b42_l1 (j42_1 : A3) (j42_2 : A7) (x2 x3 x4 x5 x11 x12 x13 x14 : AV) (H : Hp) : Res :=
  bnd (alenD (.slice 32) x2) fun t23 =>
  bnd (ibin .lss x14 t23) fun t24 =>
  bnd (gdv t24 true (.tuple []) (some x12)) fun t26 =>
  bnd (gdv t24 true (.tuple []) (ibin .eql t26 (.int .i64 0))) fun t27 =>
  bnd (apick t24 t27 (.bool false)) fun t28 =>
  cnd t28
    (j42_2 x2 x3 x4 x5 x11 x13 x14 H)
    (j42_1 x11 x12 x13 H)
theorem e42_l1 (H0 : Hp) (x2 x3 x4 x5 x11 x12 x13 x14 : AV) (H : Hp) : j42_l1 H0 x2 x3 x4 x5 x11 x12 x13 x14 H = b42_l1 (j42_1 H0) (j42_2 H0) x2 x3 x4 x5 x11 x12 x13 x14 H := (LPL_eqm (C := cfg) [5, 6, 12, 14, 15] (tame_block 0 (k42_1_tame H0)) _ _).trans (by kernel_rfl)
theorem m42_l1 {j42_1 dj42_1 : A3} (hj42_1 : L3 j42_1 dj42_1) {j42_2 dj42_2 : A7} (hj42_2 : L7 j42_2 dj42_2) : L8 (b42_l1 j42_1 j42_2) (b42_l1 dj42_1 dj42_2) := fun _ _ _ _ _ _ _ _ _ =>
  bR fun _ => bR fun _ => bR fun _ => bR fun _ => bR fun _ => bK (hj42_2 _ _ _ _ _ _ _ _) (hj42_1 _ _ _ _)
def rj42_1 (gV : AV → List AV → Hp → Res) : A3 := b42_1
theorem sj42_1 (H0 : Hp) {gV : AV → List AV → Hp → Res} (hV : LV gV (acall cfg (callw cfg))) : L3 (rj42_1 gV) (j42_1 H0) := fun _ _ _ _ => le_eq (m42_1 _ _ _ _) (e42_1 H0 _ _ _ _)
def rj42_3 (gV : AV → List AV → Hp → Res) (j42_l1 : A8) : A8 := b42_3 j42_l1
theorem sj42_3 (H0 : Hp) {gV : AV → List AV → Hp → Res} (hV : LV gV (acall cfg (callw cfg))) {yj42_l1 : A8} (hj42_l1 : L8 yj42_l1 (j42_l1 H0)) : L8 (rj42_3 gV yj42_l1) (j42_3 H0) := fun _ _ _ _ _ _ _ _ _ => le_eq (m42_3 hj42_l1 _ _ _ _ _ _ _ _ _) (e42_3 H0 _ _ _ _ _ _ _ _ _)
def rj42_4 (gV : AV → List AV → Hp → Res) (j42_l1 : A8) : A9 := b42_4 (rj42_3 gV j42_l1)
theorem sj42_4 (H0 : Hp) {gV : AV → List AV → Hp → Res} (hV : LV gV (acall cfg (callw cfg))) {yj42_l1 : A8} (hj42_l1 : L8 yj42_l1 (j42_l1 H0)) : L9 (rj42_4 gV yj42_l1) (j42_4 H0) := fun _ _ _ _ _ _ _ _ _ _ => le_eq (m42_4 (sj42_3 H0 hV hj42_l1) _ _ _ _ _ _ _ _ _ _) (e42_4 H0 _ _ _ _ _ _ _ _ _ _)
def rj42_5 (gV : AV → List AV → Hp → Res) (j42_l1 : A8) : A9 := b42_5 rc82 (rj42_4 gV j42_l1)
theorem sj42_5 (H0 : Hp) {gV : AV → List AV → Hp → Res} (hV : LV gV (acall cfg (callw cfg))) {yj42_l1 : A8} (hj42_l1 : L8 yj42_l1 (j42_l1 H0)) : L9 (rj42_5 gV yj42_l1) (j42_5 H0) := fun _ _ _ _ _ _ _ _ _ _ => le_eq (m42_5 sc82 (sj42_4 H0 hV hj42_l1) _ _ _ _ _ _ _ _ _ _) (e42_5 H0 _ _ _ _ _ _ _ _ _ _)
def rj42_2 (gV : AV → List AV → Hp → Res) (j42_l1 : A8) : A7 := b42_2 (rc30 gV) rc80 rc81 (rj42_4 gV j42_l1) (rj42_5 gV j42_l1)
theorem sj42_2 (H0 : Hp) {gV : AV → List AV → Hp → Res} (hV : LV gV (acall cfg (callw cfg))) {yj42_l1 : A8} (hj42_l1 : L8 yj42_l1 (j42_l1 H0)) : L7 (rj42_2 gV yj42_l1) (j42_2 H0) := fun _ _ _ _ _ _ _ _ => le_eq (m42_2 (sc30 hV) sc80 sc81 (sj42_4 H0 hV hj42_l1) (sj42_5 H0 hV hj42_l1) _ _ _ _ _ _ _ _) (e42_2 H0 _ _ _ _ _ _ _ _)
def rj42_l1 (gV : AV → List AV → Hp → Res) (n : Nat) : A8 := @Nat.rec (fun _ => A8) (fun _ _ _ _ _ _ _ _ _ => none) (fun _ j42_l1 => b42_l1 (rj42_1 gV) (rj42_2 gV j42_l1)) n
theorem sj42_l1 (H0 : Hp) {gV : AV → List AV → Hp → Res} (hV : LV gV (acall cfg (callw cfg))) (n : Nat) : L8 (rj42_l1 gV n) (j42_l1 H0) := by
  induction n with
  | zero => exact fun _ _ _ _ _ _ _ _ _ => le_none _
  | succ n hj42_l1 => exact fun _ _ _ _ _ _ _ _ _ => le_eq (m42_l1 (sj42_1 H0 hV) (sj42_2 H0 hV hj42_l1) _ _ _ _ _ _ _ _ _) (e42_l1 H0 _ _ _ _ _ _ _ _ _)
def bc42 (c28 : A3) (c29 : A1) (j42_l1 : A8) (p0 p1 p2 p3 : AV) (H : Hp) : Res :=
  bnd (abox p0 H) fun r4 =>
  bnd (abox p1 r4.2) fun r5 =>
  bnd (c29 (.int .i64 262144) r5.2) fun r17 =>
  bnd (c28 r17.1 (.str [109, 101, 114, 103, 101]) (.int .i64 262144) r17.2) fun r18 =>
  bnd (aext r18.1 0) fun t19 =>
  bnd (aext r18.1 1) fun t20 =>
  j42_l1 p2 p3 r4.1 r5.1 t19 t20 .nils (.int .i64 0) r18.2
theorem ec42 (p0 p1 p2 p3 : AV) (H : Hp) : c42 p0 p1 p2 p3 H = bc42 c28 c29 (j42_l1 H) p0 p1 p2 p3 H := (callw_cxm (C := cfg) (fn := Tryz.f42) (c := bodyOf Tryz.f42) (n := 70) [5, 6, 12, 14, 15] Tryz.func42 (by kernel_rfl) (by kernel_rfl) [p0, p1, p2, p3] (by kernel_rfl) H).trans (by kernel_rfl)
theorem mc42 {c28 dc28 : A3} (hc28 : L3 c28 dc28) {c29 dc29 : A1} (hc29 : L1 c29 dc29) {j42_l1 dj42_l1 : A8} (hj42_l1 : L8 j42_l1 dj42_l1) : L4 (bc42 c28 c29 j42_l1) (bc42 dc28 dc29 dj42_l1) := fun _ _ _ _ _ =>
  bR fun _ => bR fun _ => bC (hc29 _ _) fun _ => bC (hc28 _ _ _ _) fun _ => bR fun _ => bR fun _ => hj42_l1 _ _ _ _ _ _ _ _ _
def rc42 (gV : AV → List AV → Hp → Res) : A4 := fun p0 p1 p2 p3 H => bc42 rc28 rc29 (rj42_l1 gV 100000) p0 p1 p2 p3 H
theorem sc42 {gV : AV → List AV → Hp → Res} (hV : LV gV (acall cfg (callw cfg))) : L4 (rc42 gV) c42 := fun _ _ _ _ H => le_eq (mc42 sc28 sc29 (sj42_l1 H hV 100000) _ _ _ _ _) (ec42 _ _ _ _ _)

def c145 (p0 p1 p2 p3 : AV) (H : Hp) : Res := callw cfg 145 [p0, p1, p2, p3] H
def bc145 (cV : AV → List AV → Hp → Res) (p0 p1 p2 p3 : AV) (H : Hp) : Res :=
  bnd (anil p0) fun t9 =>
  bnd (afield 2 t9) fun t10 =>
  bnd (aload false 1 t10 H) fun t11 =>
  bnd (aun .not t11) fun t12 =>
  bnd (gdv t12 false (.tuple []) (some p3)) fun t14 =>
  bnd (gdv t12 false (.tuple []) (some p2)) fun t15 =>
  bnd (gdv t12 false (.tuple []) (some p0)) fun t16 =>
  bnd (gdv t12 false (.tuple []) (anil t16)) fun t17 =>
  bnd (gdv t12 false (.tuple []) (afield 0 t17)) fun t18 =>
  bnd (gdv t12 false (.tuple []) (aload false 1 t18 H)) fun t19 =>
  bnd (gdv t12 false ((.tuple []), H) (cV t14 [t15, t19] H)) fun r20 =>
  bnd (apick t12 (.bool true) r20.1) fun t21 =>
  cnd t21
    (bnd ((afill [(0, 1, p2), (1, 1, p1), (2, 1, (.bool true))] [(.str []), (.int .i64 0), (.bool false)]).map .agg) fun t25 =>
    bnd (anil p0) fun t26 =>
    bnd (astoreU 3 t26 t25 r20.2) fun r_15 =>
    some ((.tuple []), r_15.2))
    (some ((.tuple []), r20.2))
theorem ec145 (p0 p1 p2 p3 : AV) (H : Hp) : c145 p0 p1 p2 p3 H = bc145 (acall cfg (callw cfg)) p0 p1 p2 p3 H := (callw_cxm (C := cfg) (fn := Tryz.f145) (c := bodyOf Tryz.f145) (n := 27) [] Tryz.func145 (by kernel_rfl) (by kernel_rfl) [p0, p1, p2, p3] (by kernel_rfl) H).trans (by kernel_rfl)
theorem mc145 {cV dcV : AV → List AV → Hp → Res} (hcV : LV cV dcV) : L4 (bc145 cV) (bc145 dcV) := fun _ _ _ _ _ =>
  bR fun _ => bR fun _ => bR fun _ => bR fun _ => bR fun _ => bR fun _ => bR fun _ => bR fun _ => bR fun _ => bR fun _ => bG (hcV _ _ _) fun _ => bR fun _ => bK (bR fun _ => bR fun _ => bR fun _ => le_refl _) (le_refl _)
def rc145 (gV : AV → List AV → Hp → Res) : A4 := fun p0 p1 p2 p3 H => bc145 gV p0 p1 p2 p3 H
theorem sc145 {gV : AV → List AV → Hp → Res} (hV : LV gV (acall cfg (callw cfg))) : L4 (rc145 gV) c145 := fun _ _ _ _ H => le_eq (mc145 hV _ _ _ _ _) (ec145 _ _ _ _ _)

def c102 (p0 : AV) (H : Hp) : Res := callw cfg 102 [p0] H
def j102_3 (H0 : Hp) (x13 : AV) (H : Hp) : Res := CXf 102 67 (sub (bodyOf Tryz.f102) [1, 1, 1, 1, 1, 1, 1, 1]) (retL cfg 67 102 Tryz.f102 H0) [(13, x13)] H
def j102_2 (H0 : Hp) (x1 x5 : AV) (H : Hp) : Res := CXf 102 67 (sub (bodyOf Tryz.f102) [1, 1, 1, 1, 1, 1]) (retL cfg 67 102 Tryz.f102 H0) [(1, x1), (5, x5)] H
def j102_1 (H0 : Hp) (x1 x5 x7 : AV) (H : Hp) : Res := CXf 102 67 (sub (bodyOf Tryz.f102) [1, 1, 1, 1, 1]) (retL cfg 67 102 Tryz.f102 H0) [(1, x1), (5, x5), (7, x7)] H
def k102_1 (H0 : Hp) : KL := seqL (fun k al H => CXf 102 67 (sub (bodyOf Tryz.f102) [1, 1, 1, 1, 1]) k (trimL (cfg.keep 102) (sub (bodyOf Tryz.f102) [1, 1, 1, 1, 1]) al) H) (retL cfg 67 102 Tryz.f102 H0)
theorem k102_1_tame (H0 : Hp) : Tame 67 (k102_1 H0) := tame_seq (C := cfg) (kp := cfg.keep 102) (sub (bodyOf Tryz.f102) [1, 1, 1, 1, 1]) (tame_ret 102 Tryz.f102 H0)
def j102_5 (H0 : Hp) (x1 x5 x6 x7 x20 x21 x22 : AV) (H : Hp) : Res := CXf 102 67 (sub (bodyOf Tryz.f102) [1, 1, 1, 1, 0, 1, 0, 0, 1, 1, 1]) (seqL (fun k al H => LPf 102 67 (sub (bodyOf Tryz.f102) [1, 1, 1, 1, 0, 1, 0, 0]) k (trimL (cfg.keep 102) (sub (bodyOf Tryz.f102) [1, 1, 1, 1, 0, 1, 0, 0]) al) H) (blockL 0 (k102_1 H0))) [(1, x1), (5, x5), (6, x6), (7, x7), (20, x20), (21, x21), (22, x22)] H
def k102_2 (H0 : Hp) : KL := seqL (fun k al H => CXf 102 67 (sub (bodyOf Tryz.f102) [1, 1, 1, 1, 0, 1, 0, 0, 1, 1, 1]) k (trimL (cfg.keep 102) (sub (bodyOf Tryz.f102) [1, 1, 1, 1, 0, 1, 0, 0, 1, 1, 1]) al) H) (seqL (fun k al H => LPf 102 67 (sub (bodyOf Tryz.f102) [1, 1, 1, 1, 0, 1, 0, 0]) k (trimL (cfg.keep 102) (sub (bodyOf Tryz.f102) [1, 1, 1, 1, 0, 1, 0, 0]) al) H) (blockL 0 (k102_1 H0)))
def j102_6 (H0 : Hp) (x1 x5 x6 x7 x8 x10 x11 x20 x21 x22 : AV) (H : Hp) : Res := CXf 102 67 (sub (bodyOf Tryz.f102) [1, 1, 1, 1, 0, 1, 0, 0, 1, 1, 0, 0, 1, 1, 1]) (blockL 1 (k102_2 H0)) [(1, x1), (5, x5), (6, x6), (7, x7), (8, x8), (10, x10), (11, x11), (20, x20), (21, x21), (22, x22)] H
def j102_4 (H0 : Hp) (x1 x5 x6 x7 x20 x21 x22 x23 : AV) (H : Hp) : Res := CXf 102 67 (sub (bodyOf Tryz.f102) [1, 1, 1, 1, 0, 1, 0, 0, 1, 1]) (seqL (fun k al H => LPf 102 67 (sub (bodyOf Tryz.f102) [1, 1, 1, 1, 0, 1, 0, 0]) k (trimL (cfg.keep 102) (sub (bodyOf Tryz.f102) [1, 1, 1, 1, 0, 1, 0, 0]) al) H) (blockL 0 (k102_1 H0))) [(1, x1), (5, x5), (6, x6), (7, x7), (20, x20), (21, x21), (22, x22), (23, x23)] H
def j102_l1 (H0 : Hp) (x1 x5 x6 x7 x20 x21 x22 : AV) (H : Hp) : Res := LPf 102 67 (sub (bodyOf Tryz.f102) [1, 1, 1, 1, 0, 1, 0, 0]) (blockL 0 (k102_1 H0)) [(1, x1), (5, x5), (6, x6), (7, x7), (20, x20), (21, x21), (22, x22)] H
def b102_3 (x13 : AV) (H : Hp) : Res :=
  some ((.tuple [x13, (.bool true), (.int .i64 0)]), H)
theorem e102_3 (H0 : Hp) (x13 : AV) (H : Hp) : j102_3 H0 x13 H = b102_3 x13 H := (CXM_eq [6, 10, 12, 13, 15, 18] _ _ _ _).trans (by kernel_rfl)
theorem m102_3 : L1 (b102_3) (b102_3) := fun _ _ =>
  le_refl _
def b102_2 (c33 : A1) (j102_3 : A1) (x1 x5 : AV) (H : Hp) : Res :=
  bnd (aload false 1 x1 H) fun t51 =>
  bnd (anil t51) fun t52 =>
  bnd (afield 12 t52) fun t53 =>
  bnd (aload false 1 t53 H) fun t54 =>
  bnd (afield 1 x5) fun t55 =>
  bnd (aload false 1 t55 H) fun t56 =>
  bnd (aindexS 1 t54 t56) fun t57 =>
  bnd (aload false 1 t57 H) fun t58 =>
  bnd (c33 t58 H) fun r59 =>
  bnd (aext r59.1 0) fun t60 =>
  bnd (aext r59.1 1) fun t61 =>
  bnd (aext r59.1 2) fun t62 =>
  bnd (ibin .neq t62 (.int .i64 0)) fun t64 =>
  cnd t64
    (some ((.tuple [(.str []), (.bool false), t62]), r59.2))
    (j102_3 t60 r59.2)
theorem e102_2 (H0 : Hp) (x1 x5 : AV) (H : Hp) : j102_2 H0 x1 x5 H = b102_2 c33 (j102_3 H0) x1 x5 H := (CXM_eq [6, 10, 12, 13, 15, 18] _ _ _ _).trans (by kernel_rfl)
theorem m102_2 {c33 dc33 : A1} (hc33 : L1 c33 dc33) {j102_3 dj102_3 : A1} (hj102_3 : L1 j102_3 dj102_3) : L2 (b102_2 c33 j102_3) (b102_2 dc33 dj102_3) := fun _ _ _ =>
  bR fun _ => bR fun _ => bR fun _ => bR fun _ => bR fun _ => bR fun _ => bR fun _ => bR fun _ => bC (hc33 _ _) fun _ => bR fun _ => bR fun _ => bR fun _ => bR fun _ => bK (le_refl _) (hj102_3 _ _)
def b102_1 (j102_2 : A2) (x1 x5 x7 : AV) (H : Hp) : Res :=
  bnd (ibin .neq x7 (.int .i64 0)) fun t43 =>
  bnd (gdv t43 false (.tuple []) (afield 2 x5)) fun t45 =>
  bnd (gdv t43 false (.tuple []) (aload false 1 t45 H)) fun t46 =>
  bnd (gdv t43 false (.tuple []) (aun .not t46)) fun t47 =>
  bnd (apick t43 (.bool true) t47) fun t48 =>
  cnd t48
    (some ((.tuple [(.str []), (.bool false), x7]), H))
    (j102_2 x1 x5 H)
theorem e102_1 (H0 : Hp) (x1 x5 x7 : AV) (H : Hp) : j102_1 H0 x1 x5 x7 H = b102_1 (j102_2 H0) x1 x5 x7 H := (CXM_eq [6, 10, 12, 13, 15, 18] _ _ _ _).trans (by kernel_rfl)
theorem m102_1 {j102_2 dj102_2 : A2} (hj102_2 : L2 j102_2 dj102_2) : L3 (b102_1 j102_2) (b102_1 dj102_2) := fun _ _ _ _ =>
  bR fun _ => bR fun _ => bR fun _ => bR fun _ => bR fun _ => bK (le_refl _) (hj102_2 _ _ _)
def b102_5 (j102_l1 : A7) (x1 x5 x6 x7 x20 x21 x22 : AV) (H : Hp) : Res :=
  bnd (ibin .add x22 (.int .i64 1)) fun t41 =>
  j102_l1 x1 x5 x6 x7 x20 x21 t41 H
theorem e102_5 (H0 : Hp) (x1 x5 x6 x7 x20 x21 x22 : AV) (H : Hp) : j102_5 H0 x1 x5 x6 x7 x20 x21 x22 H = b102_5 (j102_l1 H0) x1 x5 x6 x7 x20 x21 x22 H := (CXM_eq [6, 10, 12, 13, 15, 18] _ _ _ _).trans (by kernel_rfl)
theorem m102_5 {j102_l1 dj102_l1 : A7} (hj102_l1 : L7 j102_l1 dj102_l1) : L7 (b102_5 j102_l1) (b102_5 dj102_l1) := fun _ _ _ _ _ _ _ _ =>
  bR fun _ => hj102_l1 _ _ _ _ _ _ _ _
def b102_6 (c145 : A4) (j102_5 : A7) (x1 x5 x6 x7 x8 x10 x11 x20 x21 x22 : AV) (H : Hp) : Res :=
  cnd x11
    (bnd (c145 x5 x8 x10 x6 H) fun r40 =>
    j102_5 x1 x5 x6 x7 x20 x21 x22 r40.2)
    (j102_5 x1 x5 x6 x7 x20 x21 x22 H)
theorem e102_6 (H0 : Hp) (x1 x5 x6 x7 x8 x10 x11 x20 x21 x22 : AV) (H : Hp) : j102_6 H0 x1 x5 x6 x7 x8 x10 x11 x20 x21 x22 H = b102_6 c145 (j102_5 H0) x1 x5 x6 x7 x8 x10 x11 x20 x21 x22 H := (CXM_eq [6, 10, 12, 13, 15, 18] _ _ _ _).trans (by kernel_rfl)
theorem m102_6 {c145 dc145 : A4} (hc145 : L4 c145 dc145) {j102_5 dj102_5 : A7} (hj102_5 : L7 j102_5 dj102_5) : L10 (b102_6 c145 j102_5) (b102_6 dc145 dj102_5) := fun _ _ _ _ _ _ _ _ _ _ _ =>
  bK (bC (hc145 _ _ _ _ _) fun _ => hj102_5 _ _ _ _ _ _ _ _) (hj102_5 _ _ _ _ _ _ _ _)
def b102_4 (c36 : A1) (j102_1 : A3) (j102_6 : A10) (x1 x5 x6 x7 x20 x21 x22 x23 : AV) (H : Hp) : Res :=
  bnd (aindexS 1 x20 x22) fun t25 =>
  bnd (aload false 1 t25 H) fun t26 =>
  bnd (c36 t26 H) fun r29 =>
  bnd (aext r29.1 0) fun t30 =>
  bnd (aext r29.1 1) fun t31 =>
  bnd (aext r29.1 2) fun t32 =>
  bnd (ibin .neq t32 (.int .i64 0)) fun t34 =>
  cnd t34
    (j102_1 x1 x5 t32 r29.2)
    (j102_6 x1 x5 x6 x7 x22 t30 t31 x20 x21 x22 r29.2)
theorem e102_4 (H0 : Hp) (x1 x5 x6 x7 x20 x21 x22 x23 : AV) (H : Hp) : j102_4 H0 x1 x5 x6 x7 x20 x21 x22 x23 H = b102_4 c36 (j102_1 H0) (j102_6 H0) x1 x5 x6 x7 x20 x21 x22 x23 H := (CXM_eq [6, 10, 12, 13, 15, 18] _ _ _ _).trans (by kernel_rfl)
theorem m102_4 {c36 dc36 : A1} (hc36 : L1 c36 dc36) {j102_1 dj102_1 : A3} (hj102_1 : L3 j102_1 dj102_1) {j102_6 dj102_6 : A10} (hj102_6 : L10 j102_6 dj102_6) : L8 (b102_4 c36 j102_1 j102_6) (b102_4 dc36 dj102_1 dj102_6) := fun _ _ _ _ _ _ _ _ _ =>
  bR fun _ => bR fun _ => bC (hc36 _ _) fun _ => bR fun _ => bR fun _ => bR fun _ => bR fun _ => bK (hj102_1 _ _ _ _) (hj102_6 _ _ _ _ _ _ _ _ _ _ _)
def b102_l1 (j102_1 : A3) (j102_4 : A8) (x1 x5 x6 x7 x20 x21 x22 : AV) (H : Hp) : Res :=
  bnd (ibin .lss x22 x21) fun t23 =>
  cnd t23
    (j102_4 x1 x5 x6 x7 x20 x21 x22 t23 H)
    (j102_1 x1 x5 x7 H)
theorem e102_l1 (H0 : Hp) (x1 x5 x6 x7 x20 x21 x22 : AV) (H : Hp) : j102_l1 H0 x1 x5 x6 x7 x20 x21 x22 H = b102_l1 (j102_1 H0) (j102_4 H0) x1 x5 x6 x7 x20 x21 x22 H := (LPL_eqm (C := cfg) [6, 10, 12, 13, 15, 18] (tame_block 0 (k102_1_tame H0)) _ _).trans (by kernel_rfl)
theorem m102_l1 {j102_1 dj102_1 : A3} (hj102_1 : L3 j102_1 dj102_1) {j102_4 dj102_4 : A8} (hj102_4 : L8 j102_4 dj102_4) : L7 (b102_l1 j102_1 j102_4) (b102_l1 dj102_1 dj102_4) := fun _ _ _ _ _ _ _ _ =>
  bR fun _ => bK (hj102_4 _ _ _ _ _ _ _ _ _) (hj102_1 _ _ _ _)
def rj102_3 (gV : AV → List AV → Hp → Res) : A1 := b102_3
theorem sj102_3 (H0 : Hp) {gV : AV → List AV → Hp → Res} (hV : LV gV (acall cfg (callw cfg))) : L1 (rj102_3 gV) (j102_3 H0) := fun _ _ => le_eq (m102_3 _ _) (e102_3 H0 _ _)
def rj102_2 (gV : AV → List AV → Hp → Res) : A2 := b102_2 rc33 (rj102_3 gV)
theorem sj102_2 (H0 : Hp) {gV : AV → List AV → Hp → Res} (hV : LV gV (acall cfg (callw cfg))) : L2 (rj102_2 gV) (j102_2 H0) := fun _ _ _ => le_eq (m102_2 sc33 (sj102_3 H0 hV) _ _ _) (e102_2 H0 _ _ _)
def rj102_1 (gV : AV → List AV → Hp → Res) : A3 := b102_1 (rj102_2 gV)
theorem sj102_1 (H0 : Hp) {gV : AV → List AV → Hp → Res} (hV : LV gV (acall cfg (callw cfg))) : L3 (rj102_1 gV) (j102_1 H0) := fun _ _ _ _ => le_eq (m102_1 (sj102_2 H0 hV) _ _ _ _) (e102_1 H0 _ _ _ _)
def rj102_5 (gV : AV → List AV → Hp → Res) (j102_l1 : A7) : A7 := b102_5 j102_l1
theorem sj102_5 (H0 : Hp) {gV : AV → List AV → Hp → Res} (hV : LV gV (acall cfg (callw cfg))) {yj102_l1 : A7} (hj102_l1 : L7 yj102_l1 (j102_l1 H0)) : L7 (rj102_5 gV yj102_l1) (j102_5 H0) := fun _ _ _ _ _ _ _ _ => le_eq (m102_5 hj102_l1 _ _ _ _ _ _ _ _) (e102_5 H0 _ _ _ _ _ _ _ _)
def rj102_6 (gV : AV → List AV → Hp → Res) (j102_l1 : A7) : A10 := b102_6 (rc145 gV) (rj102_5 gV j102_l1)
theorem sj102_6 (H0 : Hp) {gV : AV → List AV → Hp → Res} (hV : LV gV (acall cfg (callw cfg))) {yj102_l1 : A7} (hj102_l1 : L7 yj102_l1 (j102_l1 H0)) : L10 (rj102_6 gV yj102_l1) (j102_6 H0) := fun _ _ _ _ _ _ _ _ _ _ _ => le_eq (m102_6 (sc145 hV) (sj102_5 H0 hV hj102_l1) _ _ _ _ _ _ _ _ _ _ _) (e102_6 H0 _ _ _ _ _ _ _ _ _ _ _)
def rj102_4 (gV : AV → List AV → Hp → Res) (j102_l1 : A7) : A8 := b102_4 rc36 (rj102_1 gV) (rj102_6 gV j102_l1)
theorem sj102_4 (H0 : Hp) {gV : AV → List AV → Hp → Res} (hV : LV gV (acall cfg (callw cfg))) {yj102_l1 : A7} (hj102_l1 : L7 yj102_l1 (j102_l1 H0)) : L8 (rj102_4 gV yj102_l1) (j102_4 H0) := fun _ _ _ _ _ _ _ _ _ => le_eq (m102_4 sc36 (sj102_1 H0 hV) (sj102_6 H0 hV hj102_l1) _ _ _ _ _ _ _ _ _) (e102_4 H0 _ _ _ _ _ _ _ _ _)
def rj102_l1 (gV : AV → List AV → Hp → Res) (n : Nat) : A7 := @Nat.rec (fun _ => A7) (fun _ _ _ _ _ _ _ _ => none) (fun _ j102_l1 => b102_l1 (rj102_1 gV) (rj102_4 gV j102_l1)) n
theorem sj102_l1 (H0 : Hp) {gV : AV → List AV → Hp → Res} (hV : LV gV (acall cfg (callw cfg))) (n : Nat) : L7 (rj102_l1 gV n) (j102_l1 H0) := by
  induction n with
  | zero => exact fun _ _ _ _ _ _ _ _ => le_none _
  | succ n hj102_l1 => exact fun _ _ _ _ _ _ _ _ => le_eq (m102_l1 (sj102_1 H0 hV) (sj102_4 H0 hV hj102_l1) _ _ _ _ _ _ _ _) (e102_l1 H0 _ _ _ _ _ _ _ _)
def bc102 (j102_l1 : A7) (p0 : AV) (H : Hp) : Res :=
  bnd (abox p0 H) fun r1 =>
  bnd (some ((.ptr r1.2.length 0), r1.2 ++ [.cells [(.str []), (.int .i64 0), (.bool false)]])) fun r5 =>
  bnd (some (.fn (.func 144) [] [r1.1])) fun t16 =>
  bnd (aload false 1 r1.1 r5.2) fun t17 =>
  bnd (anil t17) fun t18 =>
  bnd (afield 12 t18) fun t19 =>
  bnd (aload false 1 t19 r5.2) fun t20 =>
  bnd (alenD (.slice 52) t20) fun t21 =>
  j102_l1 r1.1 r5.1 t16 (.int .i64 0) t20 t21 (.int .i64 0) r5.2
theorem ec102 (p0 : AV) (H : Hp) : c102 p0 H = bc102 (j102_l1 H) p0 H := (callw_cxm (C := cfg) (fn := Tryz.f102) (c := bodyOf Tryz.f102) (n := 67) [6, 10, 12, 13, 15, 18] Tryz.func102 (by kernel_rfl) (by kernel_rfl) [p0] (by kernel_rfl) H).trans (by kernel_rfl)
theorem mc102 {j102_l1 dj102_l1 : A7} (hj102_l1 : L7 j102_l1 dj102_l1) : L1 (bc102 j102_l1) (bc102 dj102_l1) := fun _ _ =>
  bR fun _ => bR fun _ => bR fun _ => bR fun _ => bR fun _ => bR fun _ => bR fun _ => bR fun _ => hj102_l1 _ _ _ _ _ _ _ _
def rc102 (gV : AV → List AV → Hp → Res) : A1 := fun p0 H => bc102 (rj102_l1 gV 100000) p0 H
theorem sc102 {gV : AV → List AV → Hp → Res} (hV : LV gV (acall cfg (callw cfg))) : L1 (rc102 gV) c102 := fun _ H => le_eq (mc102 (sj102_l1 H hV 100000) _ _) (ec102 _ _)

def c59 (p0 : AV) (H : Hp) : Res := callw cfg 59 [p0] H
def j59_3 (H0 : Hp) (x0 x5 : AV) (H : Hp) : Res := CXf 59 61 (sub (bodyOf Tryz.f59) [1, 1, 0, 0, 0, 1, 1, 1]) (blockL 1 (seqL (fun k al H => LPf 59 61 (sub (bodyOf Tryz.f59) [1, 1, 0, 0]) k (trimL (cfg.keep 59) (sub (bodyOf Tryz.f59) [1, 1, 0, 0]) al) H) (blockL 0 (retL cfg 61 59 Tryz.f59 H0)))) [(0, x0), (5, x5)] H
def j59_2 (H0 : Hp) (x0 x5 : AV) (H : Hp) : Res := CXf 59 61 (sub (bodyOf Tryz.f59) [1, 1, 0, 0, 0, 1, 1]) (blockL 1 (seqL (fun k al H => LPf 59 61 (sub (bodyOf Tryz.f59) [1, 1, 0, 0]) k (trimL (cfg.keep 59) (sub (bodyOf Tryz.f59) [1, 1, 0, 0]) al) H) (blockL 0 (retL cfg 61 59 Tryz.f59 H0)))) [(0, x0), (5, x5)] H
def j59_l1 (H0 : Hp) (x0 : AV) (H : Hp) : Res := LPf 59 61 (sub (bodyOf Tryz.f59) [1, 1, 0, 0]) (blockL 0 (retL cfg 61 59 Tryz.f59 H0)) [(0, x0)] H
def j59_1 (H0 : Hp) (x0 : AV) (H : Hp) : Res := CXf 59 61 (sub (bodyOf Tryz.f59) [1, 1]) (retL cfg 61 59 Tryz.f59 H0) [(0, x0)] H
def b59_3 (x0 x5 : AV) (H : Hp) : Res :=
  bnd (anil x0) fun t56 =>
  bnd (afield 14 t56) fun t57 =>
  bnd (astoreU 1 t57 (.bool true) H) fun r_7 =>
  bnd (anil x0) fun t58 =>
  bnd (afield 13 t58) fun t59 =>
  bnd (astoreU 1 t59 x5 r_7.2) fun r_10 =>
  some ((.tuple [x5, (.bool true), (.int .i64 0)]), r_10.2)
theorem e59_3 (H0 : Hp) (x0 x5 : AV) (H : Hp) : j59_3 H0 x0 x5 H = b59_3 x0 x5 H := (CXM_eq [3, 6, 7] _ _ _ _).trans (by kernel_rfl)
theorem m59_3 : L2 (b59_3) (b59_3) := fun _ _ _ =>
  bR fun _ => bR fun _ => bR fun _ => bR fun _ => bR fun _ => bR fun _ => le_refl _
def b59_2 (j59_l1 : A1) (q72 : A4) (j59_3 : A2) (x0 x5 : AV) (H : Hp) : Res :=
  bnd (anil x0) fun t20 =>
  bnd (afield 14 t20) fun t21 =>
  bnd (aload false 1 t21 H) fun t22 =>
  bnd (gdv t22 true (.tuple []) (some x0)) fun t24 =>
  bnd (gdv t22 true (.tuple []) (anil t24)) fun t25 =>
  bnd (gdv t22 true (.tuple []) (afield 11 t25)) fun t26 =>
  bnd (gdv t22 true (.tuple []) (aload false 1 t26 H)) fun t27 =>
  bnd (apick t22 t27 (.bool false)) fun t28 =>
  bnd (gdv t28 true (.tuple []) (some x0)) fun t30 =>
  bnd (gdv t28 true (.tuple []) (anil t30)) fun t31 =>
  bnd (gdv t28 true (.tuple []) (afield 6 t31)) fun t32 =>
  bnd (gdv t28 true (.tuple []) (afield 3 t32)) fun t33 =>
  bnd (gdv t28 true (.tuple []) (aload false 1 t33 H)) fun t34 =>
  bnd (apick t28 t34 (.bool false)) fun t35 =>
  bnd (gdv t35 true (.tuple []) (some x0)) fun t37 =>
  bnd (gdv t35 true (.tuple []) (anil t37)) fun t38 =>
  bnd (gdv t35 true (.tuple []) (afield 0 t38)) fun t39 =>
  bnd (gdv t35 true (.tuple []) (aload true 6 t39 H)) fun t40 =>
  bnd (gdv t35 true (.tuple []) (some x0)) fun t41 =>
  bnd (gdv t35 true (.tuple []) (anil t41)) fun t42 =>
  bnd (gdv t35 true (.tuple []) (afield 6 t42)) fun t43 =>
  bnd (gdv t35 true (.tuple []) (aload true 5 t43 H)) fun t44 =>
  bnd (gdv t35 true (.tuple []) (some x0)) fun t45 =>
  bnd (gdv t35 true (.tuple []) (anil t45)) fun t46 =>
  bnd (gdv t35 true (.tuple []) (afield 13 t46)) fun t47 =>
  bnd (gdv t35 true (.tuple []) (aload false 1 t47 H)) fun t48 =>
  bnd (gdv t35 true (.tuple []) (some x5)) fun t49 =>
  bnd (gdv t35 true ((.tuple []), H) (q72 t40 t44 t48 t49 H)) fun r50 =>
  bnd (gdv t35 true (.tuple []) (ibin .eql r50.1 (.int .i64 0))) fun t51 =>
  bnd (apick t35 t51 (.bool false)) fun t52 =>
  cnd t52
    (j59_l1 x0 r50.2)
    (j59_3 x0 x5 r50.2)
theorem e59_2 (H0 : Hp) (x0 x5 : AV) (H : Hp) : j59_2 H0 x0 x5 H = b59_2 (j59_l1 H0) q72 (j59_3 H0) x0 x5 H := (CXM_eq [3, 6, 7] _ _ _ _).trans (by kernel_rfl)
theorem m59_2 {j59_l1 dj59_l1 : A1} (hj59_l1 : L1 j59_l1 dj59_l1) {q72 dq72 : A4} (hq72 : L4 q72 dq72) {j59_3 dj59_3 : A2} (hj59_3 : L2 j59_3 dj59_3) : L2 (b59_2 j59_l1 q72 j59_3) (b59_2 dj59_l1 dq72 dj59_3) := fun _ _ _ =>
  bR fun _ => bR fun _ => bR fun _ => bR fun _ => bR fun _ => bR fun _ => bR fun _ => bR fun _ => bR fun _ => bR fun _ => bR fun _ => bR fun _ => bR fun _ => bR fun _ => bR fun _ => bR fun _ => bR fun _ => bR fun _ => bR fun _ => bR fun _ => bR fun _ => bR fun _ => bR fun _ => bR fun _ => bR fun _ => bR fun _ => bR fun _ => bG (hq72 _ _ _ _ _) fun _ => bR fun _ => bR fun _ => bK (hj59_l1 _ _) (hj59_3 _ _ _)
def b59_l1 (c102 : A1) (j59_2 : A2) (x0 : AV) (H : Hp) : Res :=
  bnd (c102 x0 H) fun r12 =>
  bnd (aext r12.1 0) fun t13 =>
  bnd (aext r12.1 1) fun t14 =>
  bnd (aext r12.1 2) fun t15 =>
  bnd (aun .not t14) fun t17 =>
  cnd t17
    (some ((.tuple [(.str []), (.bool false), t15]), r12.2))
    (j59_2 x0 t13 r12.2)
theorem e59_l1 (H0 : Hp) (x0 : AV) (H : Hp) : j59_l1 H0 x0 H = b59_l1 c102 (j59_2 H0) x0 H := (LPL_eqm (C := cfg) [3, 6, 7] (tame_block 0 (tame_ret 59 Tryz.f59 H0)) _ _).trans (by kernel_rfl)
theorem m59_l1 {c102 dc102 : A1} (hc102 : L1 c102 dc102) {j59_2 dj59_2 : A2} (hj59_2 : L2 j59_2 dj59_2) : L1 (b59_l1 c102 j59_2) (b59_l1 dc102 dj59_2) := fun _ _ =>
  bC (hc102 _ _) fun _ => bR fun _ => bR fun _ => bR fun _ => bR fun _ => bK (le_refl _) (hj59_2 _ _ _)
def b59_1 (j59_l1 : A1) (x0 : AV) (H : Hp) : Res :=
  j59_l1 x0 H
theorem e59_1 (H0 : Hp) (x0 : AV) (H : Hp) : j59_1 H0 x0 H = b59_1 (j59_l1 H0) x0 H := (CXM_eq [3, 6, 7] _ _ _ _).trans (by kernel_rfl)
theorem m59_1 {j59_l1 dj59_l1 : A1} (hj59_l1 : L1 j59_l1 dj59_l1) : L1 (b59_1 j59_l1) (b59_1 dj59_l1) := fun _ _ =>
  hj59_l1 _ _
def rj59_3 (gV : AV → List AV → Hp → Res) : A2 := b59_3
theorem sj59_3 (H0 : Hp) {gV : AV → List AV → Hp → Res} (hV : LV gV (acall cfg (callw cfg))) : L2 (rj59_3 gV) (j59_3 H0) := fun _ _ _ => le_eq (m59_3 _ _ _) (e59_3 H0 _ _ _)
def rj59_2 (gV : AV → List AV → Hp → Res) (j59_l1 : A1) : A2 := b59_2 j59_l1 (rq72 gV) (rj59_3 gV)
theorem sj59_2 (H0 : Hp) {gV : AV → List AV → Hp → Res} (hV : LV gV (acall cfg (callw cfg))) {yj59_l1 : A1} (hj59_l1 : L1 yj59_l1 (j59_l1 H0)) : L2 (rj59_2 gV yj59_l1) (j59_2 H0) := fun _ _ _ => le_eq (m59_2 hj59_l1 (sq72 hV) (sj59_3 H0 hV) _ _ _) (e59_2 H0 _ _ _)
def rj59_l1 (gV : AV → List AV → Hp → Res) (n : Nat) : A1 := @Nat.rec (fun _ => A1) (fun _ _ => none) (fun _ j59_l1 => b59_l1 (rc102 gV) (rj59_2 gV j59_l1)) n
theorem sj59_l1 (H0 : Hp) {gV : AV → List AV → Hp → Res} (hV : LV gV (acall cfg (callw cfg))) (n : Nat) : L1 (rj59_l1 gV n) (j59_l1 H0) := by
  induction n with
  | zero => exact fun _ _ => le_none _
  | succ n hj59_l1 => exact fun _ _ => le_eq (m59_l1 (sc102 hV) (sj59_2 H0 hV hj59_l1) _ _) (e59_l1 H0 _ _)
def rj59_1 (gV : AV → List AV → Hp → Res) : A1 := b59_1 (rj59_l1 gV 100000)
theorem sj59_1 (H0 : Hp) {gV : AV → List AV → Hp → Res} (hV : LV gV (acall cfg (callw cfg))) : L1 (rj59_1 gV) (j59_1 H0) := fun _ _ => le_eq (m59_1 (sj59_l1 H0 hV 100000) _ _) (e59_1 H0 _ _)
def bc59 (j59_1 : A1) (p0 : AV) (H : Hp) : Res :=
  bnd (ebin (.pointer 134) .eql p0 .nilp) fun t9 =>
  cnd t9
    (some ((.tuple [(.str []), (.bool false), (.int .i64 5)]), H))
    (j59_1 p0 H)
theorem ec59 (p0 : AV) (H : Hp) : c59 p0 H = bc59 (j59_1 H) p0 H := (callw_cxm (C := cfg) (fn := Tryz.f59) (c := bodyOf Tryz.f59) (n := 61) [3, 6, 7] Tryz.func59 (by kernel_rfl) (by kernel_rfl) [p0] (by kernel_rfl) H).trans (by kernel_rfl)
theorem mc59 {j59_1 dj59_1 : A1} (hj59_1 : L1 j59_1 dj59_1) : L1 (bc59 j59_1) (bc59 dj59_1) := fun _ _ =>
  bR fun _ => bK (le_refl _) (hj59_1 _ _)
def rc59 (gV : AV → List AV → Hp → Res) : A1 := fun p0 H => bc59 (rj59_1 gV) p0 H
theorem sc59 {gV : AV → List AV → Hp → Res} (hV : LV gV (acall cfg (callw cfg))) : L1 (rc59 gV) c59 := fun _ H => le_eq (mc59 (sj59_1 H hV) _ _) (ec59 _ _)

def c43 (p0 p1 : AV) (H : Hp) : Res := callw cfg 43 [p0, p1] H
def j43_1 (H0 : Hp) (x6 : AV) (H : Hp) : Res := CXf 43 56 (sub (bodyOf Tryz.f43) [1, 1, 1]) (retL cfg 56 43 Tryz.f43 H0) [(6, x6)] H
def k43_1 (H0 : Hp) : KL := seqL (fun k al H => CXf 43 56 (sub (bodyOf Tryz.f43) [1, 1, 1]) k (trimL (cfg.keep 43) (sub (bodyOf Tryz.f43) [1, 1, 1]) al) H) (retL cfg 56 43 Tryz.f43 H0)
theorem k43_1_tame (H0 : Hp) : Tame 56 (k43_1 H0) := tame_seq (C := cfg) (kp := cfg.keep 43) (sub (bodyOf Tryz.f43) [1, 1, 1]) (tame_ret 43 Tryz.f43 H0)
def j43_3 (H0 : Hp) (x0 x1 x6 x7 : AV) (H : Hp) : Res := CXf 43 56 (sub (bodyOf Tryz.f43) [1, 1, 0, 1, 0, 0, 1, 1]) (seqL (fun k al H => LPf 43 56 (sub (bodyOf Tryz.f43) [1, 1, 0, 1, 0, 0]) k (trimL (cfg.keep 43) (sub (bodyOf Tryz.f43) [1, 1, 0, 1, 0, 0]) al) H) (blockL 0 (k43_1 H0))) [(0, x0), (1, x1), (6, x6), (7, x7)] H
def k43_2 (H0 : Hp) : KL := seqL (fun k al H => CXf 43 56 (sub (bodyOf Tryz.f43) [1, 1, 0, 1, 0, 0, 1, 1]) k (trimL (cfg.keep 43) (sub (bodyOf Tryz.f43) [1, 1, 0, 1, 0, 0, 1, 1]) al) H) (seqL (fun k al H => LPf 43 56 (sub (bodyOf Tryz.f43) [1, 1, 0, 1, 0, 0]) k (trimL (cfg.keep 43) (sub (bodyOf Tryz.f43) [1, 1, 0, 1, 0, 0]) al) H) (blockL 0 (k43_1 H0)))
def j43_5 (H0 : Hp) (x0 x1 x6 x7 x8 : AV) (H : Hp) : Res := CXf 43 56 (sub (bodyOf Tryz.f43) [1, 1, 0, 1, 0, 0, 1, 0, 0, 1, 1, 1]) (blockL 1 (k43_2 H0)) [(0, x0), (1, x1), (6, x6), (7, x7), (8, x8)] H
def j43_4 (H0 : Hp) (x0 x1 x6 x7 x8 x9 : AV) (H : Hp) : Res := CXf 43 56 (sub (bodyOf Tryz.f43) [1, 1, 0, 1, 0, 0, 1, 0, 0, 1, 1]) (blockL 1 (k43_2 H0)) [(0, x0), (1, x1), (6, x6), (7, x7), (8, x8), (9, x9)] H
def j43_2 (H0 : Hp) (x0 x1 x6 x7 : AV) (H : Hp) : Res := CXf 43 56 (sub (bodyOf Tryz.f43) [1, 1, 0, 1, 0, 0, 1]) (seqL (fun k al H => LPf 43 56 (sub (bodyOf Tryz.f43) [1, 1, 0, 1, 0, 0]) k (trimL (cfg.keep 43) (sub (bodyOf Tryz.f43) [1, 1, 0, 1, 0, 0]) al) H) (blockL 0 (k43_1 H0))) [(0, x0), (1, x1), (6, x6), (7, x7)] H
def j43_l1 (H0 : Hp) (x0 x1 x6 x7 : AV) (H : Hp) : Res := LPf 43 56 (sub (bodyOf Tryz.f43) [1, 1, 0, 1, 0, 0]) (blockL 0 (k43_1 H0)) [(0, x0), (1, x1), (6, x6), (7, x7)] H
def b43_1 (x6 : AV) (H : Hp) : Res :=
  some ((.tuple [x6, (.bool false)]), H)
theorem e43_1 (H0 : Hp) (x6 : AV) (H : Hp) : j43_1 H0 x6 H = b43_1 x6 H := (CXM_eq [4, 5, 8, 11, 12] _ _ _ _).trans (by kernel_rfl)
theorem m43_1 : L1 (b43_1) (b43_1) := fun _ _ =>
  le_refl _
def b43_3 (j43_l1 : A4) (x0 x1 x6 x7 : AV) (H : Hp) : Res :=
  bnd (ibin .add x7 (.int .i64 1)) fun t18 =>
  j43_l1 x0 x1 x6 t18 H
theorem e43_3 (H0 : Hp) (x0 x1 x6 x7 : AV) (H : Hp) : j43_3 H0 x0 x1 x6 x7 H = b43_3 (j43_l1 H0) x0 x1 x6 x7 H := (CXM_eq [4, 5, 8, 11, 12] _ _ _ _).trans (by kernel_rfl)
theorem m43_3 {j43_l1 dj43_l1 : A4} (hj43_l1 : L4 j43_l1 dj43_l1) : L4 (b43_3 j43_l1) (b43_3 dj43_l1) := fun _ _ _ _ _ =>
  bR fun _ => hj43_l1 _ _ _ _ _
def b43_5 (j43_3 : A4) (x0 x1 x6 x7 x8 : AV) (H : Hp) : Res :=
  bnd ((setElems 1 [(0, x8)] [(.str [])]).map (.vs 1 .clip)) fun t53 =>
  bnd (aappE 1 16 x6 t53 H) fun r54 =>
  j43_3 x0 x1 r54.1 x7 r54.2
theorem e43_5 (H0 : Hp) (x0 x1 x6 x7 x8 : AV) (H : Hp) : j43_5 H0 x0 x1 x6 x7 x8 H = b43_5 (j43_3 H0) x0 x1 x6 x7 x8 H := (CXM_eq [4, 5, 8, 11, 12] _ _ _ _).trans (by kernel_rfl)
theorem m43_5 {j43_3 dj43_3 : A4} (hj43_3 : L4 j43_3 dj43_3) : L5 (b43_5 j43_3) (b43_5 dj43_3) := fun _ _ _ _ _ _ =>
  bR fun _ => bR fun _ => hj43_3 _ _ _ _ _
def b43_4 (c59 : A1) (j43_5 : A5) (x0 x1 x6 x7 x8 x9 : AV) (H : Hp) : Res :=
  bnd (aun .not x9) fun t29 =>
  cnd t29
    (bnd (c59 x0 H) fun r32 =>
    bnd (aext r32.1 0) fun t33 =>
    bnd (aext r32.1 1) fun t34 =>
    bnd (aext r32.1 2) fun t35 =>
    bnd (sbin .eql x8 (.str [])) fun t38 =>
    bnd (gdv t38 true (.tuple []) (some t33)) fun t40 =>
    bnd (gdv t38 true (.tuple []) (sbin .eql t40 (.str []))) fun t41 =>
    bnd (apick t38 t41 (.bool false)) fun t42 =>
    bnd (gdv t42 true (.tuple []) (some t34)) fun t44 =>
    bnd (gdv t42 true (.tuple []) (aun .not t44)) fun t45 =>
    bnd (apick t42 t45 (.bool false)) fun t46 =>
    bnd (gdv t46 true (.tuple []) (some t35)) fun t48 =>
    bnd (gdv t46 true (.tuple []) (ibin .eql t48 (.int .i64 0))) fun t49 =>
    bnd (apick t46 t49 (.bool false)) fun t50 =>
    some ((.tuple [x6, t50]), r32.2))
    (j43_5 x0 x1 x6 x7 x8 H)
theorem e43_4 (H0 : Hp) (x0 x1 x6 x7 x8 x9 : AV) (H : Hp) : j43_4 H0 x0 x1 x6 x7 x8 x9 H = b43_4 c59 (j43_5 H0) x0 x1 x6 x7 x8 x9 H := (CXM_eq [4, 5, 8, 11, 12] _ _ _ _).trans (by kernel_rfl)
theorem m43_4 {c59 dc59 : A1} (hc59 : L1 c59 dc59) {j43_5 dj43_5 : A5} (hj43_5 : L5 j43_5 dj43_5) : L6 (b43_4 c59 j43_5) (b43_4 dc59 dj43_5) := fun _ _ _ _ _ _ _ =>
  bR fun _ => bK (bC (hc59 _ _) fun _ => bR fun _ => bR fun _ => bR fun _ => bR fun _ => bR fun _ => bR fun _ => bR fun _ => bR fun _ => bR fun _ => bR fun _ => bR fun _ => bR fun _ => bR fun _ => le_refl _) (hj43_5 _ _ _ _ _ _)
def b43_2 (c59 : A1) (j43_4 : A6) (x0 x1 x6 x7 : AV) (H : Hp) : Res :=
  bnd (c59 x0 H) fun r21 =>
  bnd (aext r21.1 0) fun t22 =>
  bnd (aext r21.1 1) fun t23 =>
  bnd (aext r21.1 2) fun t24 =>
  bnd (ibin .neq t24 (.int .i64 0)) fun t26 =>
  cnd t26
    (some ((.tuple [x6, (.bool false)]), r21.2))
    (j43_4 x0 x1 x6 x7 t22 t23 r21.2)
theorem e43_2 (H0 : Hp) (x0 x1 x6 x7 : AV) (H : Hp) : j43_2 H0 x0 x1 x6 x7 H = b43_2 c59 (j43_4 H0) x0 x1 x6 x7 H := (CXM_eq [4, 5, 8, 11, 12] _ _ _ _).trans (by kernel_rfl)
theorem m43_2 {c59 dc59 : A1} (hc59 : L1 c59 dc59) {j43_4 dj43_4 : A6} (hj43_4 : L6 j43_4 dj43_4) : L4 (b43_2 c59 j43_4) (b43_2 dc59 dj43_4) := fun _ _ _ _ _ =>
  bC (hc59 _ _) fun _ => bR fun _ => bR fun _ => bR fun _ => bR fun _ => bK (le_refl _) (hj43_4 _ _ _ _ _ _ _)
def b43_l1 (j43_1 : A1) (j43_2 : A4) (x0 x1 x6 x7 : AV) (H : Hp) : Res :=
  bnd (ibin .leq x7 x1) fun t16 =>
  cnd t16
    (j43_2 x0 x1 x6 x7 H)
    (j43_1 x6 H)
theorem e43_l1 (H0 : Hp) (x0 x1 x6 x7 : AV) (H : Hp) : j43_l1 H0 x0 x1 x6 x7 H = b43_l1 (j43_1 H0) (j43_2 H0) x0 x1 x6 x7 H := (LPL_eqm (C := cfg) [4, 5, 8, 11, 12] (tame_block 0 (k43_1_tame H0)) _ _).trans (by kernel_rfl)
theorem m43_l1 {j43_1 dj43_1 : A1} (hj43_1 : L1 j43_1 dj43_1) {j43_2 dj43_2 : A4} (hj43_2 : L4 j43_2 dj43_2) : L4 (b43_l1 j43_1 j43_2) (b43_l1 dj43_1 dj43_2) := fun _ _ _ _ _ =>
  bR fun _ => bK (hj43_2 _ _ _ _ _) (hj43_1 _ _)
def rj43_1 (gV : AV → List AV → Hp → Res) : A1 := b43_1
theorem sj43_1 (H0 : Hp) {gV : AV → List AV → Hp → Res} (hV : LV gV (acall cfg (callw cfg))) : L1 (rj43_1 gV) (j43_1 H0) := fun _ _ => le_eq (m43_1 _ _) (e43_1 H0 _ _)
def rj43_3 (gV : AV → List AV → Hp → Res) (j43_l1 : A4) : A4 := b43_3 j43_l1
theorem sj43_3 (H0 : Hp) {gV : AV → List AV → Hp → Res} (hV : LV gV (acall cfg (callw cfg))) {yj43_l1 : A4} (hj43_l1 : L4 yj43_l1 (j43_l1 H0)) : L4 (rj43_3 gV yj43_l1) (j43_3 H0) := fun _ _ _ _ _ => le_eq (m43_3 hj43_l1 _ _ _ _ _) (e43_3 H0 _ _ _ _ _)
def rj43_5 (gV : AV → List AV → Hp → Res) (j43_l1 : A4) : A5 := b43_5 (rj43_3 gV j43_l1)
theorem sj43_5 (H0 : Hp) {gV : AV → List AV → Hp → Res} (hV : LV gV (acall cfg (callw cfg))) {yj43_l1 : A4} (hj43_l1 : L4 yj43_l1 (j43_l1 H0)) : L5 (rj43_5 gV yj43_l1) (j43_5 H0) := fun _ _ _ _ _ _ => le_eq (m43_5 (sj43_3 H0 hV hj43_l1) _ _ _ _ _ _) (e43_5 H0 _ _ _ _ _ _)
def rj43_4 (gV : AV → List AV → Hp → Res) (j43_l1 : A4) : A6 := b43_4 (rc59 gV) (rj43_5 gV j43_l1)
theorem sj43_4 (H0 : Hp) {gV : AV → List AV → Hp → Res} (hV : LV gV (acall cfg (callw cfg))) {yj43_l1 : A4} (hj43_l1 : L4 yj43_l1 (j43_l1 H0)) : L6 (rj43_4 gV yj43_l1) (j43_4 H0) := fun _ _ _ _ _ _ _ => le_eq (m43_4 (sc59 hV) (sj43_5 H0 hV hj43_l1) _ _ _ _ _ _ _) (e43_4 H0 _ _ _ _ _ _ _)
def rj43_2 (gV : AV → List AV → Hp → Res) (j43_l1 : A4) : A4 := b43_2 (rc59 gV) (rj43_4 gV j43_l1)
theorem sj43_2 (H0 : Hp) {gV : AV → List AV → Hp → Res} (hV : LV gV (acall cfg (callw cfg))) {yj43_l1 : A4} (hj43_l1 : L4 yj43_l1 (j43_l1 H0)) : L4 (rj43_2 gV yj43_l1) (j43_2 H0) := fun _ _ _ _ _ => le_eq (m43_2 (sc59 hV) (sj43_4 H0 hV hj43_l1) _ _ _ _ _) (e43_2 H0 _ _ _ _ _)
def rj43_l1 (gV : AV → List AV → Hp → Res) (n : Nat) : A4 := @Nat.rec (fun _ => A4) (fun _ _ _ _ _ => none) (fun _ j43_l1 => b43_l1 (rj43_1 gV) (rj43_2 gV j43_l1)) n
theorem sj43_l1 (H0 : Hp) {gV : AV → List AV → Hp → Res} (hV : LV gV (acall cfg (callw cfg))) (n : Nat) : L4 (rj43_l1 gV n) (j43_l1 H0) := by
  induction n with
  | zero => exact fun _ _ _ _ _ => le_none _
  | succ n hj43_l1 => exact fun _ _ _ _ _ => le_eq (m43_l1 (sj43_1 H0 hV) (sj43_2 H0 hV hj43_l1) _ _ _ _ _) (e43_l1 H0 _ _ _ _ _)
def bc43 (j43_l1 : A4) (p0 p1 : AV) (H : Hp) : Res :=
  j43_l1 p0 p1 .nils (.int .i64 0) H
theorem ec43 (p0 p1 : AV) (H : Hp) : c43 p0 p1 H = bc43 (j43_l1 H) p0 p1 H := (callw_cxm (C := cfg) (fn := Tryz.f43) (c := bodyOf Tryz.f43) (n := 56) [4, 5, 8, 11, 12] Tryz.func43 (by kernel_rfl) (by kernel_rfl) [p0, p1] (by kernel_rfl) H).trans (by kernel_rfl)
theorem mc43 {j43_l1 dj43_l1 : A4} (hj43_l1 : L4 j43_l1 dj43_l1) : L2 (bc43 j43_l1) (bc43 dj43_l1) := fun _ _ _ =>
  hj43_l1 _ _ _ _ _
def rc43 (gV : AV → List AV → Hp → Res) : A2 := fun p0 p1 H => bc43 (rj43_l1 gV 100000) p0 p1 H
theorem sc43 {gV : AV → List AV → Hp → Res} (hV : LV gV (acall cfg (callw cfg))) : L2 (rc43 gV) c43 := fun _ _ H => le_eq (mc43 (sj43_l1 H hV 100000) _ _ _) (ec43 _ _ _)

def c88 (p0 : AV) (H : Hp) : Res := callw cfg 88 [p0] H
def bc88 (p0 : AV) (H : Hp) : Res :=
  bnd (abox p0 H) fun r1 =>
  bnd (some ((.ptr r1.2.length 0), r1.2 ++ [.cells [(.str []), .nils, (.str []), (.str []), .nils, .nils]])) fun r2 =>
  bnd (afield 1 r1.1) fun t3 =>
  bnd (aload false 1 t3 r2.2) fun t4 =>
  bnd (aappE 1 8 .nils t4 r2.2) fun r5 =>
  bnd (afield 1 r1.1) fun t6 =>
  bnd (astoreU 1 t6 r5.1 r5.2) fun r_7 =>
  bnd (afield 4 r1.1) fun t7 =>
  bnd (aload false 1 t7 r_7.2) fun t8 =>
  bnd (aappE 5 48 .nils t8 r_7.2) fun r9 =>
  bnd (afield 4 r1.1) fun t10 =>
  bnd (astoreU 1 t10 r9.1 r9.2) fun r_12 =>
  bnd (afield 5 r1.1) fun t11 =>
  bnd (aload false 1 t11 r_12.2) fun t12 =>
  bnd (aappE 2 24 .nils t12 r_12.2) fun r13 =>
  bnd (afield 5 r1.1) fun t14 =>
  bnd (astoreU 1 t14 r13.1 r13.2) fun r_17 =>
  bnd (aload true 6 r1.1 r_17.2) fun t15 =>
  bnd (astoreU 6 r2.1 t15 r_17.2) fun r_19 =>
  bnd (aload true 6 r2.1 r_19.2) fun v2 =>
  some (v2, r_19.2)
theorem ec88 (p0 : AV) (H : Hp) : c88 p0 H = bc88 p0 H := (callw_cxm (C := cfg) (fn := Tryz.f88) (c := bodyOf Tryz.f88) (n := 16) [] Tryz.func88 (by kernel_rfl) (by kernel_rfl) [p0] (by kernel_rfl) H).trans (by kernel_rfl)
theorem mc88 : L1 (bc88) (bc88) := fun _ _ =>
  bR fun _ => bR fun _ => bR fun _ => bR fun _ => bR fun _ => bR fun _ => bR fun _ => bR fun _ => bR fun _ => bR fun _ => bR fun _ => bR fun _ => bR fun _ => bR fun _ => bR fun _ => bR fun _ => bR fun _ => bR fun _ => bR fun _ => bR fun _ => le_refl _
def rc88 : A1 := fun p0 H => bc88 p0 H
theorem sc88 : L1 rc88 c88 := fun _ H => le_eq (mc88 _ _) (ec88 _ _)
def q88 : A1 := fun p0 H => flatC (callw cfg 88) [p0] H
def rq88 : A1 := fun p0 H => flatC (ofL1 (rc88)) [p0] H
theorem sq88 : L1 rq88 q88 := fun _ _ => flat_le (ofL1_le (sc88)) _ _

def c44 (p0 p1 p2 : AV) (H : Hp) : Res := callw cfg 44 [p0, p1, p2] H
def bc44 (q64 : A1) (q88 : A1) (p0 p1 p2 : AV) (H : Hp) : Res :=
  bnd (abox p0 H) fun r3 =>
  bnd (abox p1 r3.2) fun r4 =>
  bnd (afield 0 r4.1) fun t7 =>
  bnd (aload false 1 t7 r4.2) fun t8 =>
  bnd (aappE 5 40 .nils t8 r4.2) fun r9 =>
  bnd (afield 0 r4.1) fun t10 =>
  bnd (astoreU 1 t10 r9.1 r9.2) fun r_7 =>
  frzK r4.1 r_7.2 fun z4 z4H =>
  bnd (aload true 6 r3.1 z4H) fun t11 =>
  bnd (q88 t11 z4H) fun r12 =>
  bnd (aloadv true 5 z4) fun t13 =>
  bnd (aload true 5 z4 r12.2) fun t14 =>
  bnd (q64 t14 r12.2) fun r15 =>
  bnd (ibin .eql r15.1 (.int .i64 0)) fun t16 =>
  bnd (aappE 1 8 .nils p2 r15.2) fun r18 =>
  bnd ((afill [(0, 6, r12.1), (6, 5, t13), (11, 1, t16), (12, 1, r18.1)] [(.str []), .nils, (.str []), (.str []), .nils, .nils, .nils, (.int .i64 0), (.int .i64 0), (.bool false), (.bool false), (.bool false), .nils, (.str []), (.bool false)]).map .agg) fun t19 =>
  bnd (abox t19 r18.2) fun r20 =>
  some (r20.1, r20.2)
theorem ec44 (p0 p1 p2 : AV) (H : Hp) : c44 p0 p1 p2 H = bc44 q64 q88 p0 p1 p2 H := (callw_cxm (C := cfg) (fn := Tryz.f44) (c := bodyOf Tryz.f44) (n := 21) [] Tryz.func44 (by kernel_rfl) (by kernel_rfl) [p0, p1, p2] (by kernel_rfl) H).trans (by kernel_rfl)
theorem mc44 {q64 dq64 : A1} (hq64 : L1 q64 dq64) {q88 dq88 : A1} (hq88 : L1 q88 dq88) : L3 (bc44 q64 q88) (bc44 dq64 dq88) := fun _ _ _ _ =>
  bR fun _ => bR fun _ => bR fun _ => bR fun _ => bR fun _ => bR fun _ => bR fun _ => bF fun _ _ => bR fun _ => bC (hq88 _ _) fun _ => bR fun _ => bR fun _ => bC (hq64 _ _) fun _ => bR fun _ => bR fun _ => bR fun _ => bR fun _ => le_refl _
def rc44 : A3 := fun p0 p1 p2 H => bc44 rq64 rq88 p0 p1 p2 H
theorem sc44 : L3 rc44 c44 := fun _ _ _ H => le_eq (mc44 sq64 sq88 _ _ _ _) (ec44 _ _ _ _)

def c45 (p0 p1 : AV) (H : Hp) : Res := callw cfg 45 [p0, p1] H
def j45_1 (H0 : Hp) (x5 : AV) (H : Hp) : Res := CXf 45 23 (sub (bodyOf Tryz.f45) [1, 1, 1]) (retL cfg 23 45 Tryz.f45 H0) [(5, x5)] H
def k45_1 (H0 : Hp) : KL := seqL (fun k al H => CXf 45 23 (sub (bodyOf Tryz.f45) [1, 1, 1]) k (trimL (cfg.keep 45) (sub (bodyOf Tryz.f45) [1, 1, 1]) al) H) (retL cfg 23 45 Tryz.f45 H0)
theorem k45_1_tame (H0 : Hp) : Tame 23 (k45_1 H0) := tame_seq (C := cfg) (kp := cfg.keep 45) (sub (bodyOf Tryz.f45) [1, 1, 1]) (tame_ret 45 Tryz.f45 H0)
def j45_3 (H0 : Hp) (x0 x1 x5 x6 : AV) (H : Hp) : Res := CXf 45 23 (sub (bodyOf Tryz.f45) [1, 1, 0, 1, 0, 0, 1, 1]) (seqL (fun k al H => LPf 45 23 (sub (bodyOf Tryz.f45) [1, 1, 0, 1, 0, 0]) k (trimL (cfg.keep 45) (sub (bodyOf Tryz.f45) [1, 1, 0, 1, 0, 0]) al) H) (blockL 0 (k45_1 H0))) [(0, x0), (1, x1), (5, x5), (6, x6)] H
def j45_2 (H0 : Hp) (x0 x1 x5 x6 : AV) (H : Hp) : Res := CXf 45 23 (sub (bodyOf Tryz.f45) [1, 1, 0, 1, 0, 0, 1]) (seqL (fun k al H => LPf 45 23 (sub (bodyOf Tryz.f45) [1, 1, 0, 1, 0, 0]) k (trimL (cfg.keep 45) (sub (bodyOf Tryz.f45) [1, 1, 0, 1, 0, 0]) al) H) (blockL 0 (k45_1 H0))) [(0, x0), (1, x1), (5, x5), (6, x6)] H
def j45_l1 (H0 : Hp) (x0 x1 x5 x6 : AV) (H : Hp) : Res := LPf 45 23 (sub (bodyOf Tryz.f45) [1, 1, 0, 1, 0, 0]) (blockL 0 (k45_1 H0)) [(0, x0), (1, x1), (5, x5), (6, x6)] H
def b45_1 (x5 : AV) (H : Hp) : Res :=
  some (x5, H)
theorem e45_1 (H0 : Hp) (x5 : AV) (H : Hp) : j45_1 H0 x5 H = b45_1 x5 H := (CXM_eq [4, 5, 6] _ _ _ _).trans (by kernel_rfl)
theorem m45_1 : L1 (b45_1) (b45_1) := fun _ _ =>
  le_refl _
def b45_3 (j45_l1 : A4) (x0 x1 x5 x6 : AV) (H : Hp) : Res :=
  bnd (ibin .add x6 (.int .i64 1)) fun t12 =>
  j45_l1 x0 x1 x5 t12 H
theorem e45_3 (H0 : Hp) (x0 x1 x5 x6 : AV) (H : Hp) : j45_3 H0 x0 x1 x5 x6 H = b45_3 (j45_l1 H0) x0 x1 x5 x6 H := (CXM_eq [4, 5, 6] _ _ _ _).trans (by kernel_rfl)
theorem m45_3 {j45_l1 dj45_l1 : A4} (hj45_l1 : L4 j45_l1 dj45_l1) : L4 (b45_3 j45_l1) (b45_3 dj45_l1) := fun _ _ _ _ _ =>
  bR fun _ => hj45_l1 _ _ _ _ _
def b45_2 (c32 : A2) (j45_3 : A4) (x0 x1 x5 x6 : AV) (H : Hp) : Res :=
  bnd (aindexS 1 x1 x6) fun t17 =>
  bnd (aload false 1 t17 H) fun t18 =>
  bnd (c32 x0 t18 H) fun r19 =>
  bnd ((setElems 1 [(0, r19.1)] [.nilp]).map (.vs 1 .clip)) fun t20 =>
  bnd (aappE 1 8 x5 t20 r19.2) fun r21 =>
  j45_3 x0 x1 r21.1 x6 r21.2
theorem e45_2 (H0 : Hp) (x0 x1 x5 x6 : AV) (H : Hp) : j45_2 H0 x0 x1 x5 x6 H = b45_2 c32 (j45_3 H0) x0 x1 x5 x6 H := (CXM_eq [4, 5, 6] _ _ _ _).trans (by kernel_rfl)
theorem m45_2 {c32 dc32 : A2} (hc32 : L2 c32 dc32) {j45_3 dj45_3 : A4} (hj45_3 : L4 j45_3 dj45_3) : L4 (b45_2 c32 j45_3) (b45_2 dc32 dj45_3) := fun _ _ _ _ _ =>
  bR fun _ => bR fun _ => bC (hc32 _ _ _) fun _ => bR fun _ => bR fun _ => hj45_3 _ _ _ _ _
def b45_l1 (j45_1 : A1) (j45_2 : A4) (x0 x1 x5 x6 : AV) (H : Hp) : Res :=
  bnd (alenD (.slice 9) x1) fun t9 =>
  bnd (ibin .lss x6 t9) fun t10 =>
  cnd t10
    (j45_2 x0 x1 x5 x6 H)
    (j45_1 x5 H)
theorem e45_l1 (H0 : Hp) (x0 x1 x5 x6 : AV) (H : Hp) : j45_l1 H0 x0 x1 x5 x6 H = b45_l1 (j45_1 H0) (j45_2 H0) x0 x1 x5 x6 H := (LPL_eqm (C := cfg) [4, 5, 6] (tame_block 0 (k45_1_tame H0)) _ _).trans (by kernel_rfl)
theorem m45_l1 {j45_1 dj45_1 : A1} (hj45_1 : L1 j45_1 dj45_1) {j45_2 dj45_2 : A4} (hj45_2 : L4 j45_2 dj45_2) : L4 (b45_l1 j45_1 j45_2) (b45_l1 dj45_1 dj45_2) := fun _ _ _ _ _ =>
  bR fun _ => bR fun _ => bK (hj45_2 _ _ _ _ _) (hj45_1 _ _)
def rj45_1 : A1 := b45_1
theorem sj45_1 (H0 : Hp) : L1 (rj45_1) (j45_1 H0) := fun _ _ => le_eq (m45_1 _ _) (e45_1 H0 _ _)
def rj45_3 (j45_l1 : A4) : A4 := b45_3 j45_l1
theorem sj45_3 (H0 : Hp) {yj45_l1 : A4} (hj45_l1 : L4 yj45_l1 (j45_l1 H0)) : L4 (rj45_3 yj45_l1) (j45_3 H0) := fun _ _ _ _ _ => le_eq (m45_3 hj45_l1 _ _ _ _ _) (e45_3 H0 _ _ _ _ _)
def rj45_2 (j45_l1 : A4) : A4 := b45_2 rc32 (rj45_3 j45_l1)
theorem sj45_2 (H0 : Hp) {yj45_l1 : A4} (hj45_l1 : L4 yj45_l1 (j45_l1 H0)) : L4 (rj45_2 yj45_l1) (j45_2 H0) := fun _ _ _ _ _ => le_eq (m45_2 sc32 (sj45_3 H0 hj45_l1) _ _ _ _ _) (e45_2 H0 _ _ _ _ _)
def rj45_l1 (n : Nat) : A4 := @Nat.rec (fun _ => A4) (fun _ _ _ _ _ => none) (fun _ j45_l1 => b45_l1 (rj45_1) (rj45_2 j45_l1)) n
theorem sj45_l1 (H0 : Hp) (n : Nat) : L4 (rj45_l1 n) (j45_l1 H0) := by
  induction n with
  | zero => exact fun _ _ _ _ _ => le_none _
  | succ n hj45_l1 => exact fun _ _ _ _ _ => le_eq (m45_l1 (sj45_1 H0) (sj45_2 H0 hj45_l1) _ _ _ _ _) (e45_l1 H0 _ _ _ _ _)
def bc45 (j45_l1 : A4) (p0 p1 : AV) (H : Hp) : Res :=
  j45_l1 p0 p1 .nils (.int .i64 0) H
theorem ec45 (p0 p1 : AV) (H : Hp) : c45 p0 p1 H = bc45 (j45_l1 H) p0 p1 H := (callw_cxm (C := cfg) (fn := Tryz.f45) (c := bodyOf Tryz.f45) (n := 23) [4, 5, 6] Tryz.func45 (by kernel_rfl) (by kernel_rfl) [p0, p1] (by kernel_rfl) H).trans (by kernel_rfl)
theorem mc45 {j45_l1 dj45_l1 : A4} (hj45_l1 : L4 j45_l1 dj45_l1) : L2 (bc45 j45_l1) (bc45 dj45_l1) := fun _ _ _ =>
  hj45_l1 _ _ _ _ _
def rc45 : A2 := fun p0 p1 H => bc45 (rj45_l1 100000) p0 p1 H
theorem sc45 : L2 rc45 c45 := fun _ _ H => le_eq (mc45 (sj45_l1 H 100000) _ _ _) (ec45 _ _ _)

def c38 (H : Hp) : Res := callw cfg 38 [] H
def bc38 (c42 : A4) (c43 : A2) (c44 : A3) (c45 : A2) (q31 : A0) (q39 : A2) (H : Hp) : Res :=
  bnd (q31 H) fun r9 =>
  bnd ((afill [(1, 1, (.int .i64 (-1))), (3, 1, (.bool true))] [.nils, (.int .i64 0), (.int .i64 0), (.bool false), (.bool false)]).map .agg) fun t10 =>
  bnd (some ((.ptr r9.2.length 0), r9.2 ++ [.cells [(.str []), .nils, (.str []), (.str []), .nils, .nils]])) fun r1 =>
  bnd (some ((.ptr r1.2.length 0), r1.2 ++ [.cells [.nils, (.int .i64 0), (.int .i64 0), (.bool false), (.bool false)]])) fun r2 =>
  bnd (astoreU 6 r1.1 r9.1 r2.2) fun r_5 =>
  bnd (astoreU 5 r2.1 t10 r_5.2) fun r_6 =>
  bnd (aload true 6 r1.1 r_6.2) fun t12 =>
  bnd (aload true 5 r2.1 r_6.2) fun t13 =>
  bnd ((setElems 1 [(0, (.str [97])), (1, (.str [99]))] [(.str []), (.str [])]).map (.vs 1 .clip)) fun t14 =>
  bnd ((setElems 1 [(0, (.str [97])), (1, (.str [98]))] [(.str []), (.str [])]).map (.vs 1 .clip)) fun t15 =>
  bnd ((setElems 1 [(0, t14), (1, t15)] [.nils, .nils]).map (.vs 1 .clip)) fun t16 =>
  bnd (c42 t12 t13 t16 (.bool true) r_6.2) fun r17 =>
  bnd (aext r17.1 0) fun t18 =>
  bnd (aext r17.1 1) fun t19 =>
  bnd (aext r17.1 2) fun t20 =>
  frzK r1.1 r17.2 fun z1 z1H =>
  frzK r2.1 z1H fun z2 z2H =>
  bnd (aloadv true 6 z1) fun t22 =>
  bnd (aloadv true 5 z2) fun t23 =>
  bnd (c45 t18 t19 z2H) fun r26 =>
  bnd (c44 t22 t23 r26.1 r26.2) fun r27 =>
  bnd (c43 r27.1 (.int .i64 9) r27.2) fun r28 =>
  bnd (aext r28.1 0) fun t29 =>
  bnd (aext r28.1 1) fun t30 =>
  bnd (q39 (.int .i64 7) (.int .i64 3) r28.2) fun r31 =>
  bnd (gdv t20 true (.tuple []) (some t30)) fun t34 =>
  bnd (apick t20 t34 (.bool false)) fun t35 =>
  bnd (gdv t35 true (.tuple []) (some t29)) fun t37 =>
  bnd (gdv t35 true (.tuple []) (alenD (.slice 9) t37)) fun t38 =>
  bnd (gdv t35 true (.tuple []) (ibin .eql t38 (.int .i64 3))) fun t39 =>
  bnd (apick t35 t39 (.bool false)) fun t40 =>
  bnd (gdv t40 true (.tuple []) (some t29)) fun t42 =>
  bnd (gdv t40 true (.tuple []) (aindexS 1 t42 (.int .i64 0))) fun t43 =>
  bnd (gdv t40 true (.tuple []) (aload false 1 t43 r31.2)) fun t44 =>
  bnd (gdv t40 true (.tuple []) (sbin .eql t44 (.str [97]))) fun t45 =>
  bnd (apick t40 t45 (.bool false)) fun t46 =>
  bnd (gdv t46 true (.tuple []) (some t29)) fun t48 =>
  bnd (gdv t46 true (.tuple []) (aindexS 1 t48 (.int .i64 1))) fun t49 =>
  bnd (gdv t46 true (.tuple []) (aload false 1 t49 r31.2)) fun t50 =>
  bnd (gdv t46 true (.tuple []) (sbin .eql t50 (.str [98]))) fun t51 =>
  bnd (apick t46 t51 (.bool false)) fun t52 =>
  bnd (gdv t52 true (.tuple []) (some t29)) fun t54 =>
  bnd (gdv t52 true (.tuple []) (aindexS 1 t54 (.int .i64 2))) fun t55 =>
  bnd (gdv t52 true (.tuple []) (aload false 1 t55 r31.2)) fun t56 =>
  bnd (gdv t52 true (.tuple []) (sbin .eql t56 (.str [99]))) fun t57 =>
  bnd (apick t52 t57 (.bool false)) fun t58 =>
  bnd (gdv t58 true (.tuple []) (some r31.1)) fun t60 =>
  bnd (gdv t58 true (.tuple []) (alenD (.slice 22) t60)) fun t61 =>
  bnd (gdv t58 true (.tuple []) (ibin .eql t61 (.int .i64 3))) fun t62 =>
  bnd (apick t58 t62 (.bool false)) fun t63 =>
  bnd (gdv t63 true (.tuple []) (some r31.1)) fun t65 =>
  bnd (gdv t63 true (.tuple []) (aindexS 1 t65 (.int .i64 2))) fun t66 =>
  bnd (gdv t63 true (.tuple []) (aload false 1 t66 r31.2)) fun t67 =>
  bnd (gdv t63 true (.tuple []) (alenD (.slice 3) t67)) fun t68 =>
  bnd (gdv t63 true (.tuple []) (ibin .eql t68 (.int .i64 1))) fun t69 =>
  bnd (apick t63 t69 (.bool false)) fun t70 =>
  bnd (gdv t70 true (.tuple []) (some r31.1)) fun t72 =>
  bnd (gdv t70 true (.tuple []) (aindexS 1 t72 (.int .i64 2))) fun t73 =>
  bnd (gdv t70 true (.tuple []) (aload false 1 t73 r31.2)) fun t74 =>
  bnd (gdv t70 true (.tuple []) (aindexS 1 t74 (.int .i64 0))) fun t75 =>
  bnd (gdv t70 true (.tuple []) (aload false 1 t75 r31.2)) fun t76 =>
  bnd (gdv t70 true (.tuple []) (ibin .eql t76 (.int .i64 6))) fun t77 =>
  bnd (apick t70 t77 (.bool false)) fun t78 =>
  some (t78, r31.2)
theorem ec38 (H : Hp) : c38 H = bc38 c42 c43 c44 c45 q31 q39 H := (callw_cxm (C := cfg) (fn := Tryz.f38) (c := bodyOf Tryz.f38) (n := 79) [] Tryz.func38 (by kernel_rfl) (by kernel_rfl) [] (by kernel_rfl) H).trans (by kernel_rfl)
theorem mc38 {c42 dc42 : A4} (hc42 : L4 c42 dc42) {c43 dc43 : A2} (hc43 : L2 c43 dc43) {c44 dc44 : A3} (hc44 : L3 c44 dc44) {c45 dc45 : A2} (hc45 : L2 c45 dc45) {q31 dq31 : A0} (hq31 : L0 q31 dq31) {q39 dq39 : A2} (hq39 : L2 q39 dq39) : L0 (bc38 c42 c43 c44 c45 q31 q39) (bc38 dc42 dc43 dc44 dc45 dq31 dq39) := fun _ =>
  bC (hq31 _) fun _ => bR fun _ => bR fun _ => bR fun _ => bR fun _ => bR fun _ => bR fun _ => bR fun _ => bR fun _ => bR fun _ => bR fun _ => bC (hc42 _ _ _ _ _) fun _ => bR fun _ => bR fun _ => bR fun _ => bF fun _ _ => bF fun _ _ => bR fun _ => bR fun _ => bC (hc45 _ _ _) fun _ => bC (hc44 _ _ _ _) fun _ => bC (hc43 _ _ _) fun _ => bR fun _ => bR fun _ => bC (hq39 _ _ _) fun _ => bR fun _ => bR fun _ => bR fun _ => bR fun _ => bR fun _ => bR fun _ => bR fun _ => bR fun _ => bR fun _ => bR fun _ => bR fun _ => bR fun _ => bR fun _ => bR fun _ => bR fun _ => bR fun _ => bR fun _ => bR fun _ => bR fun _ => bR fun _ => bR fun _ => bR fun _ => bR fun _ => bR fun _ => bR fun _ => bR fun _ => bR fun _ => bR fun _ => bR fun _ => bR fun _ => bR fun _ => bR fun _ => bR fun _ => bR fun _ => bR fun _ => bR fun _ => bR fun _ => bR fun _ => le_refl _
def rc38 (gV : AV → List AV → Hp → Res) : A0 := fun H => bc38 (rc42 gV) (rc43 gV) rc44 rc45 rq31 rq39 H
theorem sc38 {gV : AV → List AV → Hp → Res} (hV : LV gV (acall cfg (callw cfg))) : L0 (rc38 gV) c38 := fun H => le_eq (mc38 (sc42 hV) (sc43 hV) sc44 sc45 sq31 sq39 _) (ec38 _)
def c83 (p0 p1 : AV) (H : Hp) : Res := callw cfg 83 [p0, p1] H
def j83_2 (H0 : Hp) (x6 x7 x8 : AV) (H : Hp) : Res := CXf 83 67 (sub (bodyOf Tryz.f83) [1, 1, 1, 1, 1, 1]) (retL cfg 67 83 Tryz.f83 H0) [(6, x6), (7, x7), (8, x8)] H
def k83_1 (H0 : Hp) : KL := seqL (fun k al H => CXf 83 67 (sub (bodyOf Tryz.f83) [1, 1, 1, 1, 1, 1]) k (trimL (cfg.keep 83) (sub (bodyOf Tryz.f83) [1, 1, 1, 1, 1, 1]) al) H) (retL cfg 67 83 Tryz.f83 H0)
theorem k83_1_tame (H0 : Hp) : Tame 67 (k83_1 H0) := tame_seq (C := cfg) (kp := cfg.keep 83) (sub (bodyOf Tryz.f83) [1, 1, 1, 1, 1, 1]) (tame_ret 83 Tryz.f83 H0)
def j83_3 (H0 : Hp) (x1 x6 x7 x8 : AV) (H : Hp) : Res := CXf 83 67 (sub (bodyOf Tryz.f83) [1, 1, 1, 1, 1, 0, 0, 0, 1]) (seqL (fun k al H => LPf 83 67 (sub (bodyOf Tryz.f83) [1, 1, 1, 1, 1, 0, 0, 0]) k (trimL (cfg.keep 83) (sub (bodyOf Tryz.f83) [1, 1, 1, 1, 1, 0, 0, 0]) al) H) (blockL 0 (k83_1 H0))) [(1, x1), (6, x6), (7, x7), (8, x8)] H
def j83_l1 (H0 : Hp) (x1 x6 x7 x8 : AV) (H : Hp) : Res := LPf 83 67 (sub (bodyOf Tryz.f83) [1, 1, 1, 1, 1, 0, 0, 0]) (blockL 0 (k83_1 H0)) [(1, x1), (6, x6), (7, x7), (8, x8)] H
def j83_1 (H0 : Hp) (x0 x1 : AV) (H : Hp) : Res := CXf 83 67 (sub (bodyOf Tryz.f83) [1, 1]) (retL cfg 67 83 Tryz.f83 H0) [(0, x0), (1, x1)] H
def b83_2 (x6 x7 x8 : AV) (H : Hp) : Res :=
  bnd (aappE 1 16 x8 x6 H) fun r64 =>
  bnd (aappE 1 16 r64.1 x7 r64.2) fun r66 =>
  some (r66.1, r66.2)
theorem e83_2 (H0 : Hp) (x6 x7 x8 : AV) (H : Hp) : j83_2 H0 x6 x7 x8 H = b83_2 x6 x7 x8 H := (CXM_eq [3, 7, 12] _ _ _ _).trans (by kernel_rfl)
theorem m83_2 : L3 (b83_2) (b83_2) := fun _ _ _ _ =>
  bR fun _ => bR fun _ => le_refl _
def b83_3 (j83_l1 : A4) (cV : AV → List AV → Hp → Res) (x1 x6 x7 x8 : AV) (H : Hp) : Res :=
  bnd (aindexS 1 x6 (.int .i64 0)) fun t40 =>
  bnd (aload false 1 t40 H) fun t41 =>
  bnd (aindexS 1 x7 (.int .i64 0)) fun t43 =>
  bnd (aload false 1 t43 H) fun t44 =>
  bnd (cV x1 [t41, t44] H) fun r45 =>
  cnd r45.1
    (bnd (aindexS 1 x7 (.int .i64 0)) fun t48 =>
    bnd (aload false 1 t48 r45.2) fun t49 =>
    bnd ((setElems 1 [(0, t49)] [(.str [])]).map (.vs 1 .clip)) fun t50 =>
    bnd (aappE 1 16 x8 t50 r45.2) fun r51 =>
    bnd (asliceV 1 x7 (some (.int .i64 1)) none none) fun t53 =>
    j83_l1 x1 x6 t53 r51.1 r51.2)
    (bnd (aindexS 1 x6 (.int .i64 0)) fun t56 =>
    bnd (aload false 1 t56 r45.2) fun t57 =>
    bnd ((setElems 1 [(0, t57)] [(.str [])]).map (.vs 1 .clip)) fun t58 =>
    bnd (aappE 1 16 x8 t58 r45.2) fun r59 =>
    bnd (asliceV 1 x6 (some (.int .i64 1)) none none) fun t61 =>
    j83_l1 x1 t61 x7 r59.1 r59.2)
theorem e83_3 (H0 : Hp) (x1 x6 x7 x8 : AV) (H : Hp) : j83_3 H0 x1 x6 x7 x8 H = b83_3 (j83_l1 H0) (acall cfg (callw cfg)) x1 x6 x7 x8 H := (CXM_eq [3, 7, 12] _ _ _ _).trans (by kernel_rfl)
theorem m83_3 {j83_l1 dj83_l1 : A4} (hj83_l1 : L4 j83_l1 dj83_l1) {cV dcV : AV → List AV → Hp → Res} (hcV : LV cV dcV) : L4 (b83_3 j83_l1 cV) (b83_3 dj83_l1 dcV) := fun _ _ _ _ _ =>
  bR fun _ => bR fun _ => bR fun _ => bR fun _ => bC (hcV _ _ _) fun _ => bK (bR fun _ => bR fun _ => bR fun _ => bR fun _ => bR fun _ => hj83_l1 _ _ _ _ _) (bR fun _ => bR fun _ => bR fun _ => bR fun _ => bR fun _ => hj83_l1 _ _ _ _ _)
def b83_l1 (j83_2 : A3) (j83_3 : A4) (x1 x6 x7 x8 : AV) (H : Hp) : Res :=
  bnd (alenD (.slice 9) x6) fun t31 =>
  bnd (ibin .gtr t31 (.int .i64 0)) fun t32 =>
  bnd (gdv t32 true (.tuple []) (some x7)) fun t34 =>
  bnd (gdv t32 true (.tuple []) (alenD (.slice 9) t34)) fun t35 =>
  bnd (gdv t32 true (.tuple []) (ibin .gtr t35 (.int .i64 0))) fun t36 =>
  bnd (apick t32 t36 (.bool false)) fun t37 =>
  cnd t37
    (j83_3 x1 x6 x7 x8 H)
    (j83_2 x6 x7 x8 H)
theorem e83_l1 (H0 : Hp) (x1 x6 x7 x8 : AV) (H : Hp) : j83_l1 H0 x1 x6 x7 x8 H = b83_l1 (j83_2 H0) (j83_3 H0) x1 x6 x7 x8 H := (LPL_eqm (C := cfg) [3, 7, 12] (tame_block 0 (k83_1_tame H0)) _ _).trans (by kernel_rfl)
theorem m83_l1 {j83_2 dj83_2 : A3} (hj83_2 : L3 j83_2 dj83_2) {j83_3 dj83_3 : A4} (hj83_3 : L4 j83_3 dj83_3) : L4 (b83_l1 j83_2 j83_3) (b83_l1 dj83_2 dj83_3) := fun _ _ _ _ _ =>
  bR fun _ => bR fun _ => bR fun _ => bR fun _ => bR fun _ => bR fun _ => bK (hj83_3 _ _ _ _ _) (hj83_2 _ _ _ _)
def b83_1 (j83_l1 : A4) (cV : AV → List AV → Hp → Res) (x0 x1 : AV) (H : Hp) : Res :=
  bnd (alenD (.slice 9) x0) fun t15 =>
  bnd (ibin .quo t15 (.int .i64 2)) fun t16 =>
  bnd (asliceV 1 x0 none (some t16) none) fun t19 =>
  bnd (cV (.fn (.func 83) [] []) [t19, x1] H) fun r21 =>
  bnd (asliceV 1 x0 (some t16) none none) fun t24 =>
  bnd (cV (.fn (.func 83) [] []) [t24, x1] r21.2) fun r26 =>
  bnd (alenD (.slice 9) x0) fun t28 =>
  bnd (amake 1 16 false (.str []) (.int .i64 0) t28 r26.2) fun r29 =>
  j83_l1 x1 r21.1 r26.1 r29.1 r29.2
theorem e83_1 (H0 : Hp) (x0 x1 : AV) (H : Hp) : j83_1 H0 x0 x1 H = b83_1 (j83_l1 H0) (acall cfg (callw cfg)) x0 x1 H := (CXM_eq [3, 7, 12] _ _ _ _).trans (by kernel_rfl)
theorem m83_1 {j83_l1 dj83_l1 : A4} (hj83_l1 : L4 j83_l1 dj83_l1) {cV dcV : AV → List AV → Hp → Res} (hcV : LV cV dcV) : L2 (b83_1 j83_l1 cV) (b83_1 dj83_l1 dcV) := fun _ _ _ =>
  bR fun _ => bR fun _ => bR fun _ => bC (hcV _ _ _) fun _ => bR fun _ => bC (hcV _ _ _) fun _ => bR fun _ => bR fun _ => hj83_l1 _ _ _ _ _
def rj83_2 (gV : AV → List AV → Hp → Res) : A3 := b83_2
theorem sj83_2 (H0 : Hp) {gV : AV → List AV → Hp → Res} (hV : LV gV (acall cfg (callw cfg))) : L3 (rj83_2 gV) (j83_2 H0) := fun _ _ _ _ => le_eq (m83_2 _ _ _ _) (e83_2 H0 _ _ _ _)
def rj83_3 (gV : AV → List AV → Hp → Res) (j83_l1 : A4) : A4 := b83_3 j83_l1 gV
theorem sj83_3 (H0 : Hp) {gV : AV → List AV → Hp → Res} (hV : LV gV (acall cfg (callw cfg))) {yj83_l1 : A4} (hj83_l1 : L4 yj83_l1 (j83_l1 H0)) : L4 (rj83_3 gV yj83_l1) (j83_3 H0) := fun _ _ _ _ _ => le_eq (m83_3 hj83_l1 hV _ _ _ _ _) (e83_3 H0 _ _ _ _ _)
def rj83_l1 (gV : AV → List AV → Hp → Res) (n : Nat) : A4 := @Nat.rec (fun _ => A4) (fun _ _ _ _ _ => none) (fun _ j83_l1 => b83_l1 (rj83_2 gV) (rj83_3 gV j83_l1)) n
theorem sj83_l1 (H0 : Hp) {gV : AV → List AV → Hp → Res} (hV : LV gV (acall cfg (callw cfg))) (n : Nat) : L4 (rj83_l1 gV n) (j83_l1 H0) := by
  induction n with
  | zero => exact fun _ _ _ _ _ => le_none _
  | succ n hj83_l1 => exact fun _ _ _ _ _ => le_eq (m83_l1 (sj83_2 H0 hV) (sj83_3 H0 hV hj83_l1) _ _ _ _ _) (e83_l1 H0 _ _ _ _ _)
def rj83_1 (gV : AV → List AV → Hp → Res) : A2 := b83_1 (rj83_l1 gV 100000) gV
theorem sj83_1 (H0 : Hp) {gV : AV → List AV → Hp → Res} (hV : LV gV (acall cfg (callw cfg))) : L2 (rj83_1 gV) (j83_1 H0) := fun _ _ _ => le_eq (m83_1 (sj83_l1 H0 hV 100000) hV _ _ _) (e83_1 H0 _ _ _)
def bc83 (q76 : A1) (j83_1 : A2) (p0 p1 : AV) (H : Hp) : Res :=
  bnd (alenD (.slice 9) p0) fun t10 =>
  bnd (ibin .lss t10 (.int .i64 2)) fun t11 =>
  cnd t11
    (bnd (q76 p0 H) fun r13 =>
    some (r13.1, r13.2))
    (j83_1 p0 p1 H)
theorem ec83 (p0 p1 : AV) (H : Hp) : c83 p0 p1 H = bc83 q76 (j83_1 H) p0 p1 H := (callw_cxm (C := cfg) (fn := Tryz.f83) (c := bodyOf Tryz.f83) (n := 67) [3, 7, 12] Tryz.func83 (by kernel_rfl) (by kernel_rfl) [p0, p1] (by kernel_rfl) H).trans (by kernel_rfl)
theorem mc83 {q76 dq76 : A1} (hq76 : L1 q76 dq76) {j83_1 dj83_1 : A2} (hj83_1 : L2 j83_1 dj83_1) : L2 (bc83 q76 j83_1) (bc83 dq76 dj83_1) := fun _ _ _ =>
  bR fun _ => bR fun _ => bK (bC (hq76 _ _) fun _ => le_refl _) (hj83_1 _ _ _)
def rc83 (gV : AV → List AV → Hp → Res) : A2 := fun p0 p1 H => bc83 rq76 (rj83_1 gV) p0 p1 H
theorem sc83 {gV : AV → List AV → Hp → Res} (hV : LV gV (acall cfg (callw cfg))) : L2 (rc83 gV) c83 := fun _ _ H => le_eq (mc83 sq76 (sj83_1 H hV) _ _ _) (ec83 _ _ _)
def c84 (p0 p1 p2 p3 : AV) (H : Hp) : Res := callw cfg 84 [p0, p1, p2, p3] H
def bc84 (q67 : A4) (p0 p1 p2 p3 : AV) (H : Hp) : Res :=
  bnd (aload true 6 p2 H) fun t7 =>
  bnd (aload true 5 p3 H) fun t8 =>
  bnd (q67 t7 t8 p0 p1 H) fun r11 =>
  bnd (ibin .gtr r11.1 (.int .i64 0)) fun t12 =>
  some (t12, r11.2)
theorem ec84 (p0 p1 p2 p3 : AV) (H : Hp) : c84 p0 p1 p2 p3 H = bc84 q67 p0 p1 p2 p3 H := (callw_cxm (C := cfg) (fn := Tryz.f84) (c := bodyOf Tryz.f84) (n := 13) [] Tryz.func84 (by kernel_rfl) (by kernel_rfl) [p0, p1, p2, p3] (by kernel_rfl) H).trans (by kernel_rfl)
theorem mc84 {q67 dq67 : A4} (hq67 : L4 q67 dq67) : L4 (bc84 q67) (bc84 dq67) := fun _ _ _ _ _ =>
  bR fun _ => bR fun _ => bC (hq67 _ _ _ _ _) fun _ => bR fun _ => le_refl _
def rc84 (gV : AV → List AV → Hp → Res) : A4 := fun p0 p1 p2 p3 H => bc84 (rq67 gV) p0 p1 p2 p3 H
theorem sc84 {gV : AV → List AV → Hp → Res} (hV : LV gV (acall cfg (callw cfg))) : L4 (rc84 gV) c84 := fun _ _ _ _ H => le_eq (mc84 (sq67 hV) _ _ _ _ _) (ec84 _ _ _ _ _)
def c85 (p0 p1 p2 p3 : AV) (H : Hp) : Res := callw cfg 85 [p0, p1, p2, p3] H
def bc85 (q72 : A4) (p0 p1 p2 p3 : AV) (H : Hp) : Res :=
  bnd (aload true 6 p2 H) fun t7 =>
  bnd (aload true 5 p3 H) fun t8 =>
  bnd (q72 t7 t8 p0 p1 H) fun r11 =>
  bnd (ibin .eql r11.1 (.int .i64 0)) fun t12 =>
  some (t12, r11.2)
theorem ec85 (p0 p1 p2 p3 : AV) (H : Hp) : c85 p0 p1 p2 p3 H = bc85 q72 p0 p1 p2 p3 H := (callw_cxm (C := cfg) (fn := Tryz.f85) (c := bodyOf Tryz.f85) (n := 13) [] Tryz.func85 (by kernel_rfl) (by kernel_rfl) [p0, p1, p2, p3] (by kernel_rfl) H).trans (by kernel_rfl)
theorem mc85 {q72 dq72 : A4} (hq72 : L4 q72 dq72) : L4 (bc85 q72) (bc85 dq72) := fun _ _ _ _ _ =>
  bR fun _ => bR fun _ => bC (hq72 _ _ _ _ _) fun _ => bR fun _ => le_refl _
def rc85 (gV : AV → List AV → Hp → Res) : A4 := fun p0 p1 p2 p3 H => bc85 (rq72 gV) p0 p1 p2 p3 H
theorem sc85 {gV : AV → List AV → Hp → Res} (hV : LV gV (acall cfg (callw cfg))) : L4 (rc85 gV) c85 := fun _ _ _ _ H => le_eq (mc85 (sq72 hV) _ _ _ _ _) (ec85 _ _ _ _ _)
def c144 (p0 p1 p2 : AV) (H : Hp) : Res := callw cfg 144 [p0, p1, p2] H
def bc144 (q67 : A4) (p0 p1 p2 : AV) (H : Hp) : Res :=
  bnd (aload false 1 p2 H) fun t6 =>
  bnd (anil t6) fun t7 =>
  bnd (afield 11 t7) fun t8 =>
  bnd (aload false 1 t8 H) fun t9 =>
  bnd (gdv t9 true (.tuple []) (aload false 1 p2 H)) fun t11 =>
  bnd (gdv t9 true (.tuple []) (anil t11)) fun t12 =>
  bnd (gdv t9 true (.tuple []) (afield 0 t12)) fun t13 =>
  bnd (gdv t9 true (.tuple []) (aload true 6 t13 H)) fun t14 =>
  bnd (gdv t9 true (.tuple []) (aload false 1 p2 H)) fun t15 =>
  bnd (gdv t9 true (.tuple []) (anil t15)) fun t16 =>
  bnd (gdv t9 true (.tuple []) (afield 6 t16)) fun t17 =>
  bnd (gdv t9 true (.tuple []) (aload true 5 t17 H)) fun t18 =>
  bnd (gdv t9 true (.tuple []) (some p0)) fun t19 =>
  bnd (gdv t9 true (.tuple []) (some p1)) fun t20 =>
  bnd (gdv t9 true ((.tuple []), H) (q67 t14 t18 t19 t20 H)) fun r21 =>
  bnd (gdv t9 true (.tuple []) (ibin .lss r21.1 (.int .i64 0))) fun t22 =>
  bnd (apick t9 t22 (.bool false)) fun t23 =>
  some (t23, r21.2)
theorem ec144 (p0 p1 p2 : AV) (H : Hp) : c144 p0 p1 p2 H = bc144 q67 p0 p1 p2 H := (callw_cxm (C := cfg) (fn := Tryz.f144) (c := bodyOf Tryz.f144) (n := 24) [] Tryz.func144 (by kernel_rfl) (by kernel_rfl) [p0, p1, p2] (by kernel_rfl) H).trans (by kernel_rfl)
theorem mc144 {q67 dq67 : A4} (hq67 : L4 q67 dq67) : L3 (bc144 q67) (bc144 dq67) := fun _ _ _ _ =>
  bR fun _ => bR fun _ => bR fun _ => bR fun _ => bR fun _ => bR fun _ => bR fun _ => bR fun _ => bR fun _ => bR fun _ => bR fun _ => bR fun _ => bR fun _ => bR fun _ => bG (hq67 _ _ _ _ _) fun _ => bR fun _ => bR fun _ => le_refl _
def rc144 (gV : AV → List AV → Hp → Res) : A3 := fun p0 p1 p2 H => bc144 (rq67 gV) p0 p1 p2 H
theorem sc144 {gV : AV → List AV → Hp → Res} (hV : LV gV (acall cfg (callw cfg))) : L3 (rc144 gV) c144 := fun _ _ _ H => le_eq (mc144 (sq67 hV) _ _ _ _) (ec144 _ _ _ _)

def c149 (p0 p1 p2 : AV) (H : Hp) : Res := callw cfg 149 [p0, p1, p2] H
def j149_4 (H0 : Hp) (x1 x2 x3 x6 x9 x10 : AV) (H : Hp) : Res := CXf 149 75 (sub (bodyOf Tryz.f149) [1, 1, 1, 1, 0, 0, 1, 0, 1, 1, 1]) (blockL 3 (seqL (fun k al H => LPf 149 75 (sub (bodyOf Tryz.f149) [1, 1, 1, 1, 0, 0]) k (trimL (cfg.keep 149) (sub (bodyOf Tryz.f149) [1, 1, 1, 1, 0, 0]) al) H) (blockL 2 (retL cfg 75 149 Tryz.f149 H0)))) [(1, x1), (2, x2), (3, x3), (6, x6), (9, x9), (10, x10)] H
def j149_3 (H0 : Hp) (x1 x2 x3 x6 x9 x10 x11 : AV) (H : Hp) : Res := CXf 149 75 (sub (bodyOf Tryz.f149) [1, 1, 1, 1, 0, 0, 1, 0, 1, 1]) (blockL 3 (seqL (fun k al H => LPf 149 75 (sub (bodyOf Tryz.f149) [1, 1, 1, 1, 0, 0]) k (trimL (cfg.keep 149) (sub (bodyOf Tryz.f149) [1, 1, 1, 1, 0, 0]) al) H) (blockL 2 (retL cfg 75 149 Tryz.f149 H0)))) [(1, x1), (2, x2), (3, x3), (6, x6), (9, x9), (10, x10), (11, x11)] H
def j149_2 (H0 : Hp) (x1 x2 x3 x6 x9 : AV) (H : Hp) : Res := CXf 149 75 (sub (bodyOf Tryz.f149) [1, 1, 1, 1, 0, 0, 1]) (seqL (fun k al H => LPf 149 75 (sub (bodyOf Tryz.f149) [1, 1, 1, 1, 0, 0]) k (trimL (cfg.keep 149) (sub (bodyOf Tryz.f149) [1, 1, 1, 1, 0, 0]) al) H) (blockL 2 (retL cfg 75 149 Tryz.f149 H0))) [(1, x1), (2, x2), (3, x3), (6, x6), (9, x9)] H
def j149_l1 (H0 : Hp) (x1 x2 x3 x6 x9 : AV) (H : Hp) : Res := LPf 149 75 (sub (bodyOf Tryz.f149) [1, 1, 1, 1, 0, 0]) (blockL 2 (retL cfg 75 149 Tryz.f149 H0)) [(1, x1), (2, x2), (3, x3), (6, x6), (9, x9)] H
def j149_1 (H0 : Hp) (x1 x2 x3 x6 : AV) (H : Hp) : Res := CXf 149 75 (sub (bodyOf Tryz.f149) [1, 1, 1]) (retL cfg 75 149 Tryz.f149 H0) [(1, x1), (2, x2), (3, x3), (6, x6)] H
def k149_1 (H0 : Hp) : KL := seqL (fun k al H => CXf 149 75 (sub (bodyOf Tryz.f149) [1, 1, 1]) k (trimL (cfg.keep 149) (sub (bodyOf Tryz.f149) [1, 1, 1]) al) H) (retL cfg 75 149 Tryz.f149 H0)
theorem k149_1_tame (H0 : Hp) : Tame 75 (k149_1 H0) := tame_seq (C := cfg) (kp := cfg.keep 149) (sub (bodyOf Tryz.f149) [1, 1, 1]) (tame_ret 149 Tryz.f149 H0)
def j149_6 (H0 : Hp) (x1 x2 x3 x6 x16 x17 x18 : AV) (H : Hp) : Res := CXf 149 75 (sub (bodyOf Tryz.f149) [1, 1, 0, 1, 0, 0, 1, 1, 1]) (seqL (fun k al H => LPf 149 75 (sub (bodyOf Tryz.f149) [1, 1, 0, 1, 0, 0]) k (trimL (cfg.keep 149) (sub (bodyOf Tryz.f149) [1, 1, 0, 1, 0, 0]) al) H) (blockL 0 (k149_1 H0))) [(1, x1), (2, x2), (3, x3), (6, x6), (16, x16), (17, x17), (18, x18)] H
def j149_5 (H0 : Hp) (x1 x2 x3 x6 x16 x17 x18 x19 : AV) (H : Hp) : Res := CXf 149 75 (sub (bodyOf Tryz.f149) [1, 1, 0, 1, 0, 0, 1, 1]) (seqL (fun k al H => LPf 149 75 (sub (bodyOf Tryz.f149) [1, 1, 0, 1, 0, 0]) k (trimL (cfg.keep 149) (sub (bodyOf Tryz.f149) [1, 1, 0, 1, 0, 0]) al) H) (blockL 0 (k149_1 H0))) [(1, x1), (2, x2), (3, x3), (6, x6), (16, x16), (17, x17), (18, x18), (19, x19)] H
def j149_l2 (H0 : Hp) (x1 x2 x3 x6 x16 x17 x18 : AV) (H : Hp) : Res := LPf 149 75 (sub (bodyOf Tryz.f149) [1, 1, 0, 1, 0, 0]) (blockL 0 (k149_1 H0)) [(1, x1), (2, x2), (3, x3), (6, x6), (16, x16), (17, x17), (18, x18)] H
def b149_4 (j149_l1 : A5) (x1 x2 x3 x6 x9 x10 : AV) (H : Hp) : Res :=
  bnd (alenD .string x10) fun t73 =>
  bnd (ibin .add x9 t73) fun t74 =>
  j149_l1 x1 x2 x3 x6 t74 H
theorem e149_4 (H0 : Hp) (x1 x2 x3 x6 x9 x10 : AV) (H : Hp) : j149_4 H0 x1 x2 x3 x6 x9 x10 H = b149_4 (j149_l1 H0) x1 x2 x3 x6 x9 x10 H := (CXM_eq [4, 6, 7, 9, 14, 15] _ _ _ _).trans (by kernel_rfl)
theorem m149_4 {j149_l1 dj149_l1 : A5} (hj149_l1 : L5 j149_l1 dj149_l1) : L6 (b149_4 j149_l1) (b149_4 dj149_l1) := fun _ _ _ _ _ _ _ =>
  bR fun _ => bR fun _ => hj149_l1 _ _ _ _ _ _
def b149_3 (j149_4 : A6) (cV : AV → List AV → Hp → Res) (x1 x2 x3 x6 x9 x10 x11 : AV) (H : Hp) : Res :=
  bnd (cV x2 [x10, x11] H) fun r69 =>
  bnd (aun .not r69.1) fun t70 =>
  cnd t70
    (some ((.tuple []), r69.2))
    (j149_4 x1 x2 x3 x6 x9 x10 r69.2)
theorem e149_3 (H0 : Hp) (x1 x2 x3 x6 x9 x10 x11 : AV) (H : Hp) : j149_3 H0 x1 x2 x3 x6 x9 x10 x11 H = b149_3 (j149_4 H0) (acall cfg (callw cfg)) x1 x2 x3 x6 x9 x10 x11 H := (CXM_eq [4, 6, 7, 9, 14, 15] _ _ _ _).trans (by kernel_rfl)
theorem m149_3 {j149_4 dj149_4 : A6} (hj149_4 : L6 j149_4 dj149_4) {cV dcV : AV → List AV → Hp → Res} (hcV : LV cV dcV) : L7 (b149_3 j149_4 cV) (b149_3 dj149_4 dcV) := fun _ _ _ _ _ _ _ _ =>
  bC (hcV _ _ _) fun _ => bR fun _ => bK (le_refl _) (hj149_4 _ _ _ _ _ _ _)
def b149_2 (j149_3 : A7) (x1 x2 x3 x6 x9 : AV) (H : Hp) : Res :=
  bnd (ibin .add x9 (.int .i64 1)) fun t35 =>
  bnd (asliceS x1 (some x9) (some t35) none) fun t36 =>
  bnd (afield 1 x3) fun t37 =>
  bnd (aload false 1 t37 H) fun t38 =>
  bnd (aindexStr x1 x9) fun t41 =>
  bnd (aindexS 1 t38 t41) fun t42 =>
  bnd (aload false 1 t42 H) fun t43 =>
  bnd (ibin .add x9 (.int .i64 2)) fun t45 =>
  bnd (alenD .string x1) fun t47 =>
  bnd (ibin .leq t45 t47) fun t48 =>
  cnd t48
    (bnd (ibin .add x9 (.int .i64 2)) fun t54 =>
    bnd (asliceS x1 (some x9) (some t54) none) fun t55 =>
    bnd (alookup .string (.int .i64 0) true x6 t55 H) fun t56 =>
    bnd (aext t56 0) fun t57 =>
    bnd (aext t56 1) fun t58 =>
    cnd t58
      (bnd (ibin .add x9 (.int .i64 2)) fun t63 =>
      bnd (asliceS x1 (some x9) (some t63) none) fun t64 =>
      j149_3 x1 x2 x3 x6 x9 t64 t57 H)
      (j149_3 x1 x2 x3 x6 x9 t36 t43 H))
    (j149_3 x1 x2 x3 x6 x9 t36 t43 H)
theorem e149_2 (H0 : Hp) (x1 x2 x3 x6 x9 : AV) (H : Hp) : j149_2 H0 x1 x2 x3 x6 x9 H = b149_2 (j149_3 H0) x1 x2 x3 x6 x9 H := (CXM_eq [4, 6, 7, 9, 14, 15] _ _ _ _).trans (by kernel_rfl)
theorem m149_2 {j149_3 dj149_3 : A7} (hj149_3 : L7 j149_3 dj149_3) : L5 (b149_2 j149_3) (b149_2 dj149_3) := fun _ _ _ _ _ _ =>
  bR fun _ => bR fun _ => bR fun _ => bR fun _ => bR fun _ => bR fun _ => bR fun _ => bR fun _ => bR fun _ => bR fun _ => bK (bR fun _ => bR fun _ => bR fun _ => bR fun _ => bR fun _ => bK (bR fun _ => bR fun _ => hj149_3 _ _ _ _ _ _ _ _) (hj149_3 _ _ _ _ _ _ _ _)) (hj149_3 _ _ _ _ _ _ _ _)
def b149_l1 (j149_2 : A5) (x1 x2 x3 x6 x9 : AV) (H : Hp) : Res :=
  bnd (alenD .string x1) fun t30 =>
  bnd (ibin .lss x9 t30) fun t31 =>
  cnd t31
    (j149_2 x1 x2 x3 x6 x9 H)
    (some ((.tuple []), H))
theorem e149_l1 (H0 : Hp) (x1 x2 x3 x6 x9 : AV) (H : Hp) : j149_l1 H0 x1 x2 x3 x6 x9 H = b149_l1 (j149_2 H0) x1 x2 x3 x6 x9 H := (LPL_eqm (C := cfg) [4, 6, 7, 9, 14, 15] (tame_block 2 (tame_ret 149 Tryz.f149 H0)) _ _).trans (by kernel_rfl)
theorem m149_l1 {j149_2 dj149_2 : A5} (hj149_2 : L5 j149_2 dj149_2) : L5 (b149_l1 j149_2) (b149_l1 dj149_2) := fun _ _ _ _ _ _ =>
  bR fun _ => bR fun _ => bK (hj149_2 _ _ _ _ _ _) (le_refl _)
def b149_1 (j149_l1 : A5) (x1 x2 x3 x6 : AV) (H : Hp) : Res :=
  j149_l1 x1 x2 x3 x6 (.int .i64 0) H
theorem e149_1 (H0 : Hp) (x1 x2 x3 x6 : AV) (H : Hp) : j149_1 H0 x1 x2 x3 x6 H = b149_1 (j149_l1 H0) x1 x2 x3 x6 H := (CXM_eq [4, 6, 7, 9, 14, 15] _ _ _ _).trans (by kernel_rfl)
theorem m149_1 {j149_l1 dj149_l1 : A5} (hj149_l1 : L5 j149_l1 dj149_l1) : L4 (b149_1 j149_l1) (b149_1 dj149_l1) := fun _ _ _ _ _ =>
  hj149_l1 _ _ _ _ _ _
def b149_6 (j149_l2 : A7) (x1 x2 x3 x6 x16 x17 x18 : AV) (H : Hp) : Res :=
  bnd (ibin .add x18 (.int .i64 1)) fun t27 =>
  j149_l2 x1 x2 x3 x6 x16 x17 t27 H
theorem e149_6 (H0 : Hp) (x1 x2 x3 x6 x16 x17 x18 : AV) (H : Hp) : j149_6 H0 x1 x2 x3 x6 x16 x17 x18 H = b149_6 (j149_l2 H0) x1 x2 x3 x6 x16 x17 x18 H := (CXM_eq [4, 6, 7, 9, 14, 15] _ _ _ _).trans (by kernel_rfl)
theorem m149_6 {j149_l2 dj149_l2 : A7} (hj149_l2 : L7 j149_l2 dj149_l2) : L7 (b149_6 j149_l2) (b149_6 dj149_l2) := fun _ _ _ _ _ _ _ _ =>
  bR fun _ => hj149_l2 _ _ _ _ _ _ _ _
def b149_5 (j149_6 : A7) (x1 x2 x3 x6 x16 x17 x18 x19 : AV) (H : Hp) : Res :=
  bnd (aindexS 2 x16 x18) fun t20 =>
  bnd (aload true 2 t20 H) fun t21 =>
  bnd (some ((.ptr H.length 0), H ++ [.cells [(.str []), (.int .i64 0)]])) fun r8 =>
  bnd (astoreU 2 r8.1 t21 r8.2) fun r_34 =>
  bnd (afield 0 r8.1) fun t23 =>
  bnd (aload false 1 t23 r_34.2) fun t24 =>
  bnd (afield 1 r8.1) fun t25 =>
  bnd (aload false 1 t25 r_34.2) fun t26 =>
  bnd (amapSet .string x6 t24 t26 r_34.2) fun r_39 =>
  j149_6 x1 x2 x3 x6 x16 x17 x18 r_39.2
theorem e149_5 (H0 : Hp) (x1 x2 x3 x6 x16 x17 x18 x19 : AV) (H : Hp) : j149_5 H0 x1 x2 x3 x6 x16 x17 x18 x19 H = b149_5 (j149_6 H0) x1 x2 x3 x6 x16 x17 x18 x19 H := (CXM_eq [4, 6, 7, 9, 14, 15] _ _ _ _).trans (by kernel_rfl)
theorem m149_5 {j149_6 dj149_6 : A7} (hj149_6 : L7 j149_6 dj149_6) : L8 (b149_5 j149_6) (b149_5 dj149_6) := fun _ _ _ _ _ _ _ _ _ =>
  bR fun _ => bR fun _ => bR fun _ => bR fun _ => bR fun _ => bR fun _ => bR fun _ => bR fun _ => bR fun _ => hj149_6 _ _ _ _ _ _ _ _
def b149_l2 (j149_1 : A4) (j149_5 : A8) (x1 x2 x3 x6 x16 x17 x18 : AV) (H : Hp) : Res :=
  bnd (ibin .lss x18 x17) fun t19 =>
  cnd t19
    (j149_5 x1 x2 x3 x6 x16 x17 x18 t19 H)
    (j149_1 x1 x2 x3 x6 H)
theorem e149_l2 (H0 : Hp) (x1 x2 x3 x6 x16 x17 x18 : AV) (H : Hp) : j149_l2 H0 x1 x2 x3 x6 x16 x17 x18 H = b149_l2 (j149_1 H0) (j149_5 H0) x1 x2 x3 x6 x16 x17 x18 H := (LPL_eqm (C := cfg) [4, 6, 7, 9, 14, 15] (tame_block 0 (k149_1_tame H0)) _ _).trans (by kernel_rfl)
theorem m149_l2 {j149_1 dj149_1 : A4} (hj149_1 : L4 j149_1 dj149_1) {j149_5 dj149_5 : A8} (hj149_5 : L8 j149_5 dj149_5) : L7 (b149_l2 j149_1 j149_5) (b149_l2 dj149_1 dj149_5) := fun _ _ _ _ _ _ _ _ =>
  bR fun _ => bK (hj149_5 _ _ _ _ _ _ _ _ _) (hj149_1 _ _ _ _ _)
def rj149_4 (gV : AV → List AV → Hp → Res) (j149_l1 : A5) : A6 := b149_4 j149_l1
theorem sj149_4 (H0 : Hp) {gV : AV → List AV → Hp → Res} (hV : LV gV (acall cfg (callw cfg))) {yj149_l1 : A5} (hj149_l1 : L5 yj149_l1 (j149_l1 H0)) : L6 (rj149_4 gV yj149_l1) (j149_4 H0) := fun _ _ _ _ _ _ _ => le_eq (m149_4 hj149_l1 _ _ _ _ _ _ _) (e149_4 H0 _ _ _ _ _ _ _)
def rj149_3 (gV : AV → List AV → Hp → Res) (j149_l1 : A5) : A7 := b149_3 (rj149_4 gV j149_l1) gV
theorem sj149_3 (H0 : Hp) {gV : AV → List AV → Hp → Res} (hV : LV gV (acall cfg (callw cfg))) {yj149_l1 : A5} (hj149_l1 : L5 yj149_l1 (j149_l1 H0)) : L7 (rj149_3 gV yj149_l1) (j149_3 H0) := fun _ _ _ _ _ _ _ _ => le_eq (m149_3 (sj149_4 H0 hV hj149_l1) hV _ _ _ _ _ _ _ _) (e149_3 H0 _ _ _ _ _ _ _ _)
def rj149_2 (gV : AV → List AV → Hp → Res) (j149_l1 : A5) : A5 := b149_2 (rj149_3 gV j149_l1)
theorem sj149_2 (H0 : Hp) {gV : AV → List AV → Hp → Res} (hV : LV gV (acall cfg (callw cfg))) {yj149_l1 : A5} (hj149_l1 : L5 yj149_l1 (j149_l1 H0)) : L5 (rj149_2 gV yj149_l1) (j149_2 H0) := fun _ _ _ _ _ _ => le_eq (m149_2 (sj149_3 H0 hV hj149_l1) _ _ _ _ _ _) (e149_2 H0 _ _ _ _ _ _)
def rj149_l1 (gV : AV → List AV → Hp → Res) (n : Nat) : A5 := @Nat.rec (fun _ => A5) (fun _ _ _ _ _ _ => none) (fun _ j149_l1 => b149_l1 (rj149_2 gV j149_l1)) n
theorem sj149_l1 (H0 : Hp) {gV : AV → List AV → Hp → Res} (hV : LV gV (acall cfg (callw cfg))) (n : Nat) : L5 (rj149_l1 gV n) (j149_l1 H0) := by
  induction n with
  | zero => exact fun _ _ _ _ _ _ => le_none _
  | succ n hj149_l1 => exact fun _ _ _ _ _ _ => le_eq (m149_l1 (sj149_2 H0 hV hj149_l1) _ _ _ _ _ _) (e149_l1 H0 _ _ _ _ _ _)
def rj149_1 (gV : AV → List AV → Hp → Res) : A4 := b149_1 (rj149_l1 gV 100000)
theorem sj149_1 (H0 : Hp) {gV : AV → List AV → Hp → Res} (hV : LV gV (acall cfg (callw cfg))) : L4 (rj149_1 gV) (j149_1 H0) := fun _ _ _ _ _ => le_eq (m149_1 (sj149_l1 H0 hV 100000) _ _ _ _ _) (e149_1 H0 _ _ _ _ _)
def rj149_6 (gV : AV → List AV → Hp → Res) (j149_l2 : A7) : A7 := b149_6 j149_l2
theorem sj149_6 (H0 : Hp) {gV : AV → List AV → Hp → Res} (hV : LV gV (acall cfg (callw cfg))) {yj149_l2 : A7} (hj149_l2 : L7 yj149_l2 (j149_l2 H0)) : L7 (rj149_6 gV yj149_l2) (j149_6 H0) := fun _ _ _ _ _ _ _ _ => le_eq (m149_6 hj149_l2 _ _ _ _ _ _ _ _) (e149_6 H0 _ _ _ _ _ _ _ _)
def rj149_5 (gV : AV → List AV → Hp → Res) (j149_l2 : A7) : A8 := b149_5 (rj149_6 gV j149_l2)
theorem sj149_5 (H0 : Hp) {gV : AV → List AV → Hp → Res} (hV : LV gV (acall cfg (callw cfg))) {yj149_l2 : A7} (hj149_l2 : L7 yj149_l2 (j149_l2 H0)) : L8 (rj149_5 gV yj149_l2) (j149_5 H0) := fun _ _ _ _ _ _ _ _ _ => le_eq (m149_5 (sj149_6 H0 hV hj149_l2) _ _ _ _ _ _ _ _ _) (e149_5 H0 _ _ _ _ _ _ _ _ _)
def rj149_l2 (gV : AV → List AV → Hp → Res) (n : Nat) : A7 := @Nat.rec (fun _ => A7) (fun _ _ _ _ _ _ _ _ => none) (fun _ j149_l2 => b149_l2 (rj149_1 gV) (rj149_5 gV j149_l2)) n
theorem sj149_l2 (H0 : Hp) {gV : AV → List AV → Hp → Res} (hV : LV gV (acall cfg (callw cfg))) (n : Nat) : L7 (rj149_l2 gV n) (j149_l2 H0) := by
  induction n with
  | zero => exact fun _ _ _ _ _ _ _ _ => le_none _
  | succ n hj149_l2 => exact fun _ _ _ _ _ _ _ _ => le_eq (m149_l2 (sj149_1 H0 hV) (sj149_5 H0 hV hj149_l2) _ _ _ _ _ _ _ _) (e149_l2 H0 _ _ _ _ _ _ _ _)
def bc149 (j149_l2 : A7) (p0 p1 p2 : AV) (H : Hp) : Res :=
  bnd (abox p0 H) fun r3 =>
  bnd (some ((.map r3.2.length), r3.2 ++ [.map [] 0])) fun r14 =>
  bnd (afield 5 r3.1) fun t15 =>
  bnd (aload false 1 t15 r14.2) fun t16 =>
  bnd (alenD (.slice 210) t16) fun t17 =>
  j149_l2 p1 p2 r3.1 r14.1 t16 t17 (.int .i64 0) r14.2
theorem ec149 (p0 p1 p2 : AV) (H : Hp) : c149 p0 p1 p2 H = bc149 (j149_l2 H) p0 p1 p2 H := (callw_cxm (C := cfg) (fn := Tryz.f149) (c := bodyOf Tryz.f149) (n := 75) [4, 6, 7, 9, 14, 15] Tryz.func149 (by kernel_rfl) (by kernel_rfl) [p0, p1, p2] (by kernel_rfl) H).trans (by kernel_rfl)
theorem mc149 {j149_l2 dj149_l2 : A7} (hj149_l2 : L7 j149_l2 dj149_l2) : L3 (bc149 j149_l2) (bc149 dj149_l2) := fun _ _ _ _ =>
  bR fun _ => bR fun _ => bR fun _ => bR fun _ => bR fun _ => hj149_l2 _ _ _ _ _ _ _ _
def rc149 (gV : AV → List AV → Hp → Res) : A3 := fun p0 p1 p2 H => bc149 (rj149_l2 gV 100000) p0 p1 p2 H
theorem sc149 {gV : AV → List AV → Hp → Res} (hV : LV gV (acall cfg (callw cfg))) : L3 (rc149 gV) c149 := fun _ _ _ H => le_eq (mc149 (sj149_l2 H hV 100000) _ _ _ _) (ec149 _ _ _ _)

def c148 (p0 p1 : AV) (H : Hp) : Res := callw cfg 148 [p0, p1] H
def bc148 (c149 : A3) (p0 p1 : AV) (H : Hp) : Res :=
  bnd (some ((.ptr H.length 0), H ++ [.cells [.nils]])) fun r4 =>
  bnd (aload true 6 p1 r4.2) fun t5 =>
  bnd (some (.fn (.func 150) [] [r4.1])) fun t7 =>
  bnd (c149 t5 p0 t7 r4.2) fun r8 =>
  bnd (aload false 1 r4.1 r8.2) fun t9 =>
  some (t9, r8.2)
theorem ec148 (p0 p1 : AV) (H : Hp) : c148 p0 p1 H = bc148 c149 p0 p1 H := (callw_cxm (C := cfg) (fn := Tryz.f148) (c := bodyOf Tryz.f148) (n := 10) [] Tryz.func148 (by kernel_rfl) (by kernel_rfl) [p0, p1] (by kernel_rfl) H).trans (by kernel_rfl)
theorem mc148 {c149 dc149 : A3} (hc149 : L3 c149 dc149) : L2 (bc148 c149) (bc148 dc149) := fun _ _ _ =>
  bR fun _ => bR fun _ => bR fun _ => bC (hc149 _ _ _ _) fun _ => bR fun _ => le_refl _
def rc148 (gV : AV → List AV → Hp → Res) : A2 := fun p0 p1 H => bc148 (rc149 gV) p0 p1 H
theorem sc148 {gV : AV → List AV → Hp → Res} (hV : LV gV (acall cfg (callw cfg))) : L2 (rc148 gV) c148 := fun _ _ H => le_eq (mc148 (sc149 hV) _ _ _) (ec148 _ _ _)
def c150 (p0 p1 p2 : AV) (H : Hp) : Res := callw cfg 150 [p0, p1, p2] H
def bc150 (p0 p1 p2 : AV) (H : Hp) : Res :=
  bnd (aload false 1 p2 H) fun t6 =>
  bnd ((setElems 1 [(0, p1)] [(.int .i64 0)]).map (.vs 1 .clip)) fun t8 =>
  bnd (aappE 1 8 t6 t8 H) fun r9 =>
  bnd (astoreU 1 p2 r9.1 r9.2) fun r_4 =>
  some ((.bool true), r_4.2)
theorem ec150 (p0 p1 p2 : AV) (H : Hp) : c150 p0 p1 p2 H = bc150 p0 p1 p2 H := (callw_cxm (C := cfg) (fn := Tryz.f150) (c := bodyOf Tryz.f150) (n := 10) [] Tryz.func150 (by kernel_rfl) (by kernel_rfl) [p0, p1, p2] (by kernel_rfl) H).trans (by kernel_rfl)
theorem mc150 : L3 (bc150) (bc150) := fun _ _ _ _ =>
  bR fun _ => bR fun _ => bR fun _ => bR fun _ => le_refl _
def rc150 : A3 := fun p0 p1 p2 H => bc150 p0 p1 p2 H
theorem sc150 : L3 rc150 c150 := fun _ _ _ H => le_eq (mc150 _ _ _ _) (ec150 _ _ _ _)

end
end Go.Am
