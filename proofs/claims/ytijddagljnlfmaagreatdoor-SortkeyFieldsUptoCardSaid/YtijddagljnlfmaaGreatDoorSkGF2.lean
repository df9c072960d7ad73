/-
  Functions of the translation that are worked out at given arguments: written by program (wip/gen.py).
-/
import Derived.Test.YtijddagljnlfmaaGreatDoorSkGF1
import Derived.Test.YtijddagljnlfmaaGreatDoorAmW
namespace Go.Am
open Go.Proofs
set_option maxRecDepth 100000
set_option linter.unusedVariables false

/-! internal_strconv_ParseUint -/
noncomputable def c157 (p0 p1 p2 : AV) (H : Hp) : Res := callw cfg 157 [p0, p1, p2] H
noncomputable def j157_6 (H0 : Hp) (x13 : AV) (H : Hp) : Res := CXf 157 172 (sub (bodyOf Tryz.f157) [1, 1, 1, 1, 1, 1, 1, 1, 1, 1, 1, 1, 1]) (retL cfg 172 157 Tryz.f157 H0) [(13, x13)] H
noncomputable def j157_5 (H0 : Hp) (x9 x12 x13 : AV) (H : Hp) : Res := CXf 157 172 (sub (bodyOf Tryz.f157) [1, 1, 1, 1, 1, 1, 1, 1, 1, 1, 1, 1]) (retL cfg 172 157 Tryz.f157 H0) [(9, x9), (12, x12), (13, x13)] H
noncomputable def k157_1 (H0 : Hp) : KL := seqL (fun k al H => CXf 157 172 (sub (bodyOf Tryz.f157) [1, 1, 1, 1, 1, 1, 1, 1, 1, 1, 1, 1]) k (trimL (cfg.keep 157) (sub (bodyOf Tryz.f157) [1, 1, 1, 1, 1, 1, 1, 1, 1, 1, 1, 1]) al) H) (retL cfg 172 157 Tryz.f157 H0)
theorem k157_1_tame (H0 : Hp) : Tame 172 (k157_1 H0) := tame_seq (C := cfg) (kp := cfg.keep 157) (sub (bodyOf Tryz.f157) [1, 1, 1, 1, 1, 1, 1, 1, 1, 1, 1, 1]) (tame_ret 157 Tryz.f157 H0)
noncomputable def j157_8 (H0 : Hp) (x1 x8 x9 x10 x11 x12 x13 x99 x100 x101 : AV) (H : Hp) : Res := CXf 157 172 (sub (bodyOf Tryz.f157) [1, 1, 1, 1, 1, 1, 1, 1, 1, 1, 1, 0, 1, 0, 0, 1, 1, 1]) (seqL (fun k al H => LPf 157 172 (sub (bodyOf Tryz.f157) [1, 1, 1, 1, 1, 1, 1, 1, 1, 1, 1, 0, 1, 0, 0]) k (trimL (cfg.keep 157) (sub (bodyOf Tryz.f157) [1, 1, 1, 1, 1, 1, 1, 1, 1, 1, 1, 0, 1, 0, 0]) al) H) (blockL 3 (k157_1 H0))) [(1, x1), (8, x8), (9, x9), (10, x10), (11, x11), (12, x12), (13, x13), (99, x99), (100, x100), (101, x101)] H
noncomputable def k157_2 (H0 : Hp) : KL := seqL (fun k al H => CXf 157 172 (sub (bodyOf Tryz.f157) [1, 1, 1, 1, 1, 1, 1, 1, 1, 1, 1, 0, 1, 0, 0, 1, 1, 1]) k (trimL (cfg.keep 157) (sub (bodyOf Tryz.f157) [1, 1, 1, 1, 1, 1, 1, 1, 1, 1, 1, 0, 1, 0, 0, 1, 1, 1]) al) H) (seqL (fun k al H => LPf 157 172 (sub (bodyOf Tryz.f157) [1, 1, 1, 1, 1, 1, 1, 1, 1, 1, 1, 0, 1, 0, 0]) k (trimL (cfg.keep 157) (sub (bodyOf Tryz.f157) [1, 1, 1, 1, 1, 1, 1, 1, 1, 1, 1, 0, 1, 0, 0]) al) H) (blockL 3 (k157_1 H0)))
theorem k157_2_tame (H0 : Hp) : Tame 172 (k157_2 H0) := tame_seq (C := cfg) (kp := cfg.keep 157) (sub (bodyOf Tryz.f157) [1, 1, 1, 1, 1, 1, 1, 1, 1, 1, 1, 0, 1, 0, 0, 1, 1, 1]) (tame_loop (C := cfg) (kp := cfg.keep 157) (sub (bodyOf Tryz.f157) [1, 1, 1, 1, 1, 1, 1, 1, 1, 1, 1, 0, 1, 0, 0]) (tame_block 3 (k157_1_tame H0)))
noncomputable def j157_12 (H0 : Hp) (x1 x8 x9 x10 x11 x12 x17 x99 x100 x101 : AV) (H : Hp) : Res := CXf 157 172 (sub (bodyOf Tryz.f157) [1, 1, 1, 1, 1, 1, 1, 1, 1, 1, 1, 0, 1, 0, 0, 1, 1, 0, 0, 1, 1, 1, 1, 1, 1, 1, 1]) (blockL 4 (k157_2 H0)) [(1, x1), (8, x8), (9, x9), (10, x10), (11, x11), (12, x12), (17, x17), (99, x99), (100, x100), (101, x101)] H
noncomputable def j157_11 (H0 : Hp) (x1 x8 x9 x10 x11 x12 x13 x16 x99 x100 x101 : AV) (H : Hp) : Res := CXf 157 172 (sub (bodyOf Tryz.f157) [1, 1, 1, 1, 1, 1, 1, 1, 1, 1, 1, 0, 1, 0, 0, 1, 1, 0, 0, 1, 1, 1, 1, 1]) (blockL 4 (k157_2 H0)) [(1, x1), (8, x8), (9, x9), (10, x10), (11, x11), (12, x12), (13, x13), (16, x16), (99, x99), (100, x100), (101, x101)] H
noncomputable def j157_10 (H0 : Hp) (x1 x8 x9 x10 x11 x12 x13 x16 x99 x100 x101 : AV) (H : Hp) : Res := CXf 157 172 (sub (bodyOf Tryz.f157) [1, 1, 1, 1, 1, 1, 1, 1, 1, 1, 1, 0, 1, 0, 0, 1, 1, 0, 0, 1, 1, 1, 1]) (blockL 4 (k157_2 H0)) [(1, x1), (8, x8), (9, x9), (10, x10), (11, x11), (12, x12), (13, x13), (16, x16), (99, x99), (100, x100), (101, x101)] H
noncomputable def j157_9 (H0 : Hp) (x1 x8 x9 x10 x11 x12 x13 x16 x99 x100 x101 : AV) (H : Hp) : Res := CXf 157 172 (sub (bodyOf Tryz.f157) [1, 1, 1, 1, 1, 1, 1, 1, 1, 1, 1, 0, 1, 0, 0, 1, 1, 0, 0, 1, 1, 1]) (blockL 4 (k157_2 H0)) [(1, x1), (8, x8), (9, x9), (10, x10), (11, x11), (12, x12), (13, x13), (16, x16), (99, x99), (100, x100), (101, x101)] H
noncomputable def j157_7 (H0 : Hp) (x1 x8 x9 x10 x11 x12 x13 x99 x100 x101 x102 : AV) (H : Hp) : Res := CXf 157 172 (sub (bodyOf Tryz.f157) [1, 1, 1, 1, 1, 1, 1, 1, 1, 1, 1, 0, 1, 0, 0, 1, 1]) (seqL (fun k al H => LPf 157 172 (sub (bodyOf Tryz.f157) [1, 1, 1, 1, 1, 1, 1, 1, 1, 1, 1, 0, 1, 0, 0]) k (trimL (cfg.keep 157) (sub (bodyOf Tryz.f157) [1, 1, 1, 1, 1, 1, 1, 1, 1, 1, 1, 0, 1, 0, 0]) al) H) (blockL 3 (k157_1 H0))) [(1, x1), (8, x8), (9, x9), (10, x10), (11, x11), (12, x12), (13, x13), (99, x99), (100, x100), (101, x101), (102, x102)] H
noncomputable def j157_l1 (H0 : Hp) (x1 x8 x9 x10 x11 x12 x13 x99 x100 x101 : AV) (H : Hp) : Res := LPf 157 172 (sub (bodyOf Tryz.f157) [1, 1, 1, 1, 1, 1, 1, 1, 1, 1, 1, 0, 1, 0, 0]) (blockL 3 (k157_1 H0)) [(1, x1), (8, x8), (9, x9), (10, x10), (11, x11), (12, x12), (13, x13), (99, x99), (100, x100), (101, x101)] H
noncomputable def j157_4 (H0 : Hp) (x0 x1 x2 x8 x9 x10 : AV) (H : Hp) : Res := CXf 157 172 (sub (bodyOf Tryz.f157) [1, 1, 1, 1, 1, 1, 1, 1]) (retL cfg 172 157 Tryz.f157 H0) [(0, x0), (1, x1), (2, x2), (8, x8), (9, x9), (10, x10)] H
noncomputable def j157_3 (H0 : Hp) (x0 x1 x2 x8 x9 : AV) (H : Hp) : Res := CXf 157 172 (sub (bodyOf Tryz.f157) [1, 1, 1, 1, 1, 1]) (retL cfg 172 157 Tryz.f157 H0) [(0, x0), (1, x1), (2, x2), (8, x8), (9, x9)] H
noncomputable def j157_2 (H0 : Hp) (x0 x1 x2 x8 x9 : AV) (H : Hp) : Res := CXf 157 172 (sub (bodyOf Tryz.f157) [1, 1, 1, 1, 1]) (retL cfg 172 157 Tryz.f157 H0) [(0, x0), (1, x1), (2, x2), (8, x8), (9, x9)] H
noncomputable def j157_1 (H0 : Hp) (x0 x1 x2 : AV) (H : Hp) : Res := CXf 157 172 (sub (bodyOf Tryz.f157) [1, 1]) (retL cfg 172 157 Tryz.f157 H0) [(0, x0), (1, x1), (2, x2)] H
noncomputable def b157_6 (x13 : AV) (H : Hp) : Res :=
  some ((.tuple [x13, .nili]), H)
theorem e157_6 (H0 : Hp) (x13 : AV) (H : Hp) : j157_6 H0 x13 H = b157_6 x13 H := (CXM_eq [3, 21, 25, 32, 37, 46, 48, 50, 54, 55, 56, 58] _ _ _ _).trans (by kernel_rfl)
theorem m157_6 : L1 (b157_6) (b157_6) := fun _ _ =>
  le_refl _
noncomputable def b157_5 (c161 : A1) (j157_6 : A1) (x9 x12 x13 : AV) (H : Hp) : Res :=
  bnd (gdv x12 true (.tuple []) (some x9)) fun t166_5 =>
  bnd (gdv x12 true ((.tuple []), H) (c161 t166_5 H)) fun r167_6 =>
  bnd (gdv x12 true (.tuple []) (aun .not r167_6.1)) fun t168_7 =>
  bnd (apick x12 t168_7 (.bool false)) fun t169_8 =>
  cnd t169_8
    (bnd ((none : Option AV)) fun t170_9 =>
    some ((.tuple [(.int .u64 0), t170_9]), r167_6.2))
    (j157_6 x13 r167_6.2)
theorem e157_5 (H0 : Hp) (x9 x12 x13 : AV) (H : Hp) : j157_5 H0 x9 x12 x13 H = b157_5 c161 (j157_6 H0) x9 x12 x13 H := (CXM_eq [3, 21, 25, 32, 37, 46, 48, 50, 54, 55, 56, 58] _ _ _ _).trans (by kernel_rfl)
theorem m157_5 {c161 dc161 : A1} (hc161 : L1 c161 dc161) {j157_6 dj157_6 : A1} (hj157_6 : L1 j157_6 dj157_6) : L3 (b157_5 c161 j157_6) (b157_5 dc161 dj157_6) := fun _ _ _ _ =>
  bR fun _ => bG (hc161 _ _) fun _ => bR fun _ => bR fun _ => bK (bR fun _ => le_refl _) (hj157_6 _ _)
noncomputable def b157_8 (j157_l1 : A10) (x1 x8 x9 x10 x11 x12 x13 x99 x100 x101 : AV) (H : Hp) : Res :=
  bnd (ibin .add x101 (.int .i64 1)) fun t163_13 =>
  j157_l1 x1 x8 x9 x10 x11 x12 x13 x99 x100 t163_13 H
theorem e157_8 (H0 : Hp) (x1 x8 x9 x10 x11 x12 x13 x99 x100 x101 : AV) (H : Hp) : j157_8 H0 x1 x8 x9 x10 x11 x12 x13 x99 x100 x101 H = b157_8 (j157_l1 H0) x1 x8 x9 x10 x11 x12 x13 x99 x100 x101 H := (CXM_eq [3, 21, 25, 32, 37, 46, 48, 50, 54, 55, 56, 58] _ _ _ _).trans (by kernel_rfl)
theorem m157_8 {j157_l1 dj157_l1 : A10} (hj157_l1 : L10 j157_l1 dj157_l1) : L10 (b157_8 j157_l1) (b157_8 dj157_l1) := fun _ _ _ _ _ _ _ _ _ _ _ =>
  bR fun _ => hj157_l1 _ _ _ _ _ _ _ _ _ _ _
noncomputable def b157_12 (j157_8 : A10) (x1 x8 x9 x10 x11 x12 x17 x99 x100 x101 : AV) (H : Hp) : Res :=
  j157_8 x1 x8 x9 x10 x11 x12 x17 x99 x100 x101 H
theorem e157_12 (H0 : Hp) (x1 x8 x9 x10 x11 x12 x17 x99 x100 x101 : AV) (H : Hp) : j157_12 H0 x1 x8 x9 x10 x11 x12 x17 x99 x100 x101 H = b157_12 (j157_8 H0) x1 x8 x9 x10 x11 x12 x17 x99 x100 x101 H := (CXM_eq [3, 21, 25, 32, 37, 46, 48, 50, 54, 55, 56, 58] _ _ _ _).trans (by kernel_rfl)
theorem m157_12 {j157_8 dj157_8 : A10} (hj157_8 : L10 j157_8 dj157_8) : L10 (b157_12 j157_8) (b157_12 dj157_8) := fun _ _ _ _ _ _ _ _ _ _ _ =>
  hj157_8 _ _ _ _ _ _ _ _ _ _ _
noncomputable def b157_11 (j157_12 : A10) (x1 x8 x9 x10 x11 x12 x13 x16 x99 x100 x101 : AV) (H : Hp) : Res :=
  bnd (cvInt .u64 x1) fun t146_16 =>
  bnd (ibin .mul x13 t146_16) fun t147_17 =>
  bnd (cvInt .u64 x16) fun t150_18 =>
  bnd (ibin .add t147_17 t150_18) fun t151_19 =>
  bnd (ibin .lss t151_19 t147_17) fun t154_20 =>
  bnd (gdv t154_20 false (.tuple []) (some t151_19)) fun t156_21 =>
  bnd (gdv t154_20 false (.tuple []) (some x11)) fun t157_22 =>
  bnd (gdv t154_20 false (.tuple []) (ibin .gtr t156_21 t157_22)) fun t158_23 =>
  bnd (apick t154_20 (.bool true) t158_23) fun t159_24 =>
  cnd t159_24
    (bnd ((none : Option AV)) fun t161_25 =>
    some ((.tuple [x11, t161_25]), H))
    (j157_12 x1 x8 x9 x10 x11 x12 t151_19 x99 x100 x101 H)
theorem e157_11 (H0 : Hp) (x1 x8 x9 x10 x11 x12 x13 x16 x99 x100 x101 : AV) (H : Hp) : j157_11 H0 x1 x8 x9 x10 x11 x12 x13 x16 x99 x100 x101 H = b157_11 (j157_12 H0) x1 x8 x9 x10 x11 x12 x13 x16 x99 x100 x101 H := (CXM_eq [3, 21, 25, 32, 37, 46, 48, 50, 54, 55, 56, 58] _ _ _ _).trans (by kernel_rfl)
theorem m157_11 {j157_12 dj157_12 : A10} (hj157_12 : L10 j157_12 dj157_12) : L11 (b157_11 j157_12) (b157_11 dj157_12) := fun _ _ _ _ _ _ _ _ _ _ _ _ =>
  bR fun _ => bR fun _ => bR fun _ => bR fun _ => bR fun _ => bR fun _ => bR fun _ => bR fun _ => bR fun _ => bK (bR fun _ => le_refl _) (hj157_12 _ _ _ _ _ _ _ _ _ _ _)
noncomputable def b157_10 (j157_11 : A11) (x1 x8 x9 x10 x11 x12 x13 x16 x99 x100 x101 : AV) (H : Hp) : Res :=
  bnd (ibin .geq x13 x10) fun t141_26 =>
  cnd t141_26
    (bnd ((none : Option AV)) fun t143_27 =>
    some ((.tuple [x11, t143_27]), H))
    (j157_11 x1 x8 x9 x10 x11 x12 x13 x16 x99 x100 x101 H)
theorem e157_10 (H0 : Hp) (x1 x8 x9 x10 x11 x12 x13 x16 x99 x100 x101 : AV) (H : Hp) : j157_10 H0 x1 x8 x9 x10 x11 x12 x13 x16 x99 x100 x101 H = b157_10 (j157_11 H0) x1 x8 x9 x10 x11 x12 x13 x16 x99 x100 x101 H := (CXM_eq [3, 21, 25, 32, 37, 46, 48, 50, 54, 55, 56, 58] _ _ _ _).trans (by kernel_rfl)
theorem m157_10 {j157_11 dj157_11 : A11} (hj157_11 : L11 j157_11 dj157_11) : L11 (b157_10 j157_11) (b157_10 dj157_11) := fun _ _ _ _ _ _ _ _ _ _ _ _ =>
  bR fun _ => bK (bR fun _ => le_refl _) (hj157_11 _ _ _ _ _ _ _ _ _ _ _ _)
noncomputable def b157_9 (j157_10 : A11) (x1 x8 x9 x10 x11 x12 x13 x16 x99 x100 x101 : AV) (H : Hp) : Res :=
  bnd (cvInt .u8 x1) fun t136_28 =>
  bnd (ibin .geq x16 t136_28) fun t137_29 =>
  cnd t137_29
    (bnd ((none : Option AV)) fun t138_30 =>
    some ((.tuple [(.int .u64 0), t138_30]), H))
    (j157_10 x1 x8 x9 x10 x11 x12 x13 x16 x99 x100 x101 H)
theorem e157_9 (H0 : Hp) (x1 x8 x9 x10 x11 x12 x13 x16 x99 x100 x101 : AV) (H : Hp) : j157_9 H0 x1 x8 x9 x10 x11 x12 x13 x16 x99 x100 x101 H = b157_9 (j157_10 H0) x1 x8 x9 x10 x11 x12 x13 x16 x99 x100 x101 H := (CXM_eq [3, 21, 25, 32, 37, 46, 48, 50, 54, 55, 56, 58] _ _ _ _).trans (by kernel_rfl)
theorem m157_9 {j157_10 dj157_10 : A11} (hj157_10 : L11 j157_10 dj157_10) : L11 (b157_9 j157_10) (b157_9 dj157_10) := fun _ _ _ _ _ _ _ _ _ _ _ _ =>
  bR fun _ => bR fun _ => bK (bR fun _ => le_refl _) (hj157_10 _ _ _ _ _ _ _ _ _ _ _ _)
noncomputable def b157_7 (c160 : A1) (j157_8 : A10) (j157_9 : A11) (x1 x8 x9 x10 x11 x12 x13 x99 x100 x101 x102 : AV) (H : Hp) : Res :=
  bnd (aindexS 1 x99 x101) fun t103_14 =>
  bnd (aload false 1 t103_14 H) fun t104_15 =>
  bnd (ibin .eql t104_15 (.int .u8 95)) fun t108_31 =>
  bnd (gdv t108_31 true (.tuple []) (some x8)) fun t110_32 =>
  bnd (apick t108_31 t110_32 (.bool false)) fun t111_33 =>
  cnd t111_33
    (j157_8 x1 x8 x9 x10 x11 (.bool true) x13 x99 x100 x101 H)
    (bnd (ibin .leq (.int .u8 48) t104_15) fun t114_34 =>
    bnd (gdv t114_34 true (.tuple []) (some t104_15)) fun t116_35 =>
    bnd (gdv t114_34 true (.tuple []) (ibin .leq t116_35 (.int .u8 57))) fun t117_36 =>
    bnd (apick t114_34 t117_36 (.bool false)) fun t118_37 =>
    cnd t118_37
      (bnd (ibin .sub t104_15 (.int .u8 48)) fun t120_38 =>
      j157_9 x1 x8 x9 x10 x11 x12 x13 t120_38 x99 x100 x101 H)
      (bnd (c160 t104_15 H) fun r123_39 =>
      bnd (ibin .leq (.int .u8 97) r123_39.1) fun t124_40 =>
      bnd (gdv t124_40 true (.tuple []) (some t104_15)) fun t126_41 =>
      bnd (gdv t124_40 true ((.tuple []), r123_39.2) (c160 t126_41 r123_39.2)) fun r127_42 =>
      bnd (gdv t124_40 true (.tuple []) (ibin .leq r127_42.1 (.int .u8 122))) fun t128_43 =>
      bnd (apick t124_40 t128_43 (.bool false)) fun t129_44 =>
      cnd t129_44
        (bnd (c160 t104_15 r127_42.2) fun r131_45 =>
        bnd (ibin .sub r131_45.1 (.int .u8 97)) fun t132_46 =>
        bnd (ibin .add t132_46 (.int .u8 10)) fun t133_47 =>
        j157_9 x1 x8 x9 x10 x11 x12 x13 t133_47 x99 x100 x101 r131_45.2)
        (bnd ((none : Option AV)) fun t105_48 =>
        some ((.tuple [(.int .u64 0), t105_48]), r127_42.2))))
theorem e157_7 (H0 : Hp) (x1 x8 x9 x10 x11 x12 x13 x99 x100 x101 x102 : AV) (H : Hp) : j157_7 H0 x1 x8 x9 x10 x11 x12 x13 x99 x100 x101 x102 H = b157_7 c160 (j157_8 H0) (j157_9 H0) x1 x8 x9 x10 x11 x12 x13 x99 x100 x101 x102 H := (CXM_eq [3, 21, 25, 32, 37, 46, 48, 50, 54, 55, 56, 58] _ _ _ _).trans (by kernel_rfl)
theorem m157_7 {c160 dc160 : A1} (hc160 : L1 c160 dc160) {j157_8 dj157_8 : A10} (hj157_8 : L10 j157_8 dj157_8) {j157_9 dj157_9 : A11} (hj157_9 : L11 j157_9 dj157_9) : L11 (b157_7 c160 j157_8 j157_9) (b157_7 dc160 dj157_8 dj157_9) := fun _ _ _ _ _ _ _ _ _ _ _ _ =>
  bR fun _ => bR fun _ => bR fun _ => bR fun _ => bR fun _ => bK (hj157_8 _ _ _ _ _ _ _ _ _ _ _) (bR fun _ => bR fun _ => bR fun _ => bR fun _ => bK (bR fun _ => hj157_9 _ _ _ _ _ _ _ _ _ _ _ _) (bC (hc160 _ _) fun _ => bR fun _ => bR fun _ => bG (hc160 _ _) fun _ => bR fun _ => bR fun _ => bK (bC (hc160 _ _) fun _ => bR fun _ => bR fun _ => hj157_9 _ _ _ _ _ _ _ _ _ _ _ _) (bR fun _ => le_refl _)))
noncomputable def b157_l1 (j157_5 : A3) (j157_7 : A11) (x1 x8 x9 x10 x11 x12 x13 x99 x100 x101 : AV) (H : Hp) : Res :=
  bnd (ibin .lss x101 x100) fun t102_12 =>
  cnd t102_12
    (j157_7 x1 x8 x9 x10 x11 x12 x13 x99 x100 x101 t102_12 H)
    (j157_5 x9 x12 x13 H)
theorem e157_l1 (H0 : Hp) (x1 x8 x9 x10 x11 x12 x13 x99 x100 x101 : AV) (H : Hp) : j157_l1 H0 x1 x8 x9 x10 x11 x12 x13 x99 x100 x101 H = b157_l1 (j157_5 H0) (j157_7 H0) x1 x8 x9 x10 x11 x12 x13 x99 x100 x101 H := (LPL_eqm (C := cfg) [3, 21, 25, 32, 37, 46, 48, 50, 54, 55, 56, 58] (tame_block 3 (k157_1_tame H0)) _ _).trans (by kernel_rfl)
theorem m157_l1 {j157_5 dj157_5 : A3} (hj157_5 : L3 j157_5 dj157_5) {j157_7 dj157_7 : A11} (hj157_7 : L11 j157_7 dj157_7) : L10 (b157_l1 j157_5 j157_7) (b157_l1 dj157_5 dj157_7) := fun _ _ _ _ _ _ _ _ _ _ _ =>
  bR fun _ => bK (hj157_7 _ _ _ _ _ _ _ _ _ _ _ _) (hj157_5 _ _ _ _)
noncomputable def b157_4 (j157_l1 : A10) (x0 x1 x2 x8 x9 x10 : AV) (H : Hp) : Res :=
  bnd (cvInt .u64 x2) fun t95_2 =>
  bnd (ibin .shl (.int .u64 1) t95_2) fun t96_3 =>
  bnd (ibin .sub t96_3 (.int .u64 1)) fun t97_4 =>
  bnd (cvToBytes x0) fun t99_10 =>
  bnd (alenD (.slice 5) t99_10) fun t100_11 =>
  j157_l1 x1 x8 x9 x10 t97_4 (.bool false) (.int .u64 0) t99_10 t100_11 (.int .i64 0) H
theorem e157_4 (H0 : Hp) (x0 x1 x2 x8 x9 x10 : AV) (H : Hp) : j157_4 H0 x0 x1 x2 x8 x9 x10 H = b157_4 (j157_l1 H0) x0 x1 x2 x8 x9 x10 H := (CXM_eq [3, 21, 25, 32, 37, 46, 48, 50, 54, 55, 56, 58] _ _ _ _).trans (by kernel_rfl)
theorem m157_4 {j157_l1 dj157_l1 : A10} (hj157_l1 : L10 j157_l1 dj157_l1) : L6 (b157_4 j157_l1) (b157_4 dj157_l1) := fun _ _ _ _ _ _ _ =>
  bR fun _ => bR fun _ => bR fun _ => bR fun _ => bR fun _ => hj157_l1 _ _ _ _ _ _ _ _ _ _ _
noncomputable def b157_3 (j157_4 : A6) (x0 x1 x2 x8 x9 : AV) (H : Hp) : Res :=
  bnd (ibin .eql x1 (.int .i64 10)) fun t91_49 =>
  cnd t91_49
    (j157_4 x0 x1 x2 x8 x9 (.int .u64 1844674407370955162) H)
    (bnd (ibin .eql x1 (.int .i64 16)) fun t93_50 =>
    cnd t93_50
      (j157_4 x0 x1 x2 x8 x9 (.int .u64 1152921504606846976) H)
      (bnd (cvInt .u64 x1) fun t87_51 =>
      bnd (ibin .quo (.int .u64 18446744073709551615) t87_51) fun t88_52 =>
      bnd (ibin .add t88_52 (.int .u64 1)) fun t89_53 =>
      j157_4 x0 x1 x2 x8 x9 t89_53 H))
theorem e157_3 (H0 : Hp) (x0 x1 x2 x8 x9 : AV) (H : Hp) : j157_3 H0 x0 x1 x2 x8 x9 H = b157_3 (j157_4 H0) x0 x1 x2 x8 x9 H := (CXM_eq [3, 21, 25, 32, 37, 46, 48, 50, 54, 55, 56, 58] _ _ _ _).trans (by kernel_rfl)
theorem m157_3 {j157_4 dj157_4 : A6} (hj157_4 : L6 j157_4 dj157_4) : L5 (b157_3 j157_4) (b157_3 dj157_4) := fun _ _ _ _ _ _ =>
  bR fun _ => bK (hj157_4 _ _ _ _ _ _ _) (bR fun _ => bK (hj157_4 _ _ _ _ _ _ _) (bR fun _ => bR fun _ => bR fun _ => hj157_4 _ _ _ _ _ _ _))
noncomputable def b157_2 (j157_3 : A5) (x0 x1 x2 x8 x9 : AV) (H : Hp) : Res :=
  bnd (ibin .eql x2 (.int .i64 0)) fun t77_54 =>
  cnd t77_54
    (j157_3 x0 x1 (.int .i64 64) x8 x9 H)
    (bnd (ibin .lss x2 (.int .i64 0)) fun t79_55 =>
    bnd (gdv t79_55 false (.tuple []) (some x2)) fun t81_56 =>
    bnd (gdv t79_55 false (.tuple []) (ibin .gtr t81_56 (.int .i64 64))) fun t82_57 =>
    bnd (apick t79_55 (.bool true) t82_57) fun t83_58 =>
    cnd t83_58
      (bnd ((none : Option AV)) fun t84_59 =>
      some ((.tuple [(.int .u64 0), t84_59]), H))
      (j157_3 x0 x1 x2 x8 x9 H))
theorem e157_2 (H0 : Hp) (x0 x1 x2 x8 x9 : AV) (H : Hp) : j157_2 H0 x0 x1 x2 x8 x9 H = b157_2 (j157_3 H0) x0 x1 x2 x8 x9 H := (CXM_eq [3, 21, 25, 32, 37, 46, 48, 50, 54, 55, 56, 58] _ _ _ _).trans (by kernel_rfl)
theorem m157_2 {j157_3 dj157_3 : A5} (hj157_3 : L5 j157_3 dj157_3) : L5 (b157_2 j157_3) (b157_2 dj157_3) := fun _ _ _ _ _ _ =>
  bR fun _ => bK (hj157_3 _ _ _ _ _ _) (bR fun _ => bR fun _ => bR fun _ => bR fun _ => bK (bR fun _ => le_refl _) (hj157_3 _ _ _ _ _ _))
noncomputable def b157_1 (c160 : A1) (j157_2 : A5) (x0 x1 x2 : AV) (H : Hp) : Res :=
  bnd (ibin .eql x1 (.int .i64 0)) fun t22_1 =>
  bnd (ibin .leq (.int .i64 2) x1) fun t27_60 =>
  bnd (gdv t27_60 true (.tuple []) (some x1)) fun t29_61 =>
  bnd (gdv t27_60 true (.tuple []) (ibin .leq t29_61 (.int .i64 36))) fun t30_62 =>
  bnd (apick t27_60 t30_62 (.bool false)) fun t31_63 =>
  cnd t31_63
    (j157_2 x0 x1 x2 t22_1 x0 H)
    (bnd (ibin .eql x1 (.int .i64 0)) fun t34_64 =>
    cnd t34_64
      (bnd (aindexStr x0 (.int .i64 0)) fun t36_65 =>
      bnd (ibin .eql t36_65 (.int .u8 48)) fun t37_66 =>
      cnd t37_66
        (bnd (alenD .string x0) fun t42_67 =>
        bnd (ibin .geq t42_67 (.int .i64 3)) fun t43_68 =>
        bnd (gdv t43_68 true (.tuple []) (some x0)) fun t45_69 =>
        bnd (gdv t43_68 true (.tuple []) (aindexStr t45_69 (.int .i64 1))) fun t46_70 =>
        bnd (gdv t43_68 true ((.tuple []), H) (c160 t46_70 H)) fun r47_71 =>
        bnd (gdv t43_68 true (.tuple []) (ibin .eql r47_71.1 (.int .u8 98))) fun t48_72 =>
        bnd (apick t43_68 t48_72 (.bool false)) fun t49_73 =>
        cnd t49_73
          (bnd (asliceS x0 (some (.int .i64 2)) none none) fun t51_74 =>
          j157_2 t51_74 (.int .i64 2) x2 t22_1 x0 r47_71.2)
          (bnd (alenD .string x0) fun t54_75 =>
          bnd (ibin .geq t54_75 (.int .i64 3)) fun t55_76 =>
          bnd (gdv t55_76 true (.tuple []) (some x0)) fun t57_77 =>
          bnd (gdv t55_76 true (.tuple []) (aindexStr t57_77 (.int .i64 1))) fun t58_78 =>
          bnd (gdv t55_76 true ((.tuple []), r47_71.2) (c160 t58_78 r47_71.2)) fun r59_79 =>
          bnd (gdv t55_76 true (.tuple []) (ibin .eql r59_79.1 (.int .u8 111))) fun t60_80 =>
          bnd (apick t55_76 t60_80 (.bool false)) fun t61_81 =>
          cnd t61_81
            (bnd (asliceS x0 (some (.int .i64 2)) none none) fun t63_82 =>
            j157_2 t63_82 (.int .i64 8) x2 t22_1 x0 r59_79.2)
            (bnd (alenD .string x0) fun t66_83 =>
            bnd (ibin .geq t66_83 (.int .i64 3)) fun t67_84 =>
            bnd (gdv t67_84 true (.tuple []) (some x0)) fun t69_85 =>
            bnd (gdv t67_84 true (.tuple []) (aindexStr t69_85 (.int .i64 1))) fun t70_86 =>
            bnd (gdv t67_84 true ((.tuple []), r59_79.2) (c160 t70_86 r59_79.2)) fun r71_87 =>
            bnd (gdv t67_84 true (.tuple []) (ibin .eql r71_87.1 (.int .u8 120))) fun t72_88 =>
            bnd (apick t67_84 t72_88 (.bool false)) fun t73_89 =>
            cnd t73_89
              (bnd (asliceS x0 (some (.int .i64 2)) none none) fun t75_90 =>
              j157_2 t75_90 (.int .i64 16) x2 t22_1 x0 r71_87.2)
              (bnd (asliceS x0 (some (.int .i64 1)) none none) fun t39_91 =>
              j157_2 t39_91 (.int .i64 8) x2 t22_1 x0 r71_87.2))))
        (j157_2 x0 (.int .i64 10) x2 t22_1 x0 H))
      (bnd ((none : Option AV)) fun t24_92 =>
      some ((.tuple [(.int .u64 0), t24_92]), H)))
theorem e157_1 (H0 : Hp) (x0 x1 x2 : AV) (H : Hp) : j157_1 H0 x0 x1 x2 H = b157_1 c160 (j157_2 H0) x0 x1 x2 H := (CXM_eq [3, 21, 25, 32, 37, 46, 48, 50, 54, 55, 56, 58] _ _ _ _).trans (by kernel_rfl)
theorem m157_1 {c160 dc160 : A1} (hc160 : L1 c160 dc160) {j157_2 dj157_2 : A5} (hj157_2 : L5 j157_2 dj157_2) : L3 (b157_1 c160 j157_2) (b157_1 dc160 dj157_2) := fun _ _ _ _ =>
  bR fun _ => bR fun _ => bR fun _ => bR fun _ => bR fun _ => bK (hj157_2 _ _ _ _ _ _) (bR fun _ => bK (bR fun _ => bR fun _ => bK (bR fun _ => bR fun _ => bR fun _ => bR fun _ => bG (hc160 _ _) fun _ => bR fun _ => bR fun _ => bK (bR fun _ => hj157_2 _ _ _ _ _ _) (bR fun _ => bR fun _ => bR fun _ => bR fun _ => bG (hc160 _ _) fun _ => bR fun _ => bR fun _ => bK (bR fun _ => hj157_2 _ _ _ _ _ _) (bR fun _ => bR fun _ => bR fun _ => bR fun _ => bG (hc160 _ _) fun _ => bR fun _ => bR fun _ => bK (bR fun _ => hj157_2 _ _ _ _ _ _) (bR fun _ => hj157_2 _ _ _ _ _ _)))) (hj157_2 _ _ _ _ _ _)) (bR fun _ => le_refl _))
noncomputable def rj157_6 : A1 := b157_6
theorem sj157_6 (H0 : Hp) : L1 (rj157_6) (j157_6 H0) := fun _ _ => le_eq (m157_6 _ _) (e157_6 H0 _ _)
noncomputable def rj157_5 : A3 := b157_5 rc161 (rj157_6)
theorem sj157_5 (H0 : Hp) : L3 (rj157_5) (j157_5 H0) := fun _ _ _ _ => le_eq (m157_5 sc161 (sj157_6 H0) _ _ _ _) (e157_5 H0 _ _ _ _)
noncomputable def rj157_8 (j157_l1 : A10) : A10 := b157_8 j157_l1
theorem sj157_8 (H0 : Hp) {yj157_l1 : A10} (hj157_l1 : L10 yj157_l1 (j157_l1 H0)) : L10 (rj157_8 yj157_l1) (j157_8 H0) := fun _ _ _ _ _ _ _ _ _ _ _ => le_eq (m157_8 hj157_l1 _ _ _ _ _ _ _ _ _ _ _) (e157_8 H0 _ _ _ _ _ _ _ _ _ _ _)
noncomputable def rj157_12 (j157_l1 : A10) : A10 := b157_12 (rj157_8 j157_l1)
theorem sj157_12 (H0 : Hp) {yj157_l1 : A10} (hj157_l1 : L10 yj157_l1 (j157_l1 H0)) : L10 (rj157_12 yj157_l1) (j157_12 H0) := fun _ _ _ _ _ _ _ _ _ _ _ => le_eq (m157_12 (sj157_8 H0 hj157_l1) _ _ _ _ _ _ _ _ _ _ _) (e157_12 H0 _ _ _ _ _ _ _ _ _ _ _)
noncomputable def rj157_11 (j157_l1 : A10) : A11 := b157_11 (rj157_12 j157_l1)
theorem sj157_11 (H0 : Hp) {yj157_l1 : A10} (hj157_l1 : L10 yj157_l1 (j157_l1 H0)) : L11 (rj157_11 yj157_l1) (j157_11 H0) := fun _ _ _ _ _ _ _ _ _ _ _ _ => le_eq (m157_11 (sj157_12 H0 hj157_l1) _ _ _ _ _ _ _ _ _ _ _ _) (e157_11 H0 _ _ _ _ _ _ _ _ _ _ _ _)
noncomputable def rj157_10 (j157_l1 : A10) : A11 := b157_10 (rj157_11 j157_l1)
theorem sj157_10 (H0 : Hp) {yj157_l1 : A10} (hj157_l1 : L10 yj157_l1 (j157_l1 H0)) : L11 (rj157_10 yj157_l1) (j157_10 H0) := fun _ _ _ _ _ _ _ _ _ _ _ _ => le_eq (m157_10 (sj157_11 H0 hj157_l1) _ _ _ _ _ _ _ _ _ _ _ _) (e157_10 H0 _ _ _ _ _ _ _ _ _ _ _ _)
noncomputable def rj157_9 (j157_l1 : A10) : A11 := b157_9 (rj157_10 j157_l1)
theorem sj157_9 (H0 : Hp) {yj157_l1 : A10} (hj157_l1 : L10 yj157_l1 (j157_l1 H0)) : L11 (rj157_9 yj157_l1) (j157_9 H0) := fun _ _ _ _ _ _ _ _ _ _ _ _ => le_eq (m157_9 (sj157_10 H0 hj157_l1) _ _ _ _ _ _ _ _ _ _ _ _) (e157_9 H0 _ _ _ _ _ _ _ _ _ _ _ _)
noncomputable def rj157_7 (j157_l1 : A10) : A11 := b157_7 rc160 (rj157_8 j157_l1) (rj157_9 j157_l1)
theorem sj157_7 (H0 : Hp) {yj157_l1 : A10} (hj157_l1 : L10 yj157_l1 (j157_l1 H0)) : L11 (rj157_7 yj157_l1) (j157_7 H0) := fun _ _ _ _ _ _ _ _ _ _ _ _ => le_eq (m157_7 sc160 (sj157_8 H0 hj157_l1) (sj157_9 H0 hj157_l1) _ _ _ _ _ _ _ _ _ _ _ _) (e157_7 H0 _ _ _ _ _ _ _ _ _ _ _ _)
noncomputable def rj157_l1 (n : Nat) : A10 := @Nat.rec (fun _ => A10) (fun _ _ _ _ _ _ _ _ _ _ _ => none) (fun _ j157_l1 => b157_l1 (rj157_5) (rj157_7 j157_l1)) n
theorem sj157_l1 (H0 : Hp) (n : Nat) : L10 (rj157_l1 n) (j157_l1 H0) := by
  induction n with
  | zero => exact fun _ _ _ _ _ _ _ _ _ _ _ => le_none _
  | succ n hj157_l1 => exact fun _ _ _ _ _ _ _ _ _ _ _ => le_eq (m157_l1 (sj157_5 H0) (sj157_7 H0 hj157_l1) _ _ _ _ _ _ _ _ _ _ _) (e157_l1 H0 _ _ _ _ _ _ _ _ _ _ _)
noncomputable def rj157_4 : A6 := b157_4 (rj157_l1 100000)
theorem sj157_4 (H0 : Hp) : L6 (rj157_4) (j157_4 H0) := fun _ _ _ _ _ _ _ => le_eq (m157_4 (sj157_l1 H0 100000) _ _ _ _ _ _ _) (e157_4 H0 _ _ _ _ _ _ _)
noncomputable def rj157_3 : A5 := b157_3 (rj157_4)
theorem sj157_3 (H0 : Hp) : L5 (rj157_3) (j157_3 H0) := fun _ _ _ _ _ _ => le_eq (m157_3 (sj157_4 H0) _ _ _ _ _ _) (e157_3 H0 _ _ _ _ _ _)
noncomputable def rj157_2 : A5 := b157_2 (rj157_3)
theorem sj157_2 (H0 : Hp) : L5 (rj157_2) (j157_2 H0) := fun _ _ _ _ _ _ => le_eq (m157_2 (sj157_3 H0) _ _ _ _ _ _) (e157_2 H0 _ _ _ _ _ _)
noncomputable def rj157_1 : A3 := b157_1 rc160 (rj157_2)
theorem sj157_1 (H0 : Hp) : L3 (rj157_1) (j157_1 H0) := fun _ _ _ _ => le_eq (m157_1 sc160 (sj157_2 H0) _ _ _ _) (e157_1 H0 _ _ _ _)
noncomputable def bc157 (j157_1 : A3) (p0 p1 p2 : AV) (H : Hp) : Res :=
  bnd (sbin .eql p0 (.str [])) fun t19_93 =>
  cnd t19_93
    (bnd ((none : Option AV)) fun t20_94 =>
    some ((.tuple [(.int .u64 0), t20_94]), H))
    (j157_1 p0 p1 p2 H)
theorem ec157 (p0 p1 p2 : AV) (H : Hp) : c157 p0 p1 p2 H = bc157 (j157_1 H) p0 p1 p2 H := (callw_cxm (C := cfg) (fn := Tryz.f157) (c := bodyOf Tryz.f157) (n := 172) [3, 21, 25, 32, 37, 46, 48, 50, 54, 55, 56, 58] Tryz.func157 (by kernel_rfl) (by kernel_rfl) [p0, p1, p2] (by kernel_rfl) H).trans (by kernel_rfl)
theorem mc157 {j157_1 dj157_1 : A3} (hj157_1 : L3 j157_1 dj157_1) : L3 (bc157 j157_1) (bc157 dj157_1) := fun _ _ _ _ =>
  bR fun _ => bK (bR fun _ => le_refl _) (hj157_1 _ _ _ _)
noncomputable def rc157 : A3 := fun p0 p1 p2 H => bc157 (rj157_1) p0 p1 p2 H
theorem sc157 : L3 rc157 c157 := fun _ _ _ H => le_eq (mc157 (sj157_1 H) _ _ _ _) (ec157 _ _ _ _)

/-! internal_strconv_ParseInt -/
noncomputable def c152 (p0 p1 p2 : AV) (H : Hp) : Res := callw cfg 152 [p0, p1, p2] H
noncomputable def j152_7 (H0 : Hp) (x11 : AV) (H : Hp) : Res := CXf 152 73 (sub (bodyOf Tryz.f152) [1, 1, 1, 1, 1, 1, 1, 1, 1, 1, 1, 1, 1]) (retL cfg 73 152 Tryz.f152 H0) [(11, x11)] H
noncomputable def j152_6 (H0 : Hp) (x8 x9 : AV) (H : Hp) : Res := CXf 152 73 (sub (bodyOf Tryz.f152) [1, 1, 1, 1, 1, 1, 1, 1, 1, 1, 1]) (retL cfg 73 152 Tryz.f152 H0) [(8, x8), (9, x9)] H
noncomputable def j152_5 (H0 : Hp) (x8 x9 x10 : AV) (H : Hp) : Res := CXf 152 73 (sub (bodyOf Tryz.f152) [1, 1, 1, 1, 1, 1, 1, 1, 1, 1]) (retL cfg 73 152 Tryz.f152 H0) [(8, x8), (9, x9), (10, x10)] H
noncomputable def j152_4 (H0 : Hp) (x2 x8 x9 : AV) (H : Hp) : Res := CXf 152 73 (sub (bodyOf Tryz.f152) [1, 1, 1, 1, 1, 1, 1, 1]) (retL cfg 73 152 Tryz.f152 H0) [(2, x2), (8, x8), (9, x9)] H
noncomputable def j152_3 (H0 : Hp) (x2 x8 x9 : AV) (H : Hp) : Res := CXf 152 73 (sub (bodyOf Tryz.f152) [1, 1, 1, 1, 1, 1, 1]) (retL cfg 73 152 Tryz.f152 H0) [(2, x2), (8, x8), (9, x9)] H
noncomputable def j152_2 (H0 : Hp) (x0 x1 x2 x8 : AV) (H : Hp) : Res := CXf 152 73 (sub (bodyOf Tryz.f152) [1, 1, 1, 1]) (retL cfg 73 152 Tryz.f152 H0) [(0, x0), (1, x1), (2, x2), (8, x8)] H
noncomputable def j152_1 (H0 : Hp) (x0 x1 x2 : AV) (H : Hp) : Res := CXf 152 73 (sub (bodyOf Tryz.f152) [1, 1]) (retL cfg 73 152 Tryz.f152 H0) [(0, x0), (1, x1), (2, x2)] H
noncomputable def b152_7 (x11 : AV) (H : Hp) : Res :=
  some ((.tuple [x11, .nili]), H)
theorem e152_7 (H0 : Hp) (x11 : AV) (H : Hp) : j152_7 H0 x11 H = b152_7 x11 H := (CXM_eq [3, 10, 14, 16, 19, 21, 24] _ _ _ _).trans (by kernel_rfl)
theorem m152_7 : L1 (b152_7) (b152_7) := fun _ _ =>
  le_refl _
noncomputable def b152_6 (j152_7 : A1) (x8 x9 : AV) (H : Hp) : Res :=
  bnd (cvInt .i64 x9) fun t68_7 =>
  cnd x8
    (bnd (aun .neg t68_7) fun t71_8 =>
    j152_7 t71_8 H)
    (j152_7 t68_7 H)
theorem e152_6 (H0 : Hp) (x8 x9 : AV) (H : Hp) : j152_6 H0 x8 x9 H = b152_6 (j152_7 H0) x8 x9 H := (CXM_eq [3, 10, 14, 16, 19, 21, 24] _ _ _ _).trans (by kernel_rfl)
theorem m152_6 {j152_7 dj152_7 : A1} (hj152_7 : L1 j152_7 dj152_7) : L2 (b152_6 j152_7) (b152_6 dj152_7) := fun _ _ _ =>
  bR fun _ => bK (bR fun _ => hj152_7 _ _) (hj152_7 _ _)
noncomputable def b152_5 (j152_6 : A2) (x8 x9 x10 : AV) (H : Hp) : Res :=
  bnd (gdv x8 true (.tuple []) (some x9)) fun t59_9 =>
  bnd (gdv x8 true (.tuple []) (some x10)) fun t60_10 =>
  bnd (gdv x8 true (.tuple []) (ibin .gtr t59_9 t60_10)) fun t61_11 =>
  bnd (apick x8 t61_11 (.bool false)) fun t62_12 =>
  cnd t62_12
    (bnd (cvInt .i64 x10) fun t64_13 =>
    bnd (aun .neg t64_13) fun t65_14 =>
    bnd ((none : Option AV)) fun t66_15 =>
    some ((.tuple [t65_14, t66_15]), H))
    (j152_6 x8 x9 H)
theorem e152_5 (H0 : Hp) (x8 x9 x10 : AV) (H : Hp) : j152_5 H0 x8 x9 x10 H = b152_5 (j152_6 H0) x8 x9 x10 H := (CXM_eq [3, 10, 14, 16, 19, 21, 24] _ _ _ _).trans (by kernel_rfl)
theorem m152_5 {j152_6 dj152_6 : A2} (hj152_6 : L2 j152_6 dj152_6) : L3 (b152_5 j152_6) (b152_5 dj152_6) := fun _ _ _ _ =>
  bR fun _ => bR fun _ => bR fun _ => bR fun _ => bK (bR fun _ => bR fun _ => bR fun _ => le_refl _) (hj152_6 _ _ _)
noncomputable def b152_4 (j152_5 : A3) (x2 x8 x9 : AV) (H : Hp) : Res :=
  bnd (ibin .sub x2 (.int .i64 1)) fun t43_4 =>
  bnd (cvInt .u64 t43_4) fun t44_5 =>
  bnd (ibin .shl (.int .u64 1) t44_5) fun t45_6 =>
  bnd (aun .not x8) fun t47_16 =>
  bnd (gdv t47_16 true (.tuple []) (some x9)) fun t49_17 =>
  bnd (gdv t47_16 true (.tuple []) (some t45_6)) fun t50_18 =>
  bnd (gdv t47_16 true (.tuple []) (ibin .geq t49_17 t50_18)) fun t51_19 =>
  bnd (apick t47_16 t51_19 (.bool false)) fun t52_20 =>
  cnd t52_20
    (bnd (ibin .sub t45_6 (.int .u64 1)) fun t54_21 =>
    bnd (cvInt .i64 t54_21) fun t55_22 =>
    bnd ((none : Option AV)) fun t56_23 =>
    some ((.tuple [t55_22, t56_23]), H))
    (j152_5 x8 x9 t45_6 H)
theorem e152_4 (H0 : Hp) (x2 x8 x9 : AV) (H : Hp) : j152_4 H0 x2 x8 x9 H = b152_4 (j152_5 H0) x2 x8 x9 H := (CXM_eq [3, 10, 14, 16, 19, 21, 24] _ _ _ _).trans (by kernel_rfl)
theorem m152_4 {j152_5 dj152_5 : A3} (hj152_5 : L3 j152_5 dj152_5) : L3 (b152_4 j152_5) (b152_4 dj152_5) := fun _ _ _ _ =>
  bR fun _ => bR fun _ => bR fun _ => bR fun _ => bR fun _ => bR fun _ => bR fun _ => bR fun _ => bK (bR fun _ => bR fun _ => bR fun _ => le_refl _) (hj152_5 _ _ _ _)
noncomputable def b152_3 (j152_4 : A3) (x2 x8 x9 : AV) (H : Hp) : Res :=
  bnd (ibin .eql x2 (.int .i64 0)) fun t41_24 =>
  cnd t41_24
    (j152_4 (.int .i64 64) x8 x9 H)
    (j152_4 x2 x8 x9 H)
theorem e152_3 (H0 : Hp) (x2 x8 x9 : AV) (H : Hp) : j152_3 H0 x2 x8 x9 H = b152_3 (j152_4 H0) x2 x8 x9 H := (CXM_eq [3, 10, 14, 16, 19, 21, 24] _ _ _ _).trans (by kernel_rfl)
theorem m152_3 {j152_4 dj152_4 : A3} (hj152_4 : L3 j152_4 dj152_4) : L3 (b152_3 j152_4) (b152_3 dj152_4) := fun _ _ _ _ =>
  bR fun _ => bK (hj152_4 _ _ _ _) (hj152_4 _ _ _ _)
noncomputable def b152_2 (c157 : A3) (j152_3 : A3) (x0 x1 x2 x8 : AV) (H : Hp) : Res :=
  bnd (c157 x0 x1 x2 H) fun r29_1 =>
  bnd (aext r29_1.1 0) fun t30_2 =>
  bnd (aext r29_1.1 1) fun t31_3 =>
  bnd (ebinI .neq t31_3 .nili) fun t33_25 =>
  bnd (gdv t33_25 true (.tuple []) (some t31_3)) fun t35_26 =>
  bnd (gdv t33_25 true (.tuple []) ((none : Option AV))) fun t36_27 =>
  bnd (gdv t33_25 true (.tuple []) ((none : Option AV))) fun t37_28 =>
  bnd (apick t33_25 t37_28 (.bool false)) fun t38_29 =>
  cnd t38_29
    (some ((.tuple [(.int .i64 0), t31_3]), r29_1.2))
    (j152_3 x2 x8 t30_2 r29_1.2)
theorem e152_2 (H0 : Hp) (x0 x1 x2 x8 : AV) (H : Hp) : j152_2 H0 x0 x1 x2 x8 H = b152_2 c157 (j152_3 H0) x0 x1 x2 x8 H := (CXM_eq [3, 10, 14, 16, 19, 21, 24] _ _ _ _).trans (by kernel_rfl)
theorem m152_2 {c157 dc157 : A3} (hc157 : L3 c157 dc157) {j152_3 dj152_3 : A3} (hj152_3 : L3 j152_3 dj152_3) : L4 (b152_2 c157 j152_3) (b152_2 dc157 dj152_3) := fun _ _ _ _ _ =>
  bC (hc157 _ _ _ _) fun _ => bR fun _ => bR fun _ => bR fun _ => bR fun _ => bR fun _ => bR fun _ => bR fun _ => bK (le_refl _) (hj152_3 _ _ _ _)
noncomputable def b152_1 (j152_2 : A4) (x0 x1 x2 : AV) (H : Hp) : Res :=
  bnd (aindexStr x0 (.int .i64 0)) fun t16_30 =>
  bnd (ibin .eql t16_30 (.int .u8 43)) fun t18_31 =>
  cnd t18_31
    (bnd (asliceS x0 (some (.int .i64 1)) none none) fun t20_32 =>
    j152_2 t20_32 x1 x2 (.bool false) H)
    (bnd (ibin .eql t16_30 (.int .u8 45)) fun t22_33 =>
    cnd t22_33
      (bnd (asliceS x0 (some (.int .i64 1)) none none) fun t24_34 =>
      j152_2 t24_34 x1 x2 (.bool true) H)
      (j152_2 x0 x1 x2 (.bool false) H))
theorem e152_1 (H0 : Hp) (x0 x1 x2 : AV) (H : Hp) : j152_1 H0 x0 x1 x2 H = b152_1 (j152_2 H0) x0 x1 x2 H := (CXM_eq [3, 10, 14, 16, 19, 21, 24] _ _ _ _).trans (by kernel_rfl)
theorem m152_1 {j152_2 dj152_2 : A4} (hj152_2 : L4 j152_2 dj152_2) : L3 (b152_1 j152_2) (b152_1 dj152_2) := fun _ _ _ _ =>
  bR fun _ => bR fun _ => bK (bR fun _ => hj152_2 _ _ _ _ _) (bR fun _ => bK (bR fun _ => hj152_2 _ _ _ _ _) (hj152_2 _ _ _ _ _))
noncomputable def rj152_7 : A1 := b152_7
theorem sj152_7 (H0 : Hp) : L1 (rj152_7) (j152_7 H0) := fun _ _ => le_eq (m152_7 _ _) (e152_7 H0 _ _)
noncomputable def rj152_6 : A2 := b152_6 (rj152_7)
theorem sj152_6 (H0 : Hp) : L2 (rj152_6) (j152_6 H0) := fun _ _ _ => le_eq (m152_6 (sj152_7 H0) _ _ _) (e152_6 H0 _ _ _)
noncomputable def rj152_5 : A3 := b152_5 (rj152_6)
theorem sj152_5 (H0 : Hp) : L3 (rj152_5) (j152_5 H0) := fun _ _ _ _ => le_eq (m152_5 (sj152_6 H0) _ _ _ _) (e152_5 H0 _ _ _ _)
noncomputable def rj152_4 : A3 := b152_4 (rj152_5)
theorem sj152_4 (H0 : Hp) : L3 (rj152_4) (j152_4 H0) := fun _ _ _ _ => le_eq (m152_4 (sj152_5 H0) _ _ _ _) (e152_4 H0 _ _ _ _)
noncomputable def rj152_3 : A3 := b152_3 (rj152_4)
theorem sj152_3 (H0 : Hp) : L3 (rj152_3) (j152_3 H0) := fun _ _ _ _ => le_eq (m152_3 (sj152_4 H0) _ _ _ _) (e152_3 H0 _ _ _ _)
noncomputable def rj152_2 : A4 := b152_2 rc157 (rj152_3)
theorem sj152_2 (H0 : Hp) : L4 (rj152_2) (j152_2 H0) := fun _ _ _ _ _ => le_eq (m152_2 sc157 (sj152_3 H0) _ _ _ _ _) (e152_2 H0 _ _ _ _ _)
noncomputable def rj152_1 : A3 := b152_1 (rj152_2)
theorem sj152_1 (H0 : Hp) : L3 (rj152_1) (j152_1 H0) := fun _ _ _ _ => le_eq (m152_1 (sj152_2 H0) _ _ _ _) (e152_1 H0 _ _ _ _)
noncomputable def bc152 (j152_1 : A3) (p0 p1 p2 : AV) (H : Hp) : Res :=
  bnd (sbin .eql p0 (.str [])) fun t13_35 =>
  cnd t13_35
    (bnd ((none : Option AV)) fun t14_36 =>
    some ((.tuple [(.int .i64 0), t14_36]), H))
    (j152_1 p0 p1 p2 H)
theorem ec152 (p0 p1 p2 : AV) (H : Hp) : c152 p0 p1 p2 H = bc152 (j152_1 H) p0 p1 p2 H := (callw_cxm (C := cfg) (fn := Tryz.f152) (c := bodyOf Tryz.f152) (n := 73) [3, 10, 14, 16, 19, 21, 24] Tryz.func152 (by kernel_rfl) (by kernel_rfl) [p0, p1, p2] (by kernel_rfl) H).trans (by kernel_rfl)
theorem mc152 {j152_1 dj152_1 : A3} (hj152_1 : L3 j152_1 dj152_1) : L3 (bc152 j152_1) (bc152 dj152_1) := fun _ _ _ _ =>
  bR fun _ => bK (bR fun _ => le_refl _) (hj152_1 _ _ _ _)
noncomputable def rc152 : A3 := fun p0 p1 p2 H => bc152 (rj152_1) p0 p1 p2 H
theorem sc152 : L3 rc152 c152 := fun _ _ _ H => le_eq (mc152 (sj152_1 H) _ _ _ _) (ec152 _ _ _ _)

/-! internal_strconv_Atoi -/
noncomputable def c148 (p0 : AV) (H : Hp) : Res := callw cfg 148 [p0] H
noncomputable def j148_1 (H0 : Hp) (x0 : AV) (H : Hp) : Res := CXf 148 77 (sub (bodyOf Tryz.f148) [1, 1, 1]) (retL cfg 77 148 Tryz.f148 H0) [(0, x0)] H
noncomputable def k148_1 (H0 : Hp) : KL := seqL (fun k al H => CXf 148 77 (sub (bodyOf Tryz.f148) [1, 1, 1]) k (trimL (cfg.keep 148) (sub (bodyOf Tryz.f148) [1, 1, 1]) al) H) (retL cfg 77 148 Tryz.f148 H0)
theorem k148_1_tame (H0 : Hp) : Tame 77 (k148_1 H0) := tame_seq (C := cfg) (kp := cfg.keep 148) (sub (bodyOf Tryz.f148) [1, 1, 1]) (tame_ret 148 Tryz.f148 H0)
noncomputable def j148_4 (H0 : Hp) (x6 : AV) (H : Hp) : Res := CXf 148 77 (sub (bodyOf Tryz.f148) [1, 1, 0, 1, 0, 1, 1, 1, 1, 1]) (k148_1 H0) [(6, x6)] H
noncomputable def j148_3 (H0 : Hp) (x5 x6 : AV) (H : Hp) : Res := CXf 148 77 (sub (bodyOf Tryz.f148) [1, 1, 0, 1, 0, 1, 1, 1, 1]) (k148_1 H0) [(5, x5), (6, x6)] H
noncomputable def k148_2 (H0 : Hp) : KL := seqL (fun k al H => CXf 148 77 (sub (bodyOf Tryz.f148) [1, 1, 0, 1, 0, 1, 1, 1, 1]) k (trimL (cfg.keep 148) (sub (bodyOf Tryz.f148) [1, 1, 0, 1, 0, 1, 1, 1, 1]) al) H) (k148_1 H0)
theorem k148_2_tame (H0 : Hp) : Tame 77 (k148_2 H0) := tame_seq (C := cfg) (kp := cfg.keep 148) (sub (bodyOf Tryz.f148) [1, 1, 0, 1, 0, 1, 1, 1, 1]) (k148_1_tame H0)
noncomputable def j148_6 (H0 : Hp) (x5 x6 x47 x48 x49 : AV) (H : Hp) : Res := CXf 148 77 (sub (bodyOf Tryz.f148) [1, 1, 0, 1, 0, 1, 1, 1, 0, 1, 0, 0, 1, 1, 1]) (seqL (fun k al H => LPf 148 77 (sub (bodyOf Tryz.f148) [1, 1, 0, 1, 0, 1, 1, 1, 0, 1, 0, 0]) k (trimL (cfg.keep 148) (sub (bodyOf Tryz.f148) [1, 1, 0, 1, 0, 1, 1, 1, 0, 1, 0, 0]) al) H) (blockL 0 (k148_2 H0))) [(5, x5), (6, x6), (47, x47), (48, x48), (49, x49)] H
noncomputable def k148_3 (H0 : Hp) : KL := seqL (fun k al H => CXf 148 77 (sub (bodyOf Tryz.f148) [1, 1, 0, 1, 0, 1, 1, 1, 0, 1, 0, 0, 1, 1, 1]) k (trimL (cfg.keep 148) (sub (bodyOf Tryz.f148) [1, 1, 0, 1, 0, 1, 1, 1, 0, 1, 0, 0, 1, 1, 1]) al) H) (seqL (fun k al H => LPf 148 77 (sub (bodyOf Tryz.f148) [1, 1, 0, 1, 0, 1, 1, 1, 0, 1, 0, 0]) k (trimL (cfg.keep 148) (sub (bodyOf Tryz.f148) [1, 1, 0, 1, 0, 1, 1, 1, 0, 1, 0, 0]) al) H) (blockL 0 (k148_2 H0)))
theorem k148_3_tame (H0 : Hp) : Tame 77 (k148_3 H0) := tame_seq (C := cfg) (kp := cfg.keep 148) (sub (bodyOf Tryz.f148) [1, 1, 0, 1, 0, 1, 1, 1, 0, 1, 0, 0, 1, 1, 1]) (tame_loop (C := cfg) (kp := cfg.keep 148) (sub (bodyOf Tryz.f148) [1, 1, 0, 1, 0, 1, 1, 1, 0, 1, 0, 0]) (tame_block 0 (k148_2_tame H0)))
noncomputable def j148_7 (H0 : Hp) (x5 x6 x8 x47 x48 x49 : AV) (H : Hp) : Res := CXf 148 77 (sub (bodyOf Tryz.f148) [1, 1, 0, 1, 0, 1, 1, 1, 0, 1, 0, 0, 1, 1, 0, 0, 1, 1, 1]) (blockL 1 (k148_3 H0)) [(5, x5), (6, x6), (8, x8), (47, x47), (48, x48), (49, x49)] H
noncomputable def j148_5 (H0 : Hp) (x5 x6 x47 x48 x49 x50 : AV) (H : Hp) : Res := CXf 148 77 (sub (bodyOf Tryz.f148) [1, 1, 0, 1, 0, 1, 1, 1, 0, 1, 0, 0, 1, 1]) (seqL (fun k al H => LPf 148 77 (sub (bodyOf Tryz.f148) [1, 1, 0, 1, 0, 1, 1, 1, 0, 1, 0, 0]) k (trimL (cfg.keep 148) (sub (bodyOf Tryz.f148) [1, 1, 0, 1, 0, 1, 1, 1, 0, 1, 0, 0]) al) H) (blockL 0 (k148_2 H0))) [(5, x5), (6, x6), (47, x47), (48, x48), (49, x49), (50, x50)] H
noncomputable def j148_l1 (H0 : Hp) (x5 x6 x47 x48 x49 : AV) (H : Hp) : Res := LPf 148 77 (sub (bodyOf Tryz.f148) [1, 1, 0, 1, 0, 1, 1, 1, 0, 1, 0, 0]) (blockL 0 (k148_2 H0)) [(5, x5), (6, x6), (47, x47), (48, x48), (49, x49)] H
noncomputable def j148_2 (H0 : Hp) (x0 x5 : AV) (H : Hp) : Res := CXf 148 77 (sub (bodyOf Tryz.f148) [1, 1, 0, 1, 0, 1, 1]) (k148_1 H0) [(0, x0), (5, x5)] H
noncomputable def b148_1 (c152 : A3) (x0 : AV) (H : Hp) : Res :=
  bnd (c152 x0 (.int .i64 10) (.int .i64 0) H) fun r72_2 =>
  bnd (aext r72_2.1 0) fun t73_3 =>
  bnd (aext r72_2.1 1) fun t74_4 =>
  some ((.tuple [t73_3, t74_4]), r72_2.2)
theorem e148_1 (H0 : Hp) (x0 : AV) (H : Hp) : j148_1 H0 x0 H = b148_1 c152 x0 H := (CXM_eq [8, 11, 15, 16, 17, 19, 20] _ _ _ _).trans (by kernel_rfl)
theorem m148_1 {c152 dc152 : A3} (hc152 : L3 c152 dc152) : L1 (b148_1 c152) (b148_1 dc152) := fun _ _ =>
  bC (hc152 _ _ _ _) fun _ => bR fun _ => bR fun _ => le_refl _
noncomputable def b148_4 (x6 : AV) (H : Hp) : Res :=
  some ((.tuple [x6, .nili]), H)
theorem e148_4 (H0 : Hp) (x6 : AV) (H : Hp) : j148_4 H0 x6 H = b148_4 x6 H := (CXM_eq [8, 11, 15, 16, 17, 19, 20] _ _ _ _).trans (by kernel_rfl)
theorem m148_4 : L1 (b148_4) (b148_4) := fun _ _ =>
  le_refl _
noncomputable def b148_3 (j148_4 : A1) (x5 x6 : AV) (H : Hp) : Res :=
  bnd (aindexStr x5 (.int .i64 0)) fun t65_21 =>
  bnd (ibin .eql t65_21 (.int .u8 45)) fun t66_22 =>
  cnd t66_22
    (bnd (aun .neg x6) fun t68_23 =>
    j148_4 t68_23 H)
    (j148_4 x6 H)
theorem e148_3 (H0 : Hp) (x5 x6 : AV) (H : Hp) : j148_3 H0 x5 x6 H = b148_3 (j148_4 H0) x5 x6 H := (CXM_eq [8, 11, 15, 16, 17, 19, 20] _ _ _ _).trans (by kernel_rfl)
theorem m148_3 {j148_4 dj148_4 : A1} (hj148_4 : L1 j148_4 dj148_4) : L2 (b148_3 j148_4) (b148_3 dj148_4) := fun _ _ _ =>
  bR fun _ => bR fun _ => bK (bR fun _ => hj148_4 _ _) (hj148_4 _ _)
noncomputable def b148_6 (j148_l1 : A5) (x5 x6 x47 x48 x49 : AV) (H : Hp) : Res :=
  bnd (ibin .add x49 (.int .i64 1)) fun t63_27 =>
  j148_l1 x5 x6 x47 x48 t63_27 H
theorem e148_6 (H0 : Hp) (x5 x6 x47 x48 x49 : AV) (H : Hp) : j148_6 H0 x5 x6 x47 x48 x49 H = b148_6 (j148_l1 H0) x5 x6 x47 x48 x49 H := (CXM_eq [8, 11, 15, 16, 17, 19, 20] _ _ _ _).trans (by kernel_rfl)
theorem m148_6 {j148_l1 dj148_l1 : A5} (hj148_l1 : L5 j148_l1 dj148_l1) : L5 (b148_6 j148_l1) (b148_6 dj148_l1) := fun _ _ _ _ _ _ =>
  bR fun _ => hj148_l1 _ _ _ _ _ _
noncomputable def b148_7 (j148_6 : A5) (x5 x6 x8 x47 x48 x49 : AV) (H : Hp) : Res :=
  bnd (ibin .mul x6 (.int .i64 10)) fun t59_31 =>
  bnd (cvInt .i64 x8) fun t61_32 =>
  bnd (ibin .add t59_31 t61_32) fun t62_33 =>
  j148_6 x5 t62_33 x47 x48 x49 H
theorem e148_7 (H0 : Hp) (x5 x6 x8 x47 x48 x49 : AV) (H : Hp) : j148_7 H0 x5 x6 x8 x47 x48 x49 H = b148_7 (j148_6 H0) x5 x6 x8 x47 x48 x49 H := (CXM_eq [8, 11, 15, 16, 17, 19, 20] _ _ _ _).trans (by kernel_rfl)
theorem m148_7 {j148_6 dj148_6 : A5} (hj148_6 : L5 j148_6 dj148_6) : L6 (b148_7 j148_6) (b148_7 dj148_6) := fun _ _ _ _ _ _ _ =>
  bR fun _ => bR fun _ => bR fun _ => hj148_6 _ _ _ _ _ _
noncomputable def b148_5 (j148_7 : A6) (x5 x6 x47 x48 x49 x50 : AV) (H : Hp) : Res :=
  bnd (aindexS 1 x47 x49) fun t51_28 =>
  bnd (aload false 1 t51_28 H) fun t52_29 =>
  bnd (ibin .sub t52_29 (.int .u8 48)) fun t54_30 =>
  bnd (ibin .gtr t54_30 (.int .u8 9)) fun t56_34 =>
  cnd t56_34
    (bnd ((none : Option AV)) fun t57_35 =>
    some ((.tuple [(.int .i64 0), t57_35]), H))
    (j148_7 x5 x6 t54_30 x47 x48 x49 H)
theorem e148_5 (H0 : Hp) (x5 x6 x47 x48 x49 x50 : AV) (H : Hp) : j148_5 H0 x5 x6 x47 x48 x49 x50 H = b148_5 (j148_7 H0) x5 x6 x47 x48 x49 x50 H := (CXM_eq [8, 11, 15, 16, 17, 19, 20] _ _ _ _).trans (by kernel_rfl)
theorem m148_5 {j148_7 dj148_7 : A6} (hj148_7 : L6 j148_7 dj148_7) : L6 (b148_5 j148_7) (b148_5 dj148_7) := fun _ _ _ _ _ _ _ =>
  bR fun _ => bR fun _ => bR fun _ => bR fun _ => bK (bR fun _ => le_refl _) (hj148_7 _ _ _ _ _ _ _)
noncomputable def b148_l1 (j148_3 : A2) (j148_5 : A6) (x5 x6 x47 x48 x49 : AV) (H : Hp) : Res :=
  bnd (ibin .lss x49 x48) fun t50_26 =>
  cnd t50_26
    (j148_5 x5 x6 x47 x48 x49 t50_26 H)
    (j148_3 x5 x6 H)
theorem e148_l1 (H0 : Hp) (x5 x6 x47 x48 x49 : AV) (H : Hp) : j148_l1 H0 x5 x6 x47 x48 x49 H = b148_l1 (j148_3 H0) (j148_5 H0) x5 x6 x47 x48 x49 H := (LPL_eqm (C := cfg) [8, 11, 15, 16, 17, 19, 20] (tame_block 0 (k148_2_tame H0)) _ _).trans (by kernel_rfl)
theorem m148_l1 {j148_3 dj148_3 : A2} (hj148_3 : L2 j148_3 dj148_3) {j148_5 dj148_5 : A6} (hj148_5 : L6 j148_5 dj148_5) : L5 (b148_l1 j148_3 j148_5) (b148_l1 dj148_3 dj148_5) := fun _ _ _ _ _ _ =>
  bR fun _ => bK (hj148_5 _ _ _ _ _ _ _) (hj148_3 _ _ _)
noncomputable def b148_2 (j148_l1 : A5) (x0 x5 : AV) (H : Hp) : Res :=
  bnd (cvToBytes x0) fun t47_24 =>
  bnd (alenD (.slice 5) t47_24) fun t48_25 =>
  j148_l1 x5 (.int .i64 0) t47_24 t48_25 (.int .i64 0) H
theorem e148_2 (H0 : Hp) (x0 x5 : AV) (H : Hp) : j148_2 H0 x0 x5 H = b148_2 (j148_l1 H0) x0 x5 H := (CXM_eq [8, 11, 15, 16, 17, 19, 20] _ _ _ _).trans (by kernel_rfl)
theorem m148_2 {j148_l1 dj148_l1 : A5} (hj148_l1 : L5 j148_l1 dj148_l1) : L2 (b148_2 j148_l1) (b148_2 dj148_l1) := fun _ _ _ =>
  bR fun _ => bR fun _ => hj148_l1 _ _ _ _ _ _
noncomputable def rj148_1 : A1 := b148_1 rc152
theorem sj148_1 (H0 : Hp) : L1 (rj148_1) (j148_1 H0) := fun _ _ => le_eq (m148_1 sc152 _ _) (e148_1 H0 _ _)
noncomputable def rj148_4 : A1 := b148_4
theorem sj148_4 (H0 : Hp) : L1 (rj148_4) (j148_4 H0) := fun _ _ => le_eq (m148_4 _ _) (e148_4 H0 _ _)
noncomputable def rj148_3 : A2 := b148_3 (rj148_4)
theorem sj148_3 (H0 : Hp) : L2 (rj148_3) (j148_3 H0) := fun _ _ _ => le_eq (m148_3 (sj148_4 H0) _ _ _) (e148_3 H0 _ _ _)
noncomputable def rj148_6 (j148_l1 : A5) : A5 := b148_6 j148_l1
theorem sj148_6 (H0 : Hp) {yj148_l1 : A5} (hj148_l1 : L5 yj148_l1 (j148_l1 H0)) : L5 (rj148_6 yj148_l1) (j148_6 H0) := fun _ _ _ _ _ _ => le_eq (m148_6 hj148_l1 _ _ _ _ _ _) (e148_6 H0 _ _ _ _ _ _)
noncomputable def rj148_7 (j148_l1 : A5) : A6 := b148_7 (rj148_6 j148_l1)
theorem sj148_7 (H0 : Hp) {yj148_l1 : A5} (hj148_l1 : L5 yj148_l1 (j148_l1 H0)) : L6 (rj148_7 yj148_l1) (j148_7 H0) := fun _ _ _ _ _ _ _ => le_eq (m148_7 (sj148_6 H0 hj148_l1) _ _ _ _ _ _ _) (e148_7 H0 _ _ _ _ _ _ _)
noncomputable def rj148_5 (j148_l1 : A5) : A6 := b148_5 (rj148_7 j148_l1)
theorem sj148_5 (H0 : Hp) {yj148_l1 : A5} (hj148_l1 : L5 yj148_l1 (j148_l1 H0)) : L6 (rj148_5 yj148_l1) (j148_5 H0) := fun _ _ _ _ _ _ _ => le_eq (m148_5 (sj148_7 H0 hj148_l1) _ _ _ _ _ _ _) (e148_5 H0 _ _ _ _ _ _ _)
noncomputable def rj148_l1 (n : Nat) : A5 := @Nat.rec (fun _ => A5) (fun _ _ _ _ _ _ => none) (fun _ j148_l1 => b148_l1 (rj148_3) (rj148_5 j148_l1)) n
theorem sj148_l1 (H0 : Hp) (n : Nat) : L5 (rj148_l1 n) (j148_l1 H0) := by
  induction n with
  | zero => exact fun _ _ _ _ _ _ => le_none _
  | succ n hj148_l1 => exact fun _ _ _ _ _ _ => le_eq (m148_l1 (sj148_3 H0) (sj148_5 H0 hj148_l1) _ _ _ _ _ _) (e148_l1 H0 _ _ _ _ _ _)
noncomputable def rj148_2 : A2 := b148_2 (rj148_l1 100000)
theorem sj148_2 (H0 : Hp) : L2 (rj148_2) (j148_2 H0) := fun _ _ _ => le_eq (m148_2 (sj148_l1 H0 100000) _ _ _) (e148_2 H0 _ _ _)
noncomputable def bc148 (j148_1 : A1) (j148_2 : A2) (p0 : AV) (H : Hp) : Res :=
  bnd (alenD .string p0) fun t12_1 =>
  bnd (gdv (.bool false) true (.tuple []) (some t12_1)) fun t14_5 =>
  bnd (gdv (.bool false) true (.tuple []) (ibin .lss (.int .i64 0) t14_5)) fun t15_6 =>
  bnd (gdv (.bool false) true (.tuple []) (some t15_6)) fun t16_7 =>
  bnd (gdv t16_7 true (.tuple []) (some t12_1)) fun t17_8 =>
  bnd (gdv t16_7 true (.tuple []) (ibin .lss t17_8 (.int .i64 10))) fun t18_9 =>
  bnd (gdv (.bool false) true (.tuple []) (apick t16_7 t18_9 (.bool false))) fun t19_10 =>
  bnd (apick (.bool false) t19_10 (.bool false)) fun t20_11 =>
  bnd (gdv t20_11 false (.tuple []) (some (.bool true))) fun t22_12 =>
  bnd (gdv t22_12 true (.tuple []) (some t12_1)) fun t23_13 =>
  bnd (gdv t22_12 true (.tuple []) (ibin .lss (.int .i64 0) t23_13)) fun t24_14 =>
  bnd (gdv t22_12 true (.tuple []) (some t24_14)) fun t25_15 =>
  bnd (gdv t25_15 true (.tuple []) (some t12_1)) fun t26_16 =>
  bnd (gdv t25_15 true (.tuple []) (ibin .lss t26_16 (.int .i64 19))) fun t27_17 =>
  bnd (gdv t22_12 true (.tuple []) (apick t25_15 t27_17 (.bool false))) fun t28_18 =>
  bnd (gdv t20_11 false (.tuple []) (apick t22_12 t28_18 (.bool false))) fun t29_19 =>
  bnd (apick t20_11 (.bool true) t29_19) fun t30_20 =>
  cnd t30_20
    (bnd (aindexStr p0 (.int .i64 0)) fun t33_36 =>
    bnd (ibin .eql t33_36 (.int .u8 45)) fun t34_37 =>
    bnd (gdv t34_37 false (.tuple []) (some p0)) fun t36_38 =>
    bnd (gdv t34_37 false (.tuple []) (aindexStr t36_38 (.int .i64 0))) fun t37_39 =>
    bnd (gdv t34_37 false (.tuple []) (ibin .eql t37_39 (.int .u8 43))) fun t38_40 =>
    bnd (apick t34_37 (.bool true) t38_40) fun t39_41 =>
    cnd t39_41
      (bnd (asliceS p0 (some (.int .i64 1)) none none) fun t41_42 =>
      bnd (alenD .string t41_42) fun t43_43 =>
      bnd (ibin .lss t43_43 (.int .i64 1)) fun t44_44 =>
      cnd t44_44
        (bnd ((none : Option AV)) fun t45_45 =>
        some ((.tuple [(.int .i64 0), t45_45]), H))
        (j148_2 t41_42 p0 H))
      (j148_2 p0 p0 H))
    (j148_1 p0 H)
theorem ec148 (p0 : AV) (H : Hp) : c148 p0 H = bc148 (j148_1 H) (j148_2 H) p0 H := (callw_cxm (C := cfg) (fn := Tryz.f148) (c := bodyOf Tryz.f148) (n := 77) [8, 11, 15, 16, 17, 19, 20] Tryz.func148 (by kernel_rfl) (by kernel_rfl) [p0] (by kernel_rfl) H).trans (by kernel_rfl)
theorem mc148 {j148_1 dj148_1 : A1} (hj148_1 : L1 j148_1 dj148_1) {j148_2 dj148_2 : A2} (hj148_2 : L2 j148_2 dj148_2) : L1 (bc148 j148_1 j148_2) (bc148 dj148_1 dj148_2) := fun _ _ =>
  bR fun _ => bR fun _ => bR fun _ => bR fun _ => bR fun _ => bR fun _ => bR fun _ => bR fun _ => bR fun _ => bR fun _ => bR fun _ => bR fun _ => bR fun _ => bR fun _ => bR fun _ => bR fun _ => bR fun _ => bK (bR fun _ => bR fun _ => bR fun _ => bR fun _ => bR fun _ => bR fun _ => bK (bR fun _ => bR fun _ => bR fun _ => bK (bR fun _ => le_refl _) (hj148_2 _ _ _)) (hj148_2 _ _ _)) (hj148_1 _ _)
noncomputable def rc148 : A1 := fun p0 H => bc148 (rj148_1) (rj148_2) p0 H
theorem sc148 : L1 rc148 c148 := fun _ H => le_eq (mc148 (sj148_1 H) (sj148_2 H) _ _) (ec148 _ _)

/-! internal_stringslite_Clone -/
noncomputable def c158 (p0 : AV) (H : Hp) : Res := callw cfg 158 [p0] H
noncomputable def j158_1 (H0 : Hp) (x0 : AV) (H : Hp) : Res := CXf 158 18 (sub (bodyOf Tryz.f158) [1, 1]) (retL cfg 18 158 Tryz.f158 H0) [(0, x0)] H
noncomputable def b158_1 (x0 : AV) (H : Hp) : Res :=
  bnd (alenD .string x0) fun t8_1 =>
  bnd (amake 1 1 false (.int .u8 0) t8_1 t8_1 H) fun r9_2 =>
  bnd (acopy 1 r9_2.1 x0 r9_2.2) fun r12_3 =>
  bnd (aindexS 1 r9_2.1 (.int .i64 0)) fun t14_4 =>
  bnd (alenD (.slice 5) r9_2.1) fun t16_5 =>
  bnd ((none : Option AV)) fun t17_6 =>
  some (t17_6, r12_3.2)
theorem e158_1 (H0 : Hp) (x0 : AV) (H : Hp) : j158_1 H0 x0 H = b158_1 x0 H := (CXM_eq [3] _ _ _ _).trans (by kernel_rfl)
theorem m158_1 : L1 (b158_1) (b158_1) := fun _ _ =>
  bR fun _ => bR fun _ => bR fun _ => bR fun _ => bR fun _ => bR fun _ => le_refl _
noncomputable def rj158_1 : A1 := b158_1
theorem sj158_1 (H0 : Hp) : L1 (rj158_1) (j158_1 H0) := fun _ _ => le_eq (m158_1 _ _) (e158_1 H0 _ _)
noncomputable def bc158 (j158_1 : A1) (p0 : AV) (H : Hp) : Res :=
  bnd (alenD .string p0) fun t5_7 =>
  bnd (ibin .eql t5_7 (.int .i64 0)) fun t6_8 =>
  cnd t6_8
    (some ((.str []), H))
    (j158_1 p0 H)
theorem ec158 (p0 : AV) (H : Hp) : c158 p0 H = bc158 (j158_1 H) p0 H := (callw_cxm (C := cfg) (fn := Tryz.f158) (c := bodyOf Tryz.f158) (n := 18) [3] Tryz.func158 (by kernel_rfl) (by kernel_rfl) [p0] (by kernel_rfl) H).trans (by kernel_rfl)
theorem mc158 {j158_1 dj158_1 : A1} (hj158_1 : L1 j158_1 dj158_1) : L1 (bc158 j158_1) (bc158 dj158_1) := fun _ _ =>
  bR fun _ => bR fun _ => bK (le_refl _) (hj158_1 _ _)
noncomputable def rc158 : A1 := fun p0 H => bc158 (rj158_1) p0 H
theorem sc158 : L1 rc158 c158 := fun _ H => le_eq (mc158 (sj158_1 H) _ _) (ec158 _ _)

/-! strconv_syntaxError -/
noncomputable def c153 (p0 p1 : AV) (H : Hp) : Res := callw cfg 153 [p0, p1] H
noncomputable def bc153 (c158 : A1) (p0 p1 : AV) (H : Hp) : Res :=
  bnd (c158 p1 H) fun r7_1 =>
  bnd (aloadv false 1 .undef) fun t8_2 =>
  bnd ((afill [(0, 1, p0), (1, 1, r7_1.1), (2, 1, t8_2)] [(.str []), (.str []), .nili]).map .agg) fun t9_3 =>
  bnd (abox t9_3 r7_1.2) fun r10_4 =>
  some (r10_4.1, r10_4.2)
theorem ec153 (p0 p1 : AV) (H : Hp) : c153 p0 p1 H = bc153 c158 p0 p1 H := (callw_cxm (C := cfg) (fn := Tryz.f153) (c := bodyOf Tryz.f153) (n := 11) [] Tryz.func153 (by kernel_rfl) (by kernel_rfl) [p0, p1] (by kernel_rfl) H).trans (by kernel_rfl)
theorem mc153 {c158 dc158 : A1} (hc158 : L1 c158 dc158) : L2 (bc153 c158) (bc153 dc158) := fun _ _ _ =>
  bC (hc158 _ _) fun _ => bR fun _ => bR fun _ => bR fun _ => le_refl _
noncomputable def rc153 : A2 := fun p0 p1 H => bc153 rc158 p0 p1 H
theorem sc153 : L2 rc153 c153 := fun _ _ H => le_eq (mc153 sc158 _ _ _) (ec153 _ _ _)

/-! strconv_rangeError -/
noncomputable def c154 (p0 p1 : AV) (H : Hp) : Res := callw cfg 154 [p0, p1] H
noncomputable def bc154 (c158 : A1) (p0 p1 : AV) (H : Hp) : Res :=
  bnd (c158 p1 H) fun r7_1 =>
  bnd (aloadv false 1 .undef) fun t8_2 =>
  bnd ((afill [(0, 1, p0), (1, 1, r7_1.1), (2, 1, t8_2)] [(.str []), (.str []), .nili]).map .agg) fun t9_3 =>
  bnd (abox t9_3 r7_1.2) fun r10_4 =>
  some (r10_4.1, r10_4.2)
theorem ec154 (p0 p1 : AV) (H : Hp) : c154 p0 p1 H = bc154 c158 p0 p1 H := (callw_cxm (C := cfg) (fn := Tryz.f154) (c := bodyOf Tryz.f154) (n := 11) [] Tryz.func154 (by kernel_rfl) (by kernel_rfl) [p0, p1] (by kernel_rfl) H).trans (by kernel_rfl)
theorem mc154 {c158 dc158 : A1} (hc158 : L1 c158 dc158) : L2 (bc154 c158) (bc154 dc158) := fun _ _ _ =>
  bC (hc158 _ _) fun _ => bR fun _ => bR fun _ => bR fun _ => le_refl _
noncomputable def rc154 : A2 := fun p0 p1 H => bc154 rc158 p0 p1 H
theorem sc154 : L2 rc154 c154 := fun _ _ H => le_eq (mc154 sc158 _ _ _) (ec154 _ _ _)

/-! internal_strconv_small -/
noncomputable def c136 (p0 : AV) (H : Hp) : Res := callw cfg 136 [p0] H
noncomputable def j136_1 (H0 : Hp) (x0 : AV) (H : Hp) : Res := CXf 136 15 (sub (bodyOf Tryz.f136) [1, 1]) (retL cfg 15 136 Tryz.f136 H0) [(0, x0)] H
noncomputable def b136_1 (x0 : AV) (H : Hp) : Res :=
  bnd (ibin .mul x0 (.int .i64 2)) fun t10_1 =>
  bnd (ibin .mul x0 (.int .i64 2)) fun t12_2 =>
  bnd (ibin .add t12_2 (.int .i64 2)) fun t13_3 =>
  bnd (asliceS (.str [48, 48, 48, 49, 48, 50, 48, 51, 48, 52, 48, 53, 48, 54, 48, 55, 48, 56, 48, 57, 49, 48, 49, 49, 49, 50, 49, 51, 49, 52, 49, 53, 49, 54, 49, 55, 49, 56, 49, 57, 50, 48, 50, 49, 50, 50, 50, 51, 50, 52, 50, 53, 50, 54, 50, 55, 50, 56, 50, 57, 51, 48, 51, 49, 51, 50, 51, 51, 51, 52, 51, 53, 51, 54, 51, 55, 51, 56, 51, 57, 52, 48, 52, 49, 52, 50, 52, 51, 52, 52, 52, 53, 52, 54, 52, 55, 52, 56, 52, 57, 53, 48, 53, 49, 53, 50, 53, 51, 53, 52, 53, 53, 53, 54, 53, 55, 53, 56, 53, 57, 54, 48, 54, 49, 54, 50, 54, 51, 54, 52, 54, 53, 54, 54, 54, 55, 54, 56, 54, 57, 55, 48, 55, 49, 55, 50, 55, 51, 55, 52, 55, 53, 55, 54, 55, 55, 55, 56, 55, 57, 56, 48, 56, 49, 56, 50, 56, 51, 56, 52, 56, 53, 56, 54, 56, 55, 56, 56, 56, 57, 57, 48, 57, 49, 57, 50, 57, 51, 57, 52, 57, 53, 57, 54, 57, 55, 57, 56, 57, 57]) (some t10_1) (some t13_3) none) fun t14_4 =>
  some (t14_4, H)
theorem e136_1 (H0 : Hp) (x0 : AV) (H : Hp) : j136_1 H0 x0 H = b136_1 x0 H := (CXM_eq [3] _ _ _ _).trans (by kernel_rfl)
theorem m136_1 : L1 (b136_1) (b136_1) := fun _ _ =>
  bR fun _ => bR fun _ => bR fun _ => bR fun _ => le_refl _
noncomputable def rj136_1 : A1 := b136_1
theorem sj136_1 (H0 : Hp) : L1 (rj136_1) (j136_1 H0) := fun _ _ => le_eq (m136_1 _ _) (e136_1 H0 _ _)
noncomputable def bc136 (j136_1 : A1) (p0 : AV) (H : Hp) : Res :=
  bnd (ibin .lss p0 (.int .i64 10)) fun t4_5 =>
  cnd t4_5
    (bnd (ibin .add p0 (.int .i64 1)) fun t7_6 =>
    bnd (asliceS (.str [48, 49, 50, 51, 52, 53, 54, 55, 56, 57, 97, 98, 99, 100, 101, 102, 103, 104, 105, 106, 107, 108, 109, 110, 111, 112, 113, 114, 115, 116, 117, 118, 119, 120, 121, 122]) (some p0) (some t7_6) none) fun t8_7 =>
    some (t8_7, H))
    (j136_1 p0 H)
theorem ec136 (p0 : AV) (H : Hp) : c136 p0 H = bc136 (j136_1 H) p0 H := (callw_cxm (C := cfg) (fn := Tryz.f136) (c := bodyOf Tryz.f136) (n := 15) [3] Tryz.func136 (by kernel_rfl) (by kernel_rfl) [p0] (by kernel_rfl) H).trans (by kernel_rfl)
theorem mc136 {j136_1 dj136_1 : A1} (hj136_1 : L1 j136_1 dj136_1) : L1 (bc136 j136_1) (bc136 dj136_1) := fun _ _ =>
  bR fun _ => bK (bR fun _ => bR fun _ => le_refl _) (hj136_1 _ _)
noncomputable def rc136 : A1 := fun p0 H => bc136 (rj136_1) p0 H
theorem sc136 : L1 rc136 c136 := fun _ H => le_eq (mc136 (sj136_1 H) _ _) (ec136 _ _)

/-! internal_strconv_log10Pow2 -/
noncomputable def c143 (p0 : AV) (H : Hp) : Res := callw cfg 143 [p0] H
noncomputable def bc143 (p0 : AV) (H : Hp) : Res :=
  bnd (ibin .mul p0 (.int .i64 78913)) fun t4_1 =>
  bnd (ibin .shr t4_1 (.int .u64 18)) fun t5_2 =>
  some (t5_2, H)
theorem ec143 (p0 : AV) (H : Hp) : c143 p0 H = bc143 p0 H := (callw_cxm (C := cfg) (fn := Tryz.f143) (c := bodyOf Tryz.f143) (n := 6) [] Tryz.func143 (by kernel_rfl) (by kernel_rfl) [p0] (by kernel_rfl) H).trans (by kernel_rfl)
theorem mc143 : L1 (bc143) (bc143) := fun _ _ =>
  bR fun _ => bR fun _ => le_refl _
noncomputable def rc143 : A1 := fun p0 H => bc143 p0 H
theorem sc143 : L1 rc143 c143 := fun _ H => le_eq (mc143 _ _) (ec143 _ _)

/-! math_bits_Len64 -/
noncomputable def c144 (p0 : AV) (H : Hp) : Res := callw cfg 144 [p0] H
noncomputable def j144_3 (H0 : Hp) (x0 x2 : AV) (H : Hp) : Res := CXf 144 25 (sub (bodyOf Tryz.f144) [1, 1, 1, 1]) (retL cfg 25 144 Tryz.f144 H0) [(0, x0), (2, x2)] H
noncomputable def j144_2 (H0 : Hp) (x0 x2 : AV) (H : Hp) : Res := CXf 144 25 (sub (bodyOf Tryz.f144) [1, 1, 1]) (retL cfg 25 144 Tryz.f144 H0) [(0, x0), (2, x2)] H
noncomputable def j144_1 (H0 : Hp) (x0 x2 : AV) (H : Hp) : Res := CXf 144 25 (sub (bodyOf Tryz.f144) [1, 1]) (retL cfg 25 144 Tryz.f144 H0) [(0, x0), (2, x2)] H
noncomputable def b144_3 (x0 x2 : AV) (H : Hp) : Res :=
  bnd (cvInt .u8 x0) fun t21_1 =>
  bnd (aindexStr (.str [0, 1, 2, 2, 3, 3, 3, 3, 4, 4, 4, 4, 4, 4, 4, 4, 5, 5, 5, 5, 5, 5, 5, 5, 5, 5, 5, 5, 5, 5, 5, 5, 6, 6, 6, 6, 6, 6, 6, 6, 6, 6, 6, 6, 6, 6, 6, 6, 6, 6, 6, 6, 6, 6, 6, 6, 6, 6, 6, 6, 6, 6, 6, 6, 7, 7, 7, 7, 7, 7, 7, 7, 7, 7, 7, 7, 7, 7, 7, 7, 7, 7, 7, 7, 7, 7, 7, 7, 7, 7, 7, 7, 7, 7, 7, 7, 7, 7, 7, 7, 7, 7, 7, 7, 7, 7, 7, 7, 7, 7, 7, 7, 7, 7, 7, 7, 7, 7, 7, 7, 7, 7, 7, 7, 7, 7, 7, 7, 8, 8, 8, 8, 8, 8, 8, 8, 8, 8, 8, 8, 8, 8, 8, 8, 8, 8, 8, 8, 8, 8, 8, 8, 8, 8, 8, 8, 8, 8, 8, 8, 8, 8, 8, 8, 8, 8, 8, 8, 8, 8, 8, 8, 8, 8, 8, 8, 8, 8, 8, 8, 8, 8, 8, 8, 8, 8, 8, 8, 8, 8, 8, 8, 8, 8, 8, 8, 8, 8, 8, 8, 8, 8, 8, 8, 8, 8, 8, 8, 8, 8, 8, 8, 8, 8, 8, 8, 8, 8, 8, 8, 8, 8, 8, 8, 8, 8, 8, 8, 8, 8, 8, 8, 8, 8, 8, 8, 8, 8, 8, 8, 8, 8, 8, 8, 8, 8, 8, 8, 8, 8, 8, 8, 8, 8, 8, 8]) t21_1) fun t22_2 =>
  bnd (cvInt .i64 t22_2) fun t23_3 =>
  bnd (ibin .add x2 t23_3) fun t24_4 =>
  some (t24_4, H)
theorem e144_3 (H0 : Hp) (x0 x2 : AV) (H : Hp) : j144_3 H0 x0 x2 H = b144_3 x0 x2 H := (CXM_eq [4, 7, 10] _ _ _ _).trans (by kernel_rfl)
theorem m144_3 : L2 (b144_3) (b144_3) := fun _ _ _ =>
  bR fun _ => bR fun _ => bR fun _ => bR fun _ => le_refl _
noncomputable def b144_2 (j144_3 : A2) (x0 x2 : AV) (H : Hp) : Res :=
  bnd (ibin .geq x0 (.int .u64 256)) fun t14_5 =>
  cnd t14_5
    (bnd (ibin .shr x0 (.int .u64 8)) fun t16_6 =>
    bnd (ibin .add x2 (.int .i64 8)) fun t18_7 =>
    j144_3 t16_6 t18_7 H)
    (j144_3 x0 x2 H)
theorem e144_2 (H0 : Hp) (x0 x2 : AV) (H : Hp) : j144_2 H0 x0 x2 H = b144_2 (j144_3 H0) x0 x2 H := (CXM_eq [4, 7, 10] _ _ _ _).trans (by kernel_rfl)
theorem m144_2 {j144_3 dj144_3 : A2} (hj144_3 : L2 j144_3 dj144_3) : L2 (b144_2 j144_3) (b144_2 dj144_3) := fun _ _ _ =>
  bR fun _ => bK (bR fun _ => bR fun _ => hj144_3 _ _ _) (hj144_3 _ _ _)
noncomputable def b144_1 (j144_2 : A2) (x0 x2 : AV) (H : Hp) : Res :=
  bnd (ibin .geq x0 (.int .u64 65536)) fun t8_8 =>
  cnd t8_8
    (bnd (ibin .shr x0 (.int .u64 16)) fun t10_9 =>
    bnd (ibin .add x2 (.int .i64 16)) fun t12_10 =>
    j144_2 t10_9 t12_10 H)
    (j144_2 x0 x2 H)
theorem e144_1 (H0 : Hp) (x0 x2 : AV) (H : Hp) : j144_1 H0 x0 x2 H = b144_1 (j144_2 H0) x0 x2 H := (CXM_eq [4, 7, 10] _ _ _ _).trans (by kernel_rfl)
theorem m144_1 {j144_2 dj144_2 : A2} (hj144_2 : L2 j144_2 dj144_2) : L2 (b144_1 j144_2) (b144_1 dj144_2) := fun _ _ _ =>
  bR fun _ => bK (bR fun _ => bR fun _ => hj144_2 _ _ _) (hj144_2 _ _ _)
noncomputable def rj144_3 : A2 := b144_3
theorem sj144_3 (H0 : Hp) : L2 (rj144_3) (j144_3 H0) := fun _ _ _ => le_eq (m144_3 _ _ _) (e144_3 H0 _ _ _)
noncomputable def rj144_2 : A2 := b144_2 (rj144_3)
theorem sj144_2 (H0 : Hp) : L2 (rj144_2) (j144_2 H0) := fun _ _ _ => le_eq (m144_2 (sj144_3 H0) _ _ _) (e144_2 H0 _ _ _)
noncomputable def rj144_1 : A2 := b144_1 (rj144_2)
theorem sj144_1 (H0 : Hp) : L2 (rj144_1) (j144_1 H0) := fun _ _ _ => le_eq (m144_1 (sj144_2 H0) _ _ _) (e144_1 H0 _ _ _)
noncomputable def bc144 (j144_1 : A2) (p0 : AV) (H : Hp) : Res :=
  bnd (ibin .geq p0 (.int .u64 4294967296)) fun t4_11 =>
  cnd t4_11
    (bnd (ibin .shr p0 (.int .u64 32)) fun t6_12 =>
    j144_1 t6_12 (.int .i64 32) H)
    (j144_1 p0 (.int .i64 0) H)
theorem ec144 (p0 : AV) (H : Hp) : c144 p0 H = bc144 (j144_1 H) p0 H := (callw_cxm (C := cfg) (fn := Tryz.f144) (c := bodyOf Tryz.f144) (n := 25) [4, 7, 10] Tryz.func144 (by kernel_rfl) (by kernel_rfl) [p0] (by kernel_rfl) H).trans (by kernel_rfl)
theorem mc144 {j144_1 dj144_1 : A2} (hj144_1 : L2 j144_1 dj144_1) : L1 (bc144 j144_1) (bc144 dj144_1) := fun _ _ =>
  bR fun _ => bK (bR fun _ => hj144_1 _ _ _) (hj144_1 _ _ _)
noncomputable def rc144 : A1 := fun p0 H => bc144 (rj144_1) p0 H
theorem sc144 : L1 rc144 c144 := fun _ H => le_eq (mc144 (sj144_1 H) _ _) (ec144 _ _)

/-! internal_strconv_bool2_of_int -/
noncomputable def c145 (p0 : AV) (H : Hp) : Res := callw cfg 145 [p0] H
noncomputable def j145_1 (H0 : Hp) (H : Hp) : Res := CXf 145 4 (sub (bodyOf Tryz.f145) [1, 1]) (retL cfg 4 145 Tryz.f145 H0) [] H
noncomputable def b145_1 (H : Hp) : Res :=
  some ((.int .i64 0), H)
theorem e145_1 (H0 : Hp) (H : Hp) : j145_1 H0 H = b145_1 H := (CXM_eq [3] _ _ _ _).trans (by kernel_rfl)
theorem m145_1 : L0 (b145_1) (b145_1) := fun _ =>
  le_refl _
noncomputable def rj145_1 : A0 := b145_1
theorem sj145_1 (H0 : Hp) : L0 (rj145_1) (j145_1 H0) := fun _ => le_eq (m145_1 _) (e145_1 H0 _)
noncomputable def bc145 (j145_1 : A0) (p0 : AV) (H : Hp) : Res :=
  cnd p0
    (some ((.int .i64 1), H))
    (j145_1 H)
theorem ec145 (p0 : AV) (H : Hp) : c145 p0 H = bc145 (j145_1 H) p0 H := (callw_cxm (C := cfg) (fn := Tryz.f145) (c := bodyOf Tryz.f145) (n := 4) [3] Tryz.func145 (by kernel_rfl) (by kernel_rfl) [p0] (by kernel_rfl) H).trans (by kernel_rfl)
theorem mc145 {j145_1 dj145_1 : A0} (hj145_1 : L0 j145_1 dj145_1) : L1 (bc145 j145_1) (bc145 dj145_1) := fun _ _ =>
  bK (le_refl _) (hj145_1 _)
noncomputable def rc145 : A1 := fun p0 H => bc145 (rj145_1) p0 H
theorem sc145 : L1 rc145 c145 := fun _ H => le_eq (mc145 (sj145_1 H) _ _) (ec145 _ _)

/-! internal_strconv_numDigits -/
noncomputable def c137 (p0 : AV) (H : Hp) : Res := callw cfg 137 [p0] H
noncomputable def bc137 (c143 : A1) (c144 : A1) (c145 : A1) (p0 : AV) (H : Hp) : Res :=
  bnd (c144 p0 H) fun r5_1 =>
  bnd (c143 r5_1.1 r5_1.2) fun r6_2 =>
  bnd (aindexA 20 1 .undef r6_2.1) fun t10_3 =>
  bnd (aload false 1 t10_3 r6_2.2) fun t11_4 =>
  bnd (ibin .geq p0 t11_4) fun t12_5 =>
  bnd (c145 t12_5 r6_2.2) fun r13_6 =>
  bnd (ibin .add r6_2.1 r13_6.1) fun t14_7 =>
  some (t14_7, r13_6.2)
theorem ec137 (p0 : AV) (H : Hp) : c137 p0 H = bc137 c143 c144 c145 p0 H := (callw_cxm (C := cfg) (fn := Tryz.f137) (c := bodyOf Tryz.f137) (n := 15) [] Tryz.func137 (by kernel_rfl) (by kernel_rfl) [p0] (by kernel_rfl) H).trans (by kernel_rfl)
theorem mc137 {c143 dc143 : A1} (hc143 : L1 c143 dc143) {c144 dc144 : A1} (hc144 : L1 c144 dc144) {c145 dc145 : A1} (hc145 : L1 c145 dc145) : L1 (bc137 c143 c144 c145) (bc137 dc143 dc144 dc145) := fun _ _ =>
  bC (hc144 _ _) fun _ => bC (hc143 _ _) fun _ => bR fun _ => bR fun _ => bR fun _ => bC (hc145 _ _) fun _ => bR fun _ => le_refl _
noncomputable def rc137 : A1 := fun p0 H => bc137 rc143 rc144 rc145 p0 H
theorem sc137 : L1 rc137 c137 := fun _ H => le_eq (mc137 sc143 sc144 sc145 _ _) (ec137 _ _)

/-! internal_strconv_formatBase10 -/
noncomputable def c138 (p0 p1 : AV) (H : Hp) : Res := callw cfg 138 [p0, p1] H
noncomputable def j138_3 (H0 : Hp) (x0 x4 x12 : AV) (H : Hp) : Res := CXf 138 167 (sub (bodyOf Tryz.f138) [1, 1, 1, 1, 1]) (retL cfg 167 138 Tryz.f138 H0) [(0, x0), (4, x4), (12, x12)] H
noncomputable def j138_2 (H0 : Hp) (x0 x4 x12 : AV) (H : Hp) : Res := CXf 138 167 (sub (bodyOf Tryz.f138) [1, 1, 1, 1]) (retL cfg 167 138 Tryz.f138 H0) [(0, x0), (4, x4), (12, x12)] H
noncomputable def j138_1 (H0 : Hp) (x0 x1 x4 : AV) (H : Hp) : Res := CXf 138 167 (sub (bodyOf Tryz.f138) [1, 1]) (retL cfg 167 138 Tryz.f138 H0) [(0, x0), (1, x1), (4, x4)] H
noncomputable def k138_1 (H0 : Hp) : KL := seqL (fun k al H => CXf 138 167 (sub (bodyOf Tryz.f138) [1, 1]) k (trimL (cfg.keep 138) (sub (bodyOf Tryz.f138) [1, 1]) al) H) (retL cfg 167 138 Tryz.f138 H0)
theorem k138_1_tame (H0 : Hp) : Tame 167 (k138_1 H0) := tame_seq (C := cfg) (kp := cfg.keep 138) (sub (bodyOf Tryz.f138) [1, 1]) (tame_ret 138 Tryz.f138 H0)
noncomputable def j138_4 (H0 : Hp) (x0 x1 x4 : AV) (H : Hp) : Res := CXf 138 167 (sub (bodyOf Tryz.f138) [1, 0, 0, 0, 1]) (seqL (fun k al H => LPf 138 167 (sub (bodyOf Tryz.f138) [1, 0, 0, 0]) k (trimL (cfg.keep 138) (sub (bodyOf Tryz.f138) [1, 0, 0, 0]) al) H) (blockL 0 (k138_1 H0))) [(0, x0), (1, x1), (4, x4)] H
noncomputable def j138_l1 (H0 : Hp) (x0 x1 x4 : AV) (H : Hp) : Res := LPf 138 167 (sub (bodyOf Tryz.f138) [1, 0, 0, 0]) (blockL 0 (k138_1 H0)) [(0, x0), (1, x1), (4, x4)] H
noncomputable def b138_3 (x0 x4 x12 : AV) (H : Hp) : Res :=
  bnd (ibin .gtr x4 (.int .i64 0)) fun t161_3 =>
  cnd t161_3
    (bnd (ibin .add (.int .u32 48) x12) fun t164_4 =>
    bnd (cvInt .u8 t164_4) fun t165_5 =>
    bnd (aindexS 1 x0 (.int .i64 0)) fun t166_6 =>
    bnd (astoreU 1 t166_6 t165_5 H) fun r_7 =>
    some ((.tuple []), r_7.2))
    (some ((.tuple []), H))
theorem e138_3 (H0 : Hp) (x0 x4 x12 : AV) (H : Hp) : j138_3 H0 x0 x4 x12 H = b138_3 x0 x4 x12 H := (CXM_eq [2, 12, 20, 25] _ _ _ _).trans (by kernel_rfl)
theorem m138_3 : L3 (b138_3) (b138_3) := fun _ _ _ _ =>
  bR fun _ => bK (bR fun _ => bR fun _ => bR fun _ => bR fun _ => le_refl _) (le_refl _)
noncomputable def b138_2 (j138_3 : A3) (x0 x4 x12 : AV) (H : Hp) : Res :=
  bnd (ibin .geq x4 (.int .i64 2)) fun t139_8 =>
  cnd t139_8
    (bnd (ibin .rem x12 (.int .u32 100)) fun t141_9 =>
    bnd (ibin .mul t141_9 (.int .u32 2)) fun t142_10 =>
    bnd (ibin .quo x12 (.int .u32 100)) fun t144_11 =>
    bnd (ibin .sub x4 (.int .i64 1)) fun t147_12 =>
    bnd (ibin .sub x4 (.int .i64 2)) fun t150_13 =>
    bnd (ibin .add t142_10 (.int .u32 1)) fun t152_14 =>
    bnd (aindexStr (.str [48, 48, 48, 49, 48, 50, 48, 51, 48, 52, 48, 53, 48, 54, 48, 55, 48, 56, 48, 57, 49, 48, 49, 49, 49, 50, 49, 51, 49, 52, 49, 53, 49, 54, 49, 55, 49, 56, 49, 57, 50, 48, 50, 49, 50, 50, 50, 51, 50, 52, 50, 53, 50, 54, 50, 55, 50, 56, 50, 57, 51, 48, 51, 49, 51, 50, 51, 51, 51, 52, 51, 53, 51, 54, 51, 55, 51, 56, 51, 57, 52, 48, 52, 49, 52, 50, 52, 51, 52, 52, 52, 53, 52, 54, 52, 55, 52, 56, 52, 57, 53, 48, 53, 49, 53, 50, 53, 51, 53, 52, 53, 53, 53, 54, 53, 55, 53, 56, 53, 57, 54, 48, 54, 49, 54, 50, 54, 51, 54, 52, 54, 53, 54, 54, 54, 55, 54, 56, 54, 57, 55, 48, 55, 49, 55, 50, 55, 51, 55, 52, 55, 53, 55, 54, 55, 55, 55, 56, 55, 57, 56, 48, 56, 49, 56, 50, 56, 51, 56, 52, 56, 53, 56, 54, 56, 55, 56, 56, 56, 57, 57, 48, 57, 49, 57, 50, 57, 51, 57, 52, 57, 53, 57, 54, 57, 55, 57, 56, 57, 57]) t152_14) fun t153_15 =>
    bnd (aindexStr (.str [48, 48, 48, 49, 48, 50, 48, 51, 48, 52, 48, 53, 48, 54, 48, 55, 48, 56, 48, 57, 49, 48, 49, 49, 49, 50, 49, 51, 49, 52, 49, 53, 49, 54, 49, 55, 49, 56, 49, 57, 50, 48, 50, 49, 50, 50, 50, 51, 50, 52, 50, 53, 50, 54, 50, 55, 50, 56, 50, 57, 51, 48, 51, 49, 51, 50, 51, 51, 51, 52, 51, 53, 51, 54, 51, 55, 51, 56, 51, 57, 52, 48, 52, 49, 52, 50, 52, 51, 52, 52, 52, 53, 52, 54, 52, 55, 52, 56, 52, 57, 53, 48, 53, 49, 53, 50, 53, 51, 53, 52, 53, 53, 53, 54, 53, 55, 53, 56, 53, 57, 54, 48, 54, 49, 54, 50, 54, 51, 54, 52, 54, 53, 54, 54, 54, 55, 54, 56, 54, 57, 55, 48, 55, 49, 55, 50, 55, 51, 55, 52, 55, 53, 55, 54, 55, 55, 55, 56, 55, 57, 56, 48, 56, 49, 56, 50, 56, 51, 56, 52, 56, 53, 56, 54, 56, 55, 56, 56, 56, 57, 57, 48, 57, 49, 57, 50, 57, 51, 57, 52, 57, 53, 57, 54, 57, 55, 57, 56, 57, 57]) t142_10) fun t155_16 =>
    bnd (aindexS 1 x0 t147_12) fun t156_17 =>
    bnd (astoreU 1 t156_17 t153_15 H) fun r_18 =>
    bnd (aindexS 1 x0 t150_13) fun t157_19 =>
    bnd (astoreU 1 t157_19 t155_16 r_18.2) fun r_20 =>
    bnd (ibin .sub x4 (.int .i64 2)) fun t159_21 =>
    j138_3 x0 t159_21 t144_11 r_20.2)
    (j138_3 x0 x4 x12 H)
theorem e138_2 (H0 : Hp) (x0 x4 x12 : AV) (H : Hp) : j138_2 H0 x0 x4 x12 H = b138_2 (j138_3 H0) x0 x4 x12 H := (CXM_eq [2, 12, 20, 25] _ _ _ _).trans (by kernel_rfl)
theorem m138_2 {j138_3 dj138_3 : A3} (hj138_3 : L3 j138_3 dj138_3) : L3 (b138_2 j138_3) (b138_2 dj138_3) := fun _ _ _ _ =>
  bR fun _ => bK (bR fun _ => bR fun _ => bR fun _ => bR fun _ => bR fun _ => bR fun _ => bR fun _ => bR fun _ => bR fun _ => bR fun _ => bR fun _ => bR fun _ => bR fun _ => hj138_3 _ _ _ _) (hj138_3 _ _ _ _)
noncomputable def b138_1 (j138_2 : A3) (x0 x1 x4 : AV) (H : Hp) : Res :=
  bnd (cvInt .u32 x1) fun t97_2 =>
  bnd (ibin .geq x4 (.int .i64 4)) fun t99_22 =>
  cnd t99_22
    (bnd (ibin .rem t97_2 (.int .u32 10000)) fun t101_23 =>
    bnd (ibin .quo t97_2 (.int .u32 10000)) fun t103_24 =>
    bnd (ibin .quo t101_23 (.int .u32 100)) fun t105_25 =>
    bnd (ibin .mul t105_25 (.int .u32 2)) fun t106_26 =>
    bnd (ibin .rem t101_23 (.int .u32 100)) fun t108_27 =>
    bnd (ibin .mul t108_27 (.int .u32 2)) fun t109_28 =>
    bnd (ibin .sub x4 (.int .i64 1)) fun t112_29 =>
    bnd (ibin .sub x4 (.int .i64 2)) fun t115_30 =>
    bnd (ibin .add t109_28 (.int .u32 1)) fun t117_31 =>
    bnd (aindexStr (.str [48, 48, 48, 49, 48, 50, 48, 51, 48, 52, 48, 53, 48, 54, 48, 55, 48, 56, 48, 57, 49, 48, 49, 49, 49, 50, 49, 51, 49, 52, 49, 53, 49, 54, 49, 55, 49, 56, 49, 57, 50, 48, 50, 49, 50, 50, 50, 51, 50, 52, 50, 53, 50, 54, 50, 55, 50, 56, 50, 57, 51, 48, 51, 49, 51, 50, 51, 51, 51, 52, 51, 53, 51, 54, 51, 55, 51, 56, 51, 57, 52, 48, 52, 49, 52, 50, 52, 51, 52, 52, 52, 53, 52, 54, 52, 55, 52, 56, 52, 57, 53, 48, 53, 49, 53, 50, 53, 51, 53, 52, 53, 53, 53, 54, 53, 55, 53, 56, 53, 57, 54, 48, 54, 49, 54, 50, 54, 51, 54, 52, 54, 53, 54, 54, 54, 55, 54, 56, 54, 57, 55, 48, 55, 49, 55, 50, 55, 51, 55, 52, 55, 53, 55, 54, 55, 55, 55, 56, 55, 57, 56, 48, 56, 49, 56, 50, 56, 51, 56, 52, 56, 53, 56, 54, 56, 55, 56, 56, 56, 57, 57, 48, 57, 49, 57, 50, 57, 51, 57, 52, 57, 53, 57, 54, 57, 55, 57, 56, 57, 57]) t117_31) fun t118_32 =>
    bnd (aindexStr (.str [48, 48, 48, 49, 48, 50, 48, 51, 48, 52, 48, 53, 48, 54, 48, 55, 48, 56, 48, 57, 49, 48, 49, 49, 49, 50, 49, 51, 49, 52, 49, 53, 49, 54, 49, 55, 49, 56, 49, 57, 50, 48, 50, 49, 50, 50, 50, 51, 50, 52, 50, 53, 50, 54, 50, 55, 50, 56, 50, 57, 51, 48, 51, 49, 51, 50, 51, 51, 51, 52, 51, 53, 51, 54, 51, 55, 51, 56, 51, 57, 52, 48, 52, 49, 52, 50, 52, 51, 52, 52, 52, 53, 52, 54, 52, 55, 52, 56, 52, 57, 53, 48, 53, 49, 53, 50, 53, 51, 53, 52, 53, 53, 53, 54, 53, 55, 53, 56, 53, 57, 54, 48, 54, 49, 54, 50, 54, 51, 54, 52, 54, 53, 54, 54, 54, 55, 54, 56, 54, 57, 55, 48, 55, 49, 55, 50, 55, 51, 55, 52, 55, 53, 55, 54, 55, 55, 55, 56, 55, 57, 56, 48, 56, 49, 56, 50, 56, 51, 56, 52, 56, 53, 56, 54, 56, 55, 56, 56, 56, 57, 57, 48, 57, 49, 57, 50, 57, 51, 57, 52, 57, 53, 57, 54, 57, 55, 57, 56, 57, 57]) t109_28) fun t120_33 =>
    bnd (aindexS 1 x0 t112_29) fun t121_34 =>
    bnd (astoreU 1 t121_34 t118_32 H) fun r_35 =>
    bnd (aindexS 1 x0 t115_30) fun t122_36 =>
    bnd (astoreU 1 t122_36 t120_33 r_35.2) fun r_37 =>
    bnd (ibin .sub x4 (.int .i64 3)) fun t125_38 =>
    bnd (ibin .sub x4 (.int .i64 4)) fun t128_39 =>
    bnd (ibin .add t106_26 (.int .u32 1)) fun t130_40 =>
    bnd (aindexStr (.str [48, 48, 48, 49, 48, 50, 48, 51, 48, 52, 48, 53, 48, 54, 48, 55, 48, 56, 48, 57, 49, 48, 49, 49, 49, 50, 49, 51, 49, 52, 49, 53, 49, 54, 49, 55, 49, 56, 49, 57, 50, 48, 50, 49, 50, 50, 50, 51, 50, 52, 50, 53, 50, 54, 50, 55, 50, 56, 50, 57, 51, 48, 51, 49, 51, 50, 51, 51, 51, 52, 51, 53, 51, 54, 51, 55, 51, 56, 51, 57, 52, 48, 52, 49, 52, 50, 52, 51, 52, 52, 52, 53, 52, 54, 52, 55, 52, 56, 52, 57, 53, 48, 53, 49, 53, 50, 53, 51, 53, 52, 53, 53, 53, 54, 53, 55, 53, 56, 53, 57, 54, 48, 54, 49, 54, 50, 54, 51, 54, 52, 54, 53, 54, 54, 54, 55, 54, 56, 54, 57, 55, 48, 55, 49, 55, 50, 55, 51, 55, 52, 55, 53, 55, 54, 55, 55, 55, 56, 55, 57, 56, 48, 56, 49, 56, 50, 56, 51, 56, 52, 56, 53, 56, 54, 56, 55, 56, 56, 56, 57, 57, 48, 57, 49, 57, 50, 57, 51, 57, 52, 57, 53, 57, 54, 57, 55, 57, 56, 57, 57]) t130_40) fun t131_41 =>
    bnd (aindexStr (.str [48, 48, 48, 49, 48, 50, 48, 51, 48, 52, 48, 53, 48, 54, 48, 55, 48, 56, 48, 57, 49, 48, 49, 49, 49, 50, 49, 51, 49, 52, 49, 53, 49, 54, 49, 55, 49, 56, 49, 57, 50, 48, 50, 49, 50, 50, 50, 51, 50, 52, 50, 53, 50, 54, 50, 55, 50, 56, 50, 57, 51, 48, 51, 49, 51, 50, 51, 51, 51, 52, 51, 53, 51, 54, 51, 55, 51, 56, 51, 57, 52, 48, 52, 49, 52, 50, 52, 51, 52, 52, 52, 53, 52, 54, 52, 55, 52, 56, 52, 57, 53, 48, 53, 49, 53, 50, 53, 51, 53, 52, 53, 53, 53, 54, 53, 55, 53, 56, 53, 57, 54, 48, 54, 49, 54, 50, 54, 51, 54, 52, 54, 53, 54, 54, 54, 55, 54, 56, 54, 57, 55, 48, 55, 49, 55, 50, 55, 51, 55, 52, 55, 53, 55, 54, 55, 55, 55, 56, 55, 57, 56, 48, 56, 49, 56, 50, 56, 51, 56, 52, 56, 53, 56, 54, 56, 55, 56, 56, 56, 57, 57, 48, 57, 49, 57, 50, 57, 51, 57, 52, 57, 53, 57, 54, 57, 55, 57, 56, 57, 57]) t106_26) fun t133_42 =>
    bnd (aindexS 1 x0 t125_38) fun t134_43 =>
    bnd (astoreU 1 t134_43 t131_41 r_37.2) fun r_44 =>
    bnd (aindexS 1 x0 t128_39) fun t135_45 =>
    bnd (astoreU 1 t135_45 t133_42 r_44.2) fun r_46 =>
    bnd (ibin .sub x4 (.int .i64 4)) fun t137_47 =>
    j138_2 x0 t137_47 t103_24 r_46.2)
    (j138_2 x0 x4 t97_2 H)
theorem e138_1 (H0 : Hp) (x0 x1 x4 : AV) (H : Hp) : j138_1 H0 x0 x1 x4 H = b138_1 (j138_2 H0) x0 x1 x4 H := (CXM_eq [2, 12, 20, 25] _ _ _ _).trans (by kernel_rfl)
theorem m138_1 {j138_2 dj138_2 : A3} (hj138_2 : L3 j138_2 dj138_2) : L3 (b138_1 j138_2) (b138_1 dj138_2) := fun _ _ _ _ =>
  bR fun _ => bR fun _ => bK (bR fun _ => bR fun _ => bR fun _ => bR fun _ => bR fun _ => bR fun _ => bR fun _ => bR fun _ => bR fun _ => bR fun _ => bR fun _ => bR fun _ => bR fun _ => bR fun _ => bR fun _ => bR fun _ => bR fun _ => bR fun _ => bR fun _ => bR fun _ => bR fun _ => bR fun _ => bR fun _ => bR fun _ => bR fun _ => hj138_2 _ _ _ _) (hj138_2 _ _ _ _)
noncomputable def b138_4 (j138_l1 : A3) (x0 x1 x4 : AV) (H : Hp) : Res :=
  bnd (ibin .rem x1 (.int .u64 100000000)) fun t22_48 =>
  bnd (cvInt .u32 t22_48) fun t23_49 =>
  bnd (ibin .quo x1 (.int .u64 100000000)) fun t25_50 =>
  bnd (ibin .quo t23_49 (.int .u32 10000)) fun t27_51 =>
  bnd (ibin .rem t23_49 (.int .u32 10000)) fun t29_52 =>
  bnd (ibin .quo t29_52 (.int .u32 100)) fun t31_53 =>
  bnd (ibin .mul t31_53 (.int .u32 2)) fun t32_54 =>
  bnd (ibin .rem t29_52 (.int .u32 100)) fun t34_55 =>
  bnd (ibin .mul t34_55 (.int .u32 2)) fun t35_56 =>
  bnd (ibin .quo t27_51 (.int .u32 100)) fun t37_57 =>
  bnd (ibin .mul t37_57 (.int .u32 2)) fun t38_58 =>
  bnd (ibin .rem t27_51 (.int .u32 100)) fun t40_59 =>
  bnd (ibin .mul t40_59 (.int .u32 2)) fun t41_60 =>
  bnd (ibin .sub x4 (.int .i64 1)) fun t44_61 =>
  bnd (ibin .sub x4 (.int .i64 2)) fun t47_62 =>
  bnd (ibin .add t35_56 (.int .u32 1)) fun t49_63 =>
  bnd (aindexStr (.str [48, 48, 48, 49, 48, 50, 48, 51, 48, 52, 48, 53, 48, 54, 48, 55, 48, 56, 48, 57, 49, 48, 49, 49, 49, 50, 49, 51, 49, 52, 49, 53, 49, 54, 49, 55, 49, 56, 49, 57, 50, 48, 50, 49, 50, 50, 50, 51, 50, 52, 50, 53, 50, 54, 50, 55, 50, 56, 50, 57, 51, 48, 51, 49, 51, 50, 51, 51, 51, 52, 51, 53, 51, 54, 51, 55, 51, 56, 51, 57, 52, 48, 52, 49, 52, 50, 52, 51, 52, 52, 52, 53, 52, 54, 52, 55, 52, 56, 52, 57, 53, 48, 53, 49, 53, 50, 53, 51, 53, 52, 53, 53, 53, 54, 53, 55, 53, 56, 53, 57, 54, 48, 54, 49, 54, 50, 54, 51, 54, 52, 54, 53, 54, 54, 54, 55, 54, 56, 54, 57, 55, 48, 55, 49, 55, 50, 55, 51, 55, 52, 55, 53, 55, 54, 55, 55, 55, 56, 55, 57, 56, 48, 56, 49, 56, 50, 56, 51, 56, 52, 56, 53, 56, 54, 56, 55, 56, 56, 56, 57, 57, 48, 57, 49, 57, 50, 57, 51, 57, 52, 57, 53, 57, 54, 57, 55, 57, 56, 57, 57]) t49_63) fun t50_64 =>
  bnd (aindexStr (.str [48, 48, 48, 49, 48, 50, 48, 51, 48, 52, 48, 53, 48, 54, 48, 55, 48, 56, 48, 57, 49, 48, 49, 49, 49, 50, 49, 51, 49, 52, 49, 53, 49, 54, 49, 55, 49, 56, 49, 57, 50, 48, 50, 49, 50, 50, 50, 51, 50, 52, 50, 53, 50, 54, 50, 55, 50, 56, 50, 57, 51, 48, 51, 49, 51, 50, 51, 51, 51, 52, 51, 53, 51, 54, 51, 55, 51, 56, 51, 57, 52, 48, 52, 49, 52, 50, 52, 51, 52, 52, 52, 53, 52, 54, 52, 55, 52, 56, 52, 57, 53, 48, 53, 49, 53, 50, 53, 51, 53, 52, 53, 53, 53, 54, 53, 55, 53, 56, 53, 57, 54, 48, 54, 49, 54, 50, 54, 51, 54, 52, 54, 53, 54, 54, 54, 55, 54, 56, 54, 57, 55, 48, 55, 49, 55, 50, 55, 51, 55, 52, 55, 53, 55, 54, 55, 55, 55, 56, 55, 57, 56, 48, 56, 49, 56, 50, 56, 51, 56, 52, 56, 53, 56, 54, 56, 55, 56, 56, 56, 57, 57, 48, 57, 49, 57, 50, 57, 51, 57, 52, 57, 53, 57, 54, 57, 55, 57, 56, 57, 57]) t35_56) fun t52_65 =>
  bnd (aindexS 1 x0 t44_61) fun t53_66 =>
  bnd (astoreU 1 t53_66 t50_64 H) fun r_67 =>
  bnd (aindexS 1 x0 t47_62) fun t54_68 =>
  bnd (astoreU 1 t54_68 t52_65 r_67.2) fun r_69 =>
  bnd (ibin .sub x4 (.int .i64 3)) fun t57_70 =>
  bnd (ibin .sub x4 (.int .i64 4)) fun t60_71 =>
  bnd (ibin .add t32_54 (.int .u32 1)) fun t62_72 =>
  bnd (aindexStr (.str [48, 48, 48, 49, 48, 50, 48, 51, 48, 52, 48, 53, 48, 54, 48, 55, 48, 56, 48, 57, 49, 48, 49, 49, 49, 50, 49, 51, 49, 52, 49, 53, 49, 54, 49, 55, 49, 56, 49, 57, 50, 48, 50, 49, 50, 50, 50, 51, 50, 52, 50, 53, 50, 54, 50, 55, 50, 56, 50, 57, 51, 48, 51, 49, 51, 50, 51, 51, 51, 52, 51, 53, 51, 54, 51, 55, 51, 56, 51, 57, 52, 48, 52, 49, 52, 50, 52, 51, 52, 52, 52, 53, 52, 54, 52, 55, 52, 56, 52, 57, 53, 48, 53, 49, 53, 50, 53, 51, 53, 52, 53, 53, 53, 54, 53, 55, 53, 56, 53, 57, 54, 48, 54, 49, 54, 50, 54, 51, 54, 52, 54, 53, 54, 54, 54, 55, 54, 56, 54, 57, 55, 48, 55, 49, 55, 50, 55, 51, 55, 52, 55, 53, 55, 54, 55, 55, 55, 56, 55, 57, 56, 48, 56, 49, 56, 50, 56, 51, 56, 52, 56, 53, 56, 54, 56, 55, 56, 56, 56, 57, 57, 48, 57, 49, 57, 50, 57, 51, 57, 52, 57, 53, 57, 54, 57, 55, 57, 56, 57, 57]) t62_72) fun t63_73 =>
  bnd (aindexStr (.str [48, 48, 48, 49, 48, 50, 48, 51, 48, 52, 48, 53, 48, 54, 48, 55, 48, 56, 48, 57, 49, 48, 49, 49, 49, 50, 49, 51, 49, 52, 49, 53, 49, 54, 49, 55, 49, 56, 49, 57, 50, 48, 50, 49, 50, 50, 50, 51, 50, 52, 50, 53, 50, 54, 50, 55, 50, 56, 50, 57, 51, 48, 51, 49, 51, 50, 51, 51, 51, 52, 51, 53, 51, 54, 51, 55, 51, 56, 51, 57, 52, 48, 52, 49, 52, 50, 52, 51, 52, 52, 52, 53, 52, 54, 52, 55, 52, 56, 52, 57, 53, 48, 53, 49, 53, 50, 53, 51, 53, 52, 53, 53, 53, 54, 53, 55, 53, 56, 53, 57, 54, 48, 54, 49, 54, 50, 54, 51, 54, 52, 54, 53, 54, 54, 54, 55, 54, 56, 54, 57, 55, 48, 55, 49, 55, 50, 55, 51, 55, 52, 55, 53, 55, 54, 55, 55, 55, 56, 55, 57, 56, 48, 56, 49, 56, 50, 56, 51, 56, 52, 56, 53, 56, 54, 56, 55, 56, 56, 56, 57, 57, 48, 57, 49, 57, 50, 57, 51, 57, 52, 57, 53, 57, 54, 57, 55, 57, 56, 57, 57]) t32_54) fun t65_74 =>
  bnd (aindexS 1 x0 t57_70) fun t66_75 =>
  bnd (astoreU 1 t66_75 t63_73 r_69.2) fun r_76 =>
  bnd (aindexS 1 x0 t60_71) fun t67_77 =>
  bnd (astoreU 1 t67_77 t65_74 r_76.2) fun r_78 =>
  bnd (ibin .sub x4 (.int .i64 5)) fun t70_79 =>
  bnd (ibin .sub x4 (.int .i64 6)) fun t73_80 =>
  bnd (ibin .add t41_60 (.int .u32 1)) fun t75_81 =>
  bnd (aindexStr (.str [48, 48, 48, 49, 48, 50, 48, 51, 48, 52, 48, 53, 48, 54, 48, 55, 48, 56, 48, 57, 49, 48, 49, 49, 49, 50, 49, 51, 49, 52, 49, 53, 49, 54, 49, 55, 49, 56, 49, 57, 50, 48, 50, 49, 50, 50, 50, 51, 50, 52, 50, 53, 50, 54, 50, 55, 50, 56, 50, 57, 51, 48, 51, 49, 51, 50, 51, 51, 51, 52, 51, 53, 51, 54, 51, 55, 51, 56, 51, 57, 52, 48, 52, 49, 52, 50, 52, 51, 52, 52, 52, 53, 52, 54, 52, 55, 52, 56, 52, 57, 53, 48, 53, 49, 53, 50, 53, 51, 53, 52, 53, 53, 53, 54, 53, 55, 53, 56, 53, 57, 54, 48, 54, 49, 54, 50, 54, 51, 54, 52, 54, 53, 54, 54, 54, 55, 54, 56, 54, 57, 55, 48, 55, 49, 55, 50, 55, 51, 55, 52, 55, 53, 55, 54, 55, 55, 55, 56, 55, 57, 56, 48, 56, 49, 56, 50, 56, 51, 56, 52, 56, 53, 56, 54, 56, 55, 56, 56, 56, 57, 57, 48, 57, 49, 57, 50, 57, 51, 57, 52, 57, 53, 57, 54, 57, 55, 57, 56, 57, 57]) t75_81) fun t76_82 =>
  bnd (aindexStr (.str [48, 48, 48, 49, 48, 50, 48, 51, 48, 52, 48, 53, 48, 54, 48, 55, 48, 56, 48, 57, 49, 48, 49, 49, 49, 50, 49, 51, 49, 52, 49, 53, 49, 54, 49, 55, 49, 56, 49, 57, 50, 48, 50, 49, 50, 50, 50, 51, 50, 52, 50, 53, 50, 54, 50, 55, 50, 56, 50, 57, 51, 48, 51, 49, 51, 50, 51, 51, 51, 52, 51, 53, 51, 54, 51, 55, 51, 56, 51, 57, 52, 48, 52, 49, 52, 50, 52, 51, 52, 52, 52, 53, 52, 54, 52, 55, 52, 56, 52, 57, 53, 48, 53, 49, 53, 50, 53, 51, 53, 52, 53, 53, 53, 54, 53, 55, 53, 56, 53, 57, 54, 48, 54, 49, 54, 50, 54, 51, 54, 52, 54, 53, 54, 54, 54, 55, 54, 56, 54, 57, 55, 48, 55, 49, 55, 50, 55, 51, 55, 52, 55, 53, 55, 54, 55, 55, 55, 56, 55, 57, 56, 48, 56, 49, 56, 50, 56, 51, 56, 52, 56, 53, 56, 54, 56, 55, 56, 56, 56, 57, 57, 48, 57, 49, 57, 50, 57, 51, 57, 52, 57, 53, 57, 54, 57, 55, 57, 56, 57, 57]) t41_60) fun t78_83 =>
  bnd (aindexS 1 x0 t70_79) fun t79_84 =>
  bnd (astoreU 1 t79_84 t76_82 r_78.2) fun r_85 =>
  bnd (aindexS 1 x0 t73_80) fun t80_86 =>
  bnd (astoreU 1 t80_86 t78_83 r_85.2) fun r_87 =>
  bnd (ibin .sub x4 (.int .i64 7)) fun t83_88 =>
  bnd (ibin .sub x4 (.int .i64 8)) fun t86_89 =>
  bnd (ibin .add t38_58 (.int .u32 1)) fun t88_90 =>
  bnd (aindexStr (.str [48, 48, 48, 49, 48, 50, 48, 51, 48, 52, 48, 53, 48, 54, 48, 55, 48, 56, 48, 57, 49, 48, 49, 49, 49, 50, 49, 51, 49, 52, 49, 53, 49, 54, 49, 55, 49, 56, 49, 57, 50, 48, 50, 49, 50, 50, 50, 51, 50, 52, 50, 53, 50, 54, 50, 55, 50, 56, 50, 57, 51, 48, 51, 49, 51, 50, 51, 51, 51, 52, 51, 53, 51, 54, 51, 55, 51, 56, 51, 57, 52, 48, 52, 49, 52, 50, 52, 51, 52, 52, 52, 53, 52, 54, 52, 55, 52, 56, 52, 57, 53, 48, 53, 49, 53, 50, 53, 51, 53, 52, 53, 53, 53, 54, 53, 55, 53, 56, 53, 57, 54, 48, 54, 49, 54, 50, 54, 51, 54, 52, 54, 53, 54, 54, 54, 55, 54, 56, 54, 57, 55, 48, 55, 49, 55, 50, 55, 51, 55, 52, 55, 53, 55, 54, 55, 55, 55, 56, 55, 57, 56, 48, 56, 49, 56, 50, 56, 51, 56, 52, 56, 53, 56, 54, 56, 55, 56, 56, 56, 57, 57, 48, 57, 49, 57, 50, 57, 51, 57, 52, 57, 53, 57, 54, 57, 55, 57, 56, 57, 57]) t88_90) fun t89_91 =>
  bnd (aindexStr (.str [48, 48, 48, 49, 48, 50, 48, 51, 48, 52, 48, 53, 48, 54, 48, 55, 48, 56, 48, 57, 49, 48, 49, 49, 49, 50, 49, 51, 49, 52, 49, 53, 49, 54, 49, 55, 49, 56, 49, 57, 50, 48, 50, 49, 50, 50, 50, 51, 50, 52, 50, 53, 50, 54, 50, 55, 50, 56, 50, 57, 51, 48, 51, 49, 51, 50, 51, 51, 51, 52, 51, 53, 51, 54, 51, 55, 51, 56, 51, 57, 52, 48, 52, 49, 52, 50, 52, 51, 52, 52, 52, 53, 52, 54, 52, 55, 52, 56, 52, 57, 53, 48, 53, 49, 53, 50, 53, 51, 53, 52, 53, 53, 53, 54, 53, 55, 53, 56, 53, 57, 54, 48, 54, 49, 54, 50, 54, 51, 54, 52, 54, 53, 54, 54, 54, 55, 54, 56, 54, 57, 55, 48, 55, 49, 55, 50, 55, 51, 55, 52, 55, 53, 55, 54, 55, 55, 55, 56, 55, 57, 56, 48, 56, 49, 56, 50, 56, 51, 56, 52, 56, 53, 56, 54, 56, 55, 56, 56, 56, 57, 57, 48, 57, 49, 57, 50, 57, 51, 57, 52, 57, 53, 57, 54, 57, 55, 57, 56, 57, 57]) t38_58) fun t91_92 =>
  bnd (aindexS 1 x0 t83_88) fun t92_93 =>
  bnd (astoreU 1 t92_93 t89_91 r_87.2) fun r_94 =>
  bnd (aindexS 1 x0 t86_89) fun t93_95 =>
  bnd (astoreU 1 t93_95 t91_92 r_94.2) fun r_96 =>
  bnd (ibin .sub x4 (.int .i64 8)) fun t95_97 =>
  j138_l1 x0 t25_50 t95_97 r_96.2
theorem e138_4 (H0 : Hp) (x0 x1 x4 : AV) (H : Hp) : j138_4 H0 x0 x1 x4 H = b138_4 (j138_l1 H0) x0 x1 x4 H := (CXM_eq [2, 12, 20, 25] _ _ _ _).trans (by kernel_rfl)
theorem m138_4 {j138_l1 dj138_l1 : A3} (hj138_l1 : L3 j138_l1 dj138_l1) : L3 (b138_4 j138_l1) (b138_4 dj138_l1) := fun _ _ _ _ =>
  bR fun _ => bR fun _ => bR fun _ => bR fun _ => bR fun _ => bR fun _ => bR fun _ => bR fun _ => bR fun _ => bR fun _ => bR fun _ => bR fun _ => bR fun _ => bR fun _ => bR fun _ => bR fun _ => bR fun _ => bR fun _ => bR fun _ => bR fun _ => bR fun _ => bR fun _ => bR fun _ => bR fun _ => bR fun _ => bR fun _ => bR fun _ => bR fun _ => bR fun _ => bR fun _ => bR fun _ => bR fun _ => bR fun _ => bR fun _ => bR fun _ => bR fun _ => bR fun _ => bR fun _ => bR fun _ => bR fun _ => bR fun _ => bR fun _ => bR fun _ => bR fun _ => bR fun _ => bR fun _ => bR fun _ => bR fun _ => bR fun _ => bR fun _ => hj138_l1 _ _ _ _
noncomputable def b138_l1 (j138_1 : A3) (j138_4 : A3) (x0 x1 x4 : AV) (H : Hp) : Res :=
  bnd (ibin .geq x4 (.int .i64 8)) fun t20_98 =>
  cnd t20_98
    (j138_4 x0 x1 x4 H)
    (j138_1 x0 x1 x4 H)
theorem e138_l1 (H0 : Hp) (x0 x1 x4 : AV) (H : Hp) : j138_l1 H0 x0 x1 x4 H = b138_l1 (j138_1 H0) (j138_4 H0) x0 x1 x4 H := (LPL_eqm (C := cfg) [2, 12, 20, 25] (tame_block 0 (k138_1_tame H0)) _ _).trans (by kernel_rfl)
theorem m138_l1 {j138_1 dj138_1 : A3} (hj138_1 : L3 j138_1 dj138_1) {j138_4 dj138_4 : A3} (hj138_4 : L3 j138_4 dj138_4) : L3 (b138_l1 j138_1 j138_4) (b138_l1 dj138_1 dj138_4) := fun _ _ _ _ =>
  bR fun _ => bK (hj138_4 _ _ _ _) (hj138_1 _ _ _ _)
noncomputable def rj138_3 : A3 := b138_3
theorem sj138_3 (H0 : Hp) : L3 (rj138_3) (j138_3 H0) := fun _ _ _ _ => le_eq (m138_3 _ _ _ _) (e138_3 H0 _ _ _ _)
noncomputable def rj138_2 : A3 := b138_2 (rj138_3)
theorem sj138_2 (H0 : Hp) : L3 (rj138_2) (j138_2 H0) := fun _ _ _ _ => le_eq (m138_2 (sj138_3 H0) _ _ _ _) (e138_2 H0 _ _ _ _)
noncomputable def rj138_1 : A3 := b138_1 (rj138_2)
theorem sj138_1 (H0 : Hp) : L3 (rj138_1) (j138_1 H0) := fun _ _ _ _ => le_eq (m138_1 (sj138_2 H0) _ _ _ _) (e138_1 H0 _ _ _ _)
noncomputable def rj138_4 (j138_l1 : A3) : A3 := b138_4 j138_l1
theorem sj138_4 (H0 : Hp) {yj138_l1 : A3} (hj138_l1 : L3 yj138_l1 (j138_l1 H0)) : L3 (rj138_4 yj138_l1) (j138_4 H0) := fun _ _ _ _ => le_eq (m138_4 hj138_l1 _ _ _ _) (e138_4 H0 _ _ _ _)
noncomputable def rj138_l1 (n : Nat) : A3 := @Nat.rec (fun _ => A3) (fun _ _ _ _ => none) (fun _ j138_l1 => b138_l1 (rj138_1) (rj138_4 j138_l1)) n
theorem sj138_l1 (H0 : Hp) (n : Nat) : L3 (rj138_l1 n) (j138_l1 H0) := by
  induction n with
  | zero => exact fun _ _ _ _ => le_none _
  | succ n hj138_l1 => exact fun _ _ _ _ => le_eq (m138_l1 (sj138_1 H0) (sj138_4 H0 hj138_l1) _ _ _ _) (e138_l1 H0 _ _ _ _)
noncomputable def bc138 (j138_l1 : A3) (p0 p1 : AV) (H : Hp) : Res :=
  bnd (alenD (.slice 5) p0) fun t18_1 =>
  j138_l1 p0 p1 t18_1 H
theorem ec138 (p0 p1 : AV) (H : Hp) : c138 p0 p1 H = bc138 (j138_l1 H) p0 p1 H := (callw_cxm (C := cfg) (fn := Tryz.f138) (c := bodyOf Tryz.f138) (n := 167) [2, 12, 20, 25] Tryz.func138 (by kernel_rfl) (by kernel_rfl) [p0, p1] (by kernel_rfl) H).trans (by kernel_rfl)
theorem mc138 {j138_l1 dj138_l1 : A3} (hj138_l1 : L3 j138_l1 dj138_l1) : L2 (bc138 j138_l1) (bc138 dj138_l1) := fun _ _ _ =>
  bR fun _ => hj138_l1 _ _ _ _
noncomputable def rc138 : A2 := fun p0 p1 H => bc138 (rj138_l1 100000) p0 p1 H
theorem sc138 : L2 rc138 c138 := fun _ _ H => le_eq (mc138 (sj138_l1 H 100000) _ _ _) (ec138 _ _ _)

/-! internal_strconv_isPowerOfTwo -/
noncomputable def c146 (p0 : AV) (H : Hp) : Res := callw cfg 146 [p0] H
noncomputable def bc146 (p0 : AV) (H : Hp) : Res :=
  bnd (ibin .sub p0 (.int .i64 1)) fun t5_1 =>
  bnd (ibin .and p0 t5_1) fun t6_2 =>
  bnd (ibin .eql t6_2 (.int .i64 0)) fun t7_3 =>
  some (t7_3, H)
theorem ec146 (p0 : AV) (H : Hp) : c146 p0 H = bc146 p0 H := (callw_cxm (C := cfg) (fn := Tryz.f146) (c := bodyOf Tryz.f146) (n := 8) [] Tryz.func146 (by kernel_rfl) (by kernel_rfl) [p0] (by kernel_rfl) H).trans (by kernel_rfl)
theorem mc146 : L1 (bc146) (bc146) := fun _ _ =>
  bR fun _ => bR fun _ => bR fun _ => le_refl _
noncomputable def rc146 : A1 := fun p0 H => bc146 p0 H
theorem sc146 : L1 rc146 c146 := fun _ H => le_eq (mc146 _ _) (ec146 _ _)

/-! math_bits_TrailingZeros32 -/
noncomputable def c150 (p0 : AV) (H : Hp) : Res := callw cfg 150 [p0] H
noncomputable def j150_1 (H0 : Hp) (x0 : AV) (H : Hp) : Res := CXf 150 14 (sub (bodyOf Tryz.f150) [1, 1]) (retL cfg 14 150 Tryz.f150 H0) [(0, x0)] H
noncomputable def b150_1 (x0 : AV) (H : Hp) : Res :=
  bnd (aun .neg x0) fun t7_1 =>
  bnd (ibin .and x0 t7_1) fun t8_2 =>
  bnd (ibin .mul t8_2 (.int .u32 125613361)) fun t9_3 =>
  bnd (ibin .shr t9_3 (.int .u64 27)) fun t10_4 =>
  bnd (aindexA 32 1 .undef t10_4) fun t11_5 =>
  bnd (aload false 1 t11_5 H) fun t12_6 =>
  bnd (cvInt .i64 t12_6) fun t13_7 =>
  some (t13_7, H)
theorem e150_1 (H0 : Hp) (x0 : AV) (H : Hp) : j150_1 H0 x0 H = b150_1 x0 H := (CXM_eq [3] _ _ _ _).trans (by kernel_rfl)
theorem m150_1 : L1 (b150_1) (b150_1) := fun _ _ =>
  bR fun _ => bR fun _ => bR fun _ => bR fun _ => bR fun _ => bR fun _ => bR fun _ => le_refl _
noncomputable def rj150_1 : A1 := b150_1
theorem sj150_1 (H0 : Hp) : L1 (rj150_1) (j150_1 H0) := fun _ _ => le_eq (m150_1 _ _) (e150_1 H0 _ _)
noncomputable def bc150 (j150_1 : A1) (p0 : AV) (H : Hp) : Res :=
  bnd (ibin .eql p0 (.int .u32 0)) fun t4_8 =>
  cnd t4_8
    (some ((.int .i64 32), H))
    (j150_1 p0 H)
theorem ec150 (p0 : AV) (H : Hp) : c150 p0 H = bc150 (j150_1 H) p0 H := (callw_cxm (C := cfg) (fn := Tryz.f150) (c := bodyOf Tryz.f150) (n := 14) [3] Tryz.func150 (by kernel_rfl) (by kernel_rfl) [p0] (by kernel_rfl) H).trans (by kernel_rfl)
theorem mc150 {j150_1 dj150_1 : A1} (hj150_1 : L1 j150_1 dj150_1) : L1 (bc150 j150_1) (bc150 dj150_1) := fun _ _ =>
  bR fun _ => bK (le_refl _) (hj150_1 _ _)
noncomputable def rc150 : A1 := fun p0 H => bc150 (rj150_1) p0 H
theorem sc150 : L1 rc150 c150 := fun _ H => le_eq (mc150 (sj150_1 H) _ _) (ec150 _ _)

/-! math_bits_TrailingZeros64 -/
noncomputable def c151 (p0 : AV) (H : Hp) : Res := callw cfg 151 [p0] H
noncomputable def j151_1 (H0 : Hp) (x0 : AV) (H : Hp) : Res := CXf 151 14 (sub (bodyOf Tryz.f151) [1, 1]) (retL cfg 14 151 Tryz.f151 H0) [(0, x0)] H
noncomputable def b151_1 (x0 : AV) (H : Hp) : Res :=
  bnd (aun .neg x0) fun t7_1 =>
  bnd (ibin .and x0 t7_1) fun t8_2 =>
  bnd (ibin .mul t8_2 (.int .u64 285870213051353865)) fun t9_3 =>
  bnd (ibin .shr t9_3 (.int .u64 58)) fun t10_4 =>
  bnd (aindexA 64 1 .undef t10_4) fun t11_5 =>
  bnd (aload false 1 t11_5 H) fun t12_6 =>
  bnd (cvInt .i64 t12_6) fun t13_7 =>
  some (t13_7, H)
theorem e151_1 (H0 : Hp) (x0 : AV) (H : Hp) : j151_1 H0 x0 H = b151_1 x0 H := (CXM_eq [3] _ _ _ _).trans (by kernel_rfl)
theorem m151_1 : L1 (b151_1) (b151_1) := fun _ _ =>
  bR fun _ => bR fun _ => bR fun _ => bR fun _ => bR fun _ => bR fun _ => bR fun _ => le_refl _
noncomputable def rj151_1 : A1 := b151_1
theorem sj151_1 (H0 : Hp) : L1 (rj151_1) (j151_1 H0) := fun _ _ => le_eq (m151_1 _ _) (e151_1 H0 _ _)
noncomputable def bc151 (j151_1 : A1) (p0 : AV) (H : Hp) : Res :=
  bnd (ibin .eql p0 (.int .u64 0)) fun t4_8 =>
  cnd t4_8
    (some ((.int .i64 64), H))
    (j151_1 p0 H)
theorem ec151 (p0 : AV) (H : Hp) : c151 p0 H = bc151 (j151_1 H) p0 H := (callw_cxm (C := cfg) (fn := Tryz.f151) (c := bodyOf Tryz.f151) (n := 14) [3] Tryz.func151 (by kernel_rfl) (by kernel_rfl) [p0] (by kernel_rfl) H).trans (by kernel_rfl)
theorem mc151 {j151_1 dj151_1 : A1} (hj151_1 : L1 j151_1 dj151_1) : L1 (bc151 j151_1) (bc151 dj151_1) := fun _ _ =>
  bR fun _ => bK (le_refl _) (hj151_1 _ _)
noncomputable def rc151 : A1 := fun p0 H => bc151 (rj151_1) p0 H
theorem sc151 : L1 rc151 c151 := fun _ H => le_eq (mc151 (sj151_1 H) _ _) (ec151 _ _)

/-! math_bits_TrailingZeros -/
noncomputable def c147 (p0 : AV) (H : Hp) : Res := callw cfg 147 [p0] H
noncomputable def j147_1 (H0 : Hp) (x0 : AV) (H : Hp) : Res := CXf 147 8 (sub (bodyOf Tryz.f147) [1, 1]) (retL cfg 8 147 Tryz.f147 H0) [(0, x0)] H
noncomputable def b147_1 (c151 : A1) (x0 : AV) (H : Hp) : Res :=
  bnd (c151 x0 H) fun r7_1 =>
  some (r7_1.1, r7_1.2)
theorem e147_1 (H0 : Hp) (x0 : AV) (H : Hp) : j147_1 H0 x0 H = b147_1 c151 x0 H := (CXM_eq [2] _ _ _ _).trans (by kernel_rfl)
theorem m147_1 {c151 dc151 : A1} (hc151 : L1 c151 dc151) : L1 (b147_1 c151) (b147_1 dc151) := fun _ _ =>
  bC (hc151 _ _) fun _ => le_refl _
noncomputable def rj147_1 : A1 := b147_1 rc151
theorem sj147_1 (H0 : Hp) : L1 (rj147_1) (j147_1 H0) := fun _ _ => le_eq (m147_1 sc151 _ _) (e147_1 H0 _ _)
noncomputable def bc147 (c150 : A1) (j147_1 : A1) (p0 : AV) (H : Hp) : Res :=
  cnd (.bool false)
    (bnd (cvInt .u32 p0) fun t4_2 =>
    bnd (c150 t4_2 H) fun r5_3 =>
    some (r5_3.1, r5_3.2))
    (j147_1 p0 H)
theorem ec147 (p0 : AV) (H : Hp) : c147 p0 H = bc147 c150 (j147_1 H) p0 H := (callw_cxm (C := cfg) (fn := Tryz.f147) (c := bodyOf Tryz.f147) (n := 8) [2] Tryz.func147 (by kernel_rfl) (by kernel_rfl) [p0] (by kernel_rfl) H).trans (by kernel_rfl)
theorem mc147 {c150 dc150 : A1} (hc150 : L1 c150 dc150) {j147_1 dj147_1 : A1} (hj147_1 : L1 j147_1 dj147_1) : L1 (bc147 c150 j147_1) (bc147 dc150 dj147_1) := fun _ _ =>
  bK (bR fun _ => bC (hc150 _ _) fun _ => le_refl _) (hj147_1 _ _)
noncomputable def rc147 : A1 := fun p0 H => bc147 rc150 (rj147_1) p0 H
theorem sc147 : L1 rc147 c147 := fun _ H => le_eq (mc147 sc150 (sj147_1 H) _ _) (ec147 _ _)

/-! internal_strconv_formatBits -/
noncomputable def c139 (p0 p1 p2 p3 p4 : AV) (H : Hp) : Res := callw cfg 139 [p0, p1, p2, p3, p4] H
noncomputable def j139_5 (H0 : Hp) (x10 x12 x13 : AV) (H : Hp) : Res := CXf 139 102 (sub (bodyOf Tryz.f139) [1, 1, 1, 1, 1, 1, 1, 1]) (retL cfg 102 139 Tryz.f139 H0) [(10, x10), (12, x12), (13, x13)] H
noncomputable def j139_4 (H0 : Hp) (x0 x4 x10 x11 x12 x13 : AV) (H : Hp) : Res := CXf 139 102 (sub (bodyOf Tryz.f139) [1, 1, 1, 1, 1, 1, 1]) (retL cfg 102 139 Tryz.f139 H0) [(0, x0), (4, x4), (10, x10), (11, x11), (12, x12), (13, x13)] H
noncomputable def j139_3 (H0 : Hp) (x0 x3 x4 x10 x11 x12 x13 : AV) (H : Hp) : Res := CXf 139 102 (sub (bodyOf Tryz.f139) [1, 1, 1, 1, 1, 1]) (retL cfg 102 139 Tryz.f139 H0) [(0, x0), (3, x3), (4, x4), (10, x10), (11, x11), (12, x12), (13, x13)] H
noncomputable def k139_1 (H0 : Hp) : KL := seqL (fun k al H => CXf 139 102 (sub (bodyOf Tryz.f139) [1, 1, 1, 1, 1, 1]) k (trimL (cfg.keep 139) (sub (bodyOf Tryz.f139) [1, 1, 1, 1, 1, 1]) al) H) (retL cfg 102 139 Tryz.f139 H0)
theorem k139_1_tame (H0 : Hp) : Tame 102 (k139_1 H0) := tame_seq (C := cfg) (kp := cfg.keep 139) (sub (bodyOf Tryz.f139) [1, 1, 1, 1, 1, 1]) (tame_ret 139 Tryz.f139 H0)
noncomputable def j139_6 (H0 : Hp) (x0 x1 x3 x4 x10 x11 x12 x13 : AV) (H : Hp) : Res := CXf 139 102 (sub (bodyOf Tryz.f139) [1, 1, 1, 1, 1, 0, 1, 0, 1, 1, 1, 1]) (k139_1 H0) [(0, x0), (1, x1), (3, x3), (4, x4), (10, x10), (11, x11), (12, x12), (13, x13)] H
noncomputable def k139_2 (H0 : Hp) : KL := seqL (fun k al H => CXf 139 102 (sub (bodyOf Tryz.f139) [1, 1, 1, 1, 1, 0, 1, 0, 1, 1, 1, 1]) k (trimL (cfg.keep 139) (sub (bodyOf Tryz.f139) [1, 1, 1, 1, 1, 0, 1, 0, 1, 1, 1, 1]) al) H) (k139_1 H0)
theorem k139_2_tame (H0 : Hp) : Tame 102 (k139_2 H0) := tame_seq (C := cfg) (kp := cfg.keep 139) (sub (bodyOf Tryz.f139) [1, 1, 1, 1, 1, 0, 1, 0, 1, 1, 1, 1]) (k139_1_tame H0)
noncomputable def j139_7 (H0 : Hp) (x0 x1 x3 x4 x10 x11 x12 x13 x14 x15 x16 : AV) (H : Hp) : Res := CXf 139 102 (sub (bodyOf Tryz.f139) [1, 1, 1, 1, 1, 0, 1, 0, 1, 1, 1, 0, 0, 0, 1]) (seqL (fun k al H => LPf 139 102 (sub (bodyOf Tryz.f139) [1, 1, 1, 1, 1, 0, 1, 0, 1, 1, 1, 0, 0, 0]) k (trimL (cfg.keep 139) (sub (bodyOf Tryz.f139) [1, 1, 1, 1, 1, 0, 1, 0, 1, 1, 1, 0, 0, 0]) al) H) (blockL 0 (k139_2 H0))) [(0, x0), (1, x1), (3, x3), (4, x4), (10, x10), (11, x11), (12, x12), (13, x13), (14, x14), (15, x15), (16, x16)] H
noncomputable def j139_l1 (H0 : Hp) (x0 x1 x3 x4 x10 x11 x12 x13 x14 x15 x16 : AV) (H : Hp) : Res := LPf 139 102 (sub (bodyOf Tryz.f139) [1, 1, 1, 1, 1, 0, 1, 0, 1, 1, 1, 0, 0, 0]) (blockL 0 (k139_2 H0)) [(0, x0), (1, x1), (3, x3), (4, x4), (10, x10), (11, x11), (12, x12), (13, x13), (14, x14), (15, x15), (16, x16)] H
noncomputable def j139_8 (H0 : Hp) (x0 x1 x3 x4 x10 x11 x12 x13 : AV) (H : Hp) : Res := CXf 139 102 (sub (bodyOf Tryz.f139) [1, 1, 1, 1, 1, 0, 1, 1, 1, 1]) (k139_1 H0) [(0, x0), (1, x1), (3, x3), (4, x4), (10, x10), (11, x11), (12, x12), (13, x13)] H
noncomputable def k139_3 (H0 : Hp) : KL := seqL (fun k al H => CXf 139 102 (sub (bodyOf Tryz.f139) [1, 1, 1, 1, 1, 0, 1, 1, 1, 1]) k (trimL (cfg.keep 139) (sub (bodyOf Tryz.f139) [1, 1, 1, 1, 1, 0, 1, 1, 1, 1]) al) H) (k139_1 H0)
theorem k139_3_tame (H0 : Hp) : Tame 102 (k139_3 H0) := tame_seq (C := cfg) (kp := cfg.keep 139) (sub (bodyOf Tryz.f139) [1, 1, 1, 1, 1, 0, 1, 1, 1, 1]) (k139_1_tame H0)
noncomputable def j139_9 (H0 : Hp) (x0 x1 x3 x4 x10 x11 x12 x13 x17 : AV) (H : Hp) : Res := CXf 139 102 (sub (bodyOf Tryz.f139) [1, 1, 1, 1, 1, 0, 1, 1, 1, 0, 0, 0, 1]) (seqL (fun k al H => LPf 139 102 (sub (bodyOf Tryz.f139) [1, 1, 1, 1, 1, 0, 1, 1, 1, 0, 0, 0]) k (trimL (cfg.keep 139) (sub (bodyOf Tryz.f139) [1, 1, 1, 1, 1, 0, 1, 1, 1, 0, 0, 0]) al) H) (blockL 2 (k139_3 H0))) [(0, x0), (1, x1), (3, x3), (4, x4), (10, x10), (11, x11), (12, x12), (13, x13), (17, x17)] H
noncomputable def j139_l2 (H0 : Hp) (x0 x1 x3 x4 x10 x11 x12 x13 x17 : AV) (H : Hp) : Res := LPf 139 102 (sub (bodyOf Tryz.f139) [1, 1, 1, 1, 1, 0, 1, 1, 1, 0, 0, 0]) (blockL 2 (k139_3 H0)) [(0, x0), (1, x1), (3, x3), (4, x4), (10, x10), (11, x11), (12, x12), (13, x13), (17, x17)] H
noncomputable def j139_2 (H0 : Hp) (x0 x1 x2 x3 x4 x10 x11 x12 x13 : AV) (H : Hp) : Res := CXf 139 102 (sub (bodyOf Tryz.f139) [1, 1, 1, 1, 1]) (retL cfg 102 139 Tryz.f139 H0) [(0, x0), (1, x1), (2, x2), (3, x3), (4, x4), (10, x10), (11, x11), (12, x12), (13, x13)] H
noncomputable def j139_1 (H0 : Hp) (x0 x1 x2 x3 x4 x10 x11 : AV) (H : Hp) : Res := CXf 139 102 (sub (bodyOf Tryz.f139) [1, 1]) (retL cfg 102 139 Tryz.f139 H0) [(0, x0), (1, x1), (2, x2), (3, x3), (4, x4), (10, x10), (11, x11)] H
noncomputable def b139_5 (x10 x12 x13 : AV) (H : Hp) : Res :=
  bnd ((none : Option AV)) fun t100_2 =>
  bnd (cvOfBytes t100_2) fun t101_3 =>
  some ((.tuple [x10, t101_3]), H)
theorem e139_5 (H0 : Hp) (x10 x12 x13 : AV) (H : Hp) : j139_5 H0 x10 x12 x13 H = b139_5 x10 x12 x13 H := (CXM_eq [3, 7, 12, 15, 19, 23, 25, 28, 30] _ _ _ _).trans (by kernel_rfl)
theorem m139_5 : L3 (b139_5) (b139_5) := fun _ _ _ _ =>
  bR fun _ => bR fun _ => le_refl _
noncomputable def b139_4 (j139_5 : A3) (x0 x4 x10 x11 x12 x13 : AV) (H : Hp) : Res :=
  cnd x4
    (bnd ((none : Option AV)) fun t97_4 =>
    bnd (aappE 1 1 x0 t97_4 H) fun r98_5 =>
    some ((.tuple [r98_5.1, x11]), r98_5.2))
    (j139_5 x10 x12 x13 H)
theorem e139_4 (H0 : Hp) (x0 x4 x10 x11 x12 x13 : AV) (H : Hp) : j139_4 H0 x0 x4 x10 x11 x12 x13 H = b139_4 (j139_5 H0) x0 x4 x10 x11 x12 x13 H := (CXM_eq [3, 7, 12, 15, 19, 23, 25, 28, 30] _ _ _ _).trans (by kernel_rfl)
theorem m139_4 {j139_5 dj139_5 : A3} (hj139_5 : L3 j139_5 dj139_5) : L6 (b139_4 j139_5) (b139_4 dj139_5) := fun _ _ _ _ _ _ _ =>
  bK (bR fun _ => bR fun _ => le_refl _) (hj139_5 _ _ _ _)
noncomputable def b139_3 (j139_4 : A6) (x0 x3 x4 x10 x11 x12 x13 : AV) (H : Hp) : Res :=
  cnd x3
    (bnd (ibin .sub x13 (.int .i64 1)) fun t91_6 =>
    bnd (aindexA 65 1 x12 t91_6) fun t93_7 =>
    bnd (astoreU 1 t93_7 (.int .u8 45) H) fun r_8 =>
    j139_4 x0 x4 x10 x11 x12 t91_6 r_8.2)
    (j139_4 x0 x4 x10 x11 x12 x13 H)
theorem e139_3 (H0 : Hp) (x0 x3 x4 x10 x11 x12 x13 : AV) (H : Hp) : j139_3 H0 x0 x3 x4 x10 x11 x12 x13 H = b139_3 (j139_4 H0) x0 x3 x4 x10 x11 x12 x13 H := (CXM_eq [3, 7, 12, 15, 19, 23, 25, 28, 30] _ _ _ _).trans (by kernel_rfl)
theorem m139_3 {j139_4 dj139_4 : A6} (hj139_4 : L6 j139_4 dj139_4) : L7 (b139_3 j139_4) (b139_3 dj139_4) := fun _ _ _ _ _ _ _ _ =>
  bK (bR fun _ => bR fun _ => bR fun _ => hj139_4 _ _ _ _ _ _ _) (hj139_4 _ _ _ _ _ _ _)
noncomputable def b139_6 (j139_3 : A7) (x0 x1 x3 x4 x10 x11 x12 x13 : AV) (H : Hp) : Res :=
  bnd (ibin .sub x13 (.int .i64 1)) fun t59_16 =>
  bnd (aindexStr (.str [48, 49, 50, 51, 52, 53, 54, 55, 56, 57, 97, 98, 99, 100, 101, 102, 103, 104, 105, 106, 107, 108, 109, 110, 111, 112, 113, 114, 115, 116, 117, 118, 119, 120, 121, 122]) x1) fun t62_17 =>
  bnd (aindexA 65 1 x12 t59_16) fun t63_18 =>
  bnd (astoreU 1 t63_18 t62_17 H) fun r_19 =>
  j139_3 x0 x3 x4 x10 x11 x12 t59_16 r_19.2
theorem e139_6 (H0 : Hp) (x0 x1 x3 x4 x10 x11 x12 x13 : AV) (H : Hp) : j139_6 H0 x0 x1 x3 x4 x10 x11 x12 x13 H = b139_6 (j139_3 H0) x0 x1 x3 x4 x10 x11 x12 x13 H := (CXM_eq [3, 7, 12, 15, 19, 23, 25, 28, 30] _ _ _ _).trans (by kernel_rfl)
theorem m139_6 {j139_3 dj139_3 : A7} (hj139_3 : L7 j139_3 dj139_3) : L8 (b139_6 j139_3) (b139_6 dj139_3) := fun _ _ _ _ _ _ _ _ _ =>
  bR fun _ => bR fun _ => bR fun _ => bR fun _ => hj139_3 _ _ _ _ _ _ _ _
noncomputable def b139_7 (j139_l1 : A11) (x0 x1 x3 x4 x10 x11 x12 x13 x14 x15 x16 : AV) (H : Hp) : Res :=
  bnd (ibin .sub x13 (.int .i64 1)) fun t48_20 =>
  bnd (ibin .and x1 x16) fun t52_21 =>
  bnd (aindexStr (.str [48, 49, 50, 51, 52, 53, 54, 55, 56, 57, 97, 98, 99, 100, 101, 102, 103, 104, 105, 106, 107, 108, 109, 110, 111, 112, 113, 114, 115, 116, 117, 118, 119, 120, 121, 122]) t52_21) fun t53_22 =>
  bnd (aindexA 65 1 x12 t48_20) fun t54_23 =>
  bnd (astoreU 1 t54_23 t53_22 H) fun r_24 =>
  bnd (ibin .shr x1 x14) fun t57_25 =>
  j139_l1 x0 t57_25 x3 x4 x10 x11 x12 t48_20 x14 x15 x16 r_24.2
theorem e139_7 (H0 : Hp) (x0 x1 x3 x4 x10 x11 x12 x13 x14 x15 x16 : AV) (H : Hp) : j139_7 H0 x0 x1 x3 x4 x10 x11 x12 x13 x14 x15 x16 H = b139_7 (j139_l1 H0) x0 x1 x3 x4 x10 x11 x12 x13 x14 x15 x16 H := (CXM_eq [3, 7, 12, 15, 19, 23, 25, 28, 30] _ _ _ _).trans (by kernel_rfl)
theorem m139_7 {j139_l1 dj139_l1 : A11} (hj139_l1 : L11 j139_l1 dj139_l1) : L11 (b139_7 j139_l1) (b139_7 dj139_l1) := fun _ _ _ _ _ _ _ _ _ _ _ _ =>
  bR fun _ => bR fun _ => bR fun _ => bR fun _ => bR fun _ => bR fun _ => hj139_l1 _ _ _ _ _ _ _ _ _ _ _ _
noncomputable def b139_l1 (j139_6 : A8) (j139_7 : A11) (x0 x1 x3 x4 x10 x11 x12 x13 x14 x15 x16 : AV) (H : Hp) : Res :=
  bnd (ibin .geq x1 x15) fun t46_26 =>
  cnd t46_26
    (j139_7 x0 x1 x3 x4 x10 x11 x12 x13 x14 x15 x16 H)
    (j139_6 x0 x1 x3 x4 x10 x11 x12 x13 H)
theorem e139_l1 (H0 : Hp) (x0 x1 x3 x4 x10 x11 x12 x13 x14 x15 x16 : AV) (H : Hp) : j139_l1 H0 x0 x1 x3 x4 x10 x11 x12 x13 x14 x15 x16 H = b139_l1 (j139_6 H0) (j139_7 H0) x0 x1 x3 x4 x10 x11 x12 x13 x14 x15 x16 H := (LPL_eqm (C := cfg) [3, 7, 12, 15, 19, 23, 25, 28, 30] (tame_block 0 (k139_2_tame H0)) _ _).trans (by kernel_rfl)
theorem m139_l1 {j139_6 dj139_6 : A8} (hj139_6 : L8 j139_6 dj139_6) {j139_7 dj139_7 : A11} (hj139_7 : L11 j139_7 dj139_7) : L11 (b139_l1 j139_6 j139_7) (b139_l1 dj139_6 dj139_7) := fun _ _ _ _ _ _ _ _ _ _ _ _ =>
  bR fun _ => bK (hj139_7 _ _ _ _ _ _ _ _ _ _ _ _) (hj139_6 _ _ _ _ _ _ _ _ _)
noncomputable def b139_8 (j139_3 : A7) (x0 x1 x3 x4 x10 x11 x12 x13 : AV) (H : Hp) : Res :=
  bnd (ibin .sub x13 (.int .i64 1)) fun t84_28 =>
  bnd (aindexStr (.str [48, 49, 50, 51, 52, 53, 54, 55, 56, 57, 97, 98, 99, 100, 101, 102, 103, 104, 105, 106, 107, 108, 109, 110, 111, 112, 113, 114, 115, 116, 117, 118, 119, 120, 121, 122]) x1) fun t87_29 =>
  bnd (aindexA 65 1 x12 t84_28) fun t88_30 =>
  bnd (astoreU 1 t88_30 t87_29 H) fun r_31 =>
  j139_3 x0 x3 x4 x10 x11 x12 t84_28 r_31.2
theorem e139_8 (H0 : Hp) (x0 x1 x3 x4 x10 x11 x12 x13 : AV) (H : Hp) : j139_8 H0 x0 x1 x3 x4 x10 x11 x12 x13 H = b139_8 (j139_3 H0) x0 x1 x3 x4 x10 x11 x12 x13 H := (CXM_eq [3, 7, 12, 15, 19, 23, 25, 28, 30] _ _ _ _).trans (by kernel_rfl)
theorem m139_8 {j139_3 dj139_3 : A7} (hj139_3 : L7 j139_3 dj139_3) : L8 (b139_8 j139_3) (b139_8 dj139_3) := fun _ _ _ _ _ _ _ _ _ =>
  bR fun _ => bR fun _ => bR fun _ => bR fun _ => hj139_3 _ _ _ _ _ _ _ _
noncomputable def b139_9 (j139_l2 : A9) (x0 x1 x3 x4 x10 x11 x12 x13 x17 : AV) (H : Hp) : Res :=
  bnd (ibin .sub x13 (.int .i64 1)) fun t70_32 =>
  bnd (ibin .quo x1 x17) fun t73_33 =>
  bnd (ibin .mul t73_33 x17) fun t78_34 =>
  bnd (ibin .sub x1 t78_34) fun t79_35 =>
  bnd (aindexStr (.str [48, 49, 50, 51, 52, 53, 54, 55, 56, 57, 97, 98, 99, 100, 101, 102, 103, 104, 105, 106, 107, 108, 109, 110, 111, 112, 113, 114, 115, 116, 117, 118, 119, 120, 121, 122]) t79_35) fun t80_36 =>
  bnd (aindexA 65 1 x12 t70_32) fun t81_37 =>
  bnd (astoreU 1 t81_37 t80_36 H) fun r_38 =>
  j139_l2 x0 t73_33 x3 x4 x10 x11 x12 t70_32 x17 r_38.2
theorem e139_9 (H0 : Hp) (x0 x1 x3 x4 x10 x11 x12 x13 x17 : AV) (H : Hp) : j139_9 H0 x0 x1 x3 x4 x10 x11 x12 x13 x17 H = b139_9 (j139_l2 H0) x0 x1 x3 x4 x10 x11 x12 x13 x17 H := (CXM_eq [3, 7, 12, 15, 19, 23, 25, 28, 30] _ _ _ _).trans (by kernel_rfl)
theorem m139_9 {j139_l2 dj139_l2 : A9} (hj139_l2 : L9 j139_l2 dj139_l2) : L9 (b139_9 j139_l2) (b139_9 dj139_l2) := fun _ _ _ _ _ _ _ _ _ _ =>
  bR fun _ => bR fun _ => bR fun _ => bR fun _ => bR fun _ => bR fun _ => bR fun _ => hj139_l2 _ _ _ _ _ _ _ _ _ _
noncomputable def b139_l2 (j139_8 : A8) (j139_9 : A9) (x0 x1 x3 x4 x10 x11 x12 x13 x17 : AV) (H : Hp) : Res :=
  bnd (ibin .geq x1 x17) fun t68_39 =>
  cnd t68_39
    (j139_9 x0 x1 x3 x4 x10 x11 x12 x13 x17 H)
    (j139_8 x0 x1 x3 x4 x10 x11 x12 x13 H)
theorem e139_l2 (H0 : Hp) (x0 x1 x3 x4 x10 x11 x12 x13 x17 : AV) (H : Hp) : j139_l2 H0 x0 x1 x3 x4 x10 x11 x12 x13 x17 H = b139_l2 (j139_8 H0) (j139_9 H0) x0 x1 x3 x4 x10 x11 x12 x13 x17 H := (LPL_eqm (C := cfg) [3, 7, 12, 15, 19, 23, 25, 28, 30] (tame_block 2 (k139_3_tame H0)) _ _).trans (by kernel_rfl)
theorem m139_l2 {j139_8 dj139_8 : A8} (hj139_8 : L8 j139_8 dj139_8) {j139_9 dj139_9 : A9} (hj139_9 : L9 j139_9 dj139_9) : L9 (b139_l2 j139_8 j139_9) (b139_l2 dj139_8 dj139_9) := fun _ _ _ _ _ _ _ _ _ _ =>
  bR fun _ => bK (hj139_9 _ _ _ _ _ _ _ _ _ _) (hj139_8 _ _ _ _ _ _ _ _ _)
noncomputable def b139_2 (c146 : A1) (c147 : A1) (j139_l1 : A11) (j139_l2 : A9) (x0 x1 x2 x3 x4 x10 x11 x12 x13 : AV) (H : Hp) : Res :=
  bnd (c146 x2 H) fun r34_9 =>
  cnd r34_9.1
    (bnd (cvInt .u64 x2) fun t36_10 =>
    bnd (c147 t36_10 r34_9.2) fun r37_11 =>
    bnd (cvInt .u64 r37_11.1) fun t38_12 =>
    bnd (cvInt .u64 x2) fun t40_13 =>
    bnd (cvInt .u64 x2) fun t42_14 =>
    bnd (ibin .sub t42_14 (.int .u64 1)) fun t43_15 =>
    j139_l1 x0 x1 x3 x4 x10 x11 x12 x13 t38_12 t40_13 t43_15 r37_11.2)
    (bnd (cvInt .u64 x2) fun t65_27 =>
    j139_l2 x0 x1 x3 x4 x10 x11 x12 x13 t65_27 r34_9.2)
theorem e139_2 (H0 : Hp) (x0 x1 x2 x3 x4 x10 x11 x12 x13 : AV) (H : Hp) : j139_2 H0 x0 x1 x2 x3 x4 x10 x11 x12 x13 H = b139_2 c146 c147 (j139_l1 H0) (j139_l2 H0) x0 x1 x2 x3 x4 x10 x11 x12 x13 H := (CXM_eq [3, 7, 12, 15, 19, 23, 25, 28, 30] _ _ _ _).trans (by kernel_rfl)
theorem m139_2 {c146 dc146 : A1} (hc146 : L1 c146 dc146) {c147 dc147 : A1} (hc147 : L1 c147 dc147) {j139_l1 dj139_l1 : A11} (hj139_l1 : L11 j139_l1 dj139_l1) {j139_l2 dj139_l2 : A9} (hj139_l2 : L9 j139_l2 dj139_l2) : L9 (b139_2 c146 c147 j139_l1 j139_l2) (b139_2 dc146 dc147 dj139_l1 dj139_l2) := fun _ _ _ _ _ _ _ _ _ _ =>
  bC (hc146 _ _) fun _ => bK (bR fun _ => bC (hc147 _ _) fun _ => bR fun _ => bR fun _ => bR fun _ => bR fun _ => hj139_l1 _ _ _ _ _ _ _ _ _ _ _ _) (bR fun _ => hj139_l2 _ _ _ _ _ _ _ _ _ _)
noncomputable def b139_1 (j139_2 : A9) (x0 x1 x2 x3 x4 x10 x11 : AV) (H : Hp) : Res :=
  bnd (some ((.ptr H.length 0), H ++ [.cells [(.int .u8 0), (.int .u8 0), (.int .u8 0), (.int .u8 0), (.int .u8 0), (.int .u8 0), (.int .u8 0), (.int .u8 0), (.int .u8 0), (.int .u8 0), (.int .u8 0), (.int .u8 0), (.int .u8 0), (.int .u8 0), (.int .u8 0), (.int .u8 0), (.int .u8 0), (.int .u8 0), (.int .u8 0), (.int .u8 0), (.int .u8 0), (.int .u8 0), (.int .u8 0), (.int .u8 0), (.int .u8 0), (.int .u8 0), (.int .u8 0), (.int .u8 0), (.int .u8 0), (.int .u8 0), (.int .u8 0), (.int .u8 0), (.int .u8 0), (.int .u8 0), (.int .u8 0), (.int .u8 0), (.int .u8 0), (.int .u8 0), (.int .u8 0), (.int .u8 0), (.int .u8 0), (.int .u8 0), (.int .u8 0), (.int .u8 0), (.int .u8 0), (.int .u8 0), (.int .u8 0), (.int .u8 0), (.int .u8 0), (.int .u8 0), (.int .u8 0), (.int .u8 0), (.int .u8 0), (.int .u8 0), (.int .u8 0), (.int .u8 0), (.int .u8 0), (.int .u8 0), (.int .u8 0), (.int .u8 0), (.int .u8 0), (.int .u8 0), (.int .u8 0), (.int .u8 0), (.int .u8 0)]])) fun r12_1 =>
  cnd x3
    (bnd (aun .neg x1) fun t32_40 =>
    j139_2 x0 t32_40 x2 x3 x4 x10 x11 r12_1.1 (.int .i64 65) r12_1.2)
    (j139_2 x0 x1 x2 x3 x4 x10 x11 r12_1.1 (.int .i64 65) r12_1.2)
theorem e139_1 (H0 : Hp) (x0 x1 x2 x3 x4 x10 x11 : AV) (H : Hp) : j139_1 H0 x0 x1 x2 x3 x4 x10 x11 H = b139_1 (j139_2 H0) x0 x1 x2 x3 x4 x10 x11 H := (CXM_eq [3, 7, 12, 15, 19, 23, 25, 28, 30] _ _ _ _).trans (by kernel_rfl)
theorem m139_1 {j139_2 dj139_2 : A9} (hj139_2 : L9 j139_2 dj139_2) : L7 (b139_1 j139_2) (b139_1 dj139_2) := fun _ _ _ _ _ _ _ _ =>
  bR fun _ => bK (bR fun _ => hj139_2 _ _ _ _ _ _ _ _ _ _) (hj139_2 _ _ _ _ _ _ _ _ _ _)
noncomputable def rj139_5 : A3 := b139_5
theorem sj139_5 (H0 : Hp) : L3 (rj139_5) (j139_5 H0) := fun _ _ _ _ => le_eq (m139_5 _ _ _ _) (e139_5 H0 _ _ _ _)
noncomputable def rj139_4 : A6 := b139_4 (rj139_5)
theorem sj139_4 (H0 : Hp) : L6 (rj139_4) (j139_4 H0) := fun _ _ _ _ _ _ _ => le_eq (m139_4 (sj139_5 H0) _ _ _ _ _ _ _) (e139_4 H0 _ _ _ _ _ _ _)
noncomputable def rj139_3 : A7 := b139_3 (rj139_4)
theorem sj139_3 (H0 : Hp) : L7 (rj139_3) (j139_3 H0) := fun _ _ _ _ _ _ _ _ => le_eq (m139_3 (sj139_4 H0) _ _ _ _ _ _ _ _) (e139_3 H0 _ _ _ _ _ _ _ _)
noncomputable def rj139_6 : A8 := b139_6 (rj139_3)
theorem sj139_6 (H0 : Hp) : L8 (rj139_6) (j139_6 H0) := fun _ _ _ _ _ _ _ _ _ => le_eq (m139_6 (sj139_3 H0) _ _ _ _ _ _ _ _ _) (e139_6 H0 _ _ _ _ _ _ _ _ _)
noncomputable def rj139_7 (j139_l1 : A11) : A11 := b139_7 j139_l1
theorem sj139_7 (H0 : Hp) {yj139_l1 : A11} (hj139_l1 : L11 yj139_l1 (j139_l1 H0)) : L11 (rj139_7 yj139_l1) (j139_7 H0) := fun _ _ _ _ _ _ _ _ _ _ _ _ => le_eq (m139_7 hj139_l1 _ _ _ _ _ _ _ _ _ _ _ _) (e139_7 H0 _ _ _ _ _ _ _ _ _ _ _ _)
noncomputable def rj139_l1 (n : Nat) : A11 := @Nat.rec (fun _ => A11) (fun _ _ _ _ _ _ _ _ _ _ _ _ => none) (fun _ j139_l1 => b139_l1 (rj139_6) (rj139_7 j139_l1)) n
theorem sj139_l1 (H0 : Hp) (n : Nat) : L11 (rj139_l1 n) (j139_l1 H0) := by
  induction n with
  | zero => exact fun _ _ _ _ _ _ _ _ _ _ _ _ => le_none _
  | succ n hj139_l1 => exact fun _ _ _ _ _ _ _ _ _ _ _ _ => le_eq (m139_l1 (sj139_6 H0) (sj139_7 H0 hj139_l1) _ _ _ _ _ _ _ _ _ _ _ _) (e139_l1 H0 _ _ _ _ _ _ _ _ _ _ _ _)
noncomputable def rj139_8 : A8 := b139_8 (rj139_3)
theorem sj139_8 (H0 : Hp) : L8 (rj139_8) (j139_8 H0) := fun _ _ _ _ _ _ _ _ _ => le_eq (m139_8 (sj139_3 H0) _ _ _ _ _ _ _ _ _) (e139_8 H0 _ _ _ _ _ _ _ _ _)
noncomputable def rj139_9 (j139_l2 : A9) : A9 := b139_9 j139_l2
theorem sj139_9 (H0 : Hp) {yj139_l2 : A9} (hj139_l2 : L9 yj139_l2 (j139_l2 H0)) : L9 (rj139_9 yj139_l2) (j139_9 H0) := fun _ _ _ _ _ _ _ _ _ _ => le_eq (m139_9 hj139_l2 _ _ _ _ _ _ _ _ _ _) (e139_9 H0 _ _ _ _ _ _ _ _ _ _)
noncomputable def rj139_l2 (n : Nat) : A9 := @Nat.rec (fun _ => A9) (fun _ _ _ _ _ _ _ _ _ _ => none) (fun _ j139_l2 => b139_l2 (rj139_8) (rj139_9 j139_l2)) n
theorem sj139_l2 (H0 : Hp) (n : Nat) : L9 (rj139_l2 n) (j139_l2 H0) := by
  induction n with
  | zero => exact fun _ _ _ _ _ _ _ _ _ _ => le_none _
  | succ n hj139_l2 => exact fun _ _ _ _ _ _ _ _ _ _ => le_eq (m139_l2 (sj139_8 H0) (sj139_9 H0 hj139_l2) _ _ _ _ _ _ _ _ _ _) (e139_l2 H0 _ _ _ _ _ _ _ _ _ _)
noncomputable def rj139_2 : A9 := b139_2 rc146 rc147 (rj139_l1 100000) (rj139_l2 100000)
theorem sj139_2 (H0 : Hp) : L9 (rj139_2) (j139_2 H0) := fun _ _ _ _ _ _ _ _ _ _ => le_eq (m139_2 sc146 sc147 (sj139_l1 H0 100000) (sj139_l2 H0 100000) _ _ _ _ _ _ _ _ _ _) (e139_2 H0 _ _ _ _ _ _ _ _ _ _)
noncomputable def rj139_1 : A7 := b139_1 (rj139_2)
theorem sj139_1 (H0 : Hp) : L7 (rj139_1) (j139_1 H0) := fun _ _ _ _ _ _ _ _ => le_eq (m139_1 (sj139_2 H0) _ _ _ _ _ _ _ _) (e139_1 H0 _ _ _ _ _ _ _ _)
noncomputable def bc139 (j139_1 : A7) (p0 p1 p2 p3 p4 : AV) (H : Hp) : Res :=
  bnd (ibin .lss p2 (.int .i64 2)) fun t20_41 =>
  bnd (gdv t20_41 false (.tuple []) (some p2)) fun t22_42 =>
  bnd (gdv t20_41 false (.tuple []) (ibin .eql t22_42 (.int .i64 10))) fun t23_43 =>
  bnd (apick t20_41 (.bool true) t23_43) fun t24_44 =>
  bnd (gdv t24_44 false (.tuple []) (some p2)) fun t26_45 =>
  bnd (gdv t24_44 false (.tuple []) (ibin .gtr t26_45 (.int .i64 36))) fun t27_46 =>
  bnd (apick t24_44 (.bool true) t27_46) fun t28_47 =>
  cnd t28_47
    (bnd ((none : Option AV)) fun t29_48 =>
    bnd ((none : Option AV)) fun tNone_49 =>
    j139_1 p0 p1 p2 p3 p4 .nils (.str []) H)
    (j139_1 p0 p1 p2 p3 p4 .nils (.str []) H)
theorem ec139 (p0 p1 p2 p3 p4 : AV) (H : Hp) : c139 p0 p1 p2 p3 p4 H = bc139 (j139_1 H) p0 p1 p2 p3 p4 H := (callw_cxm (C := cfg) (fn := Tryz.f139) (c := bodyOf Tryz.f139) (n := 102) [3, 7, 12, 15, 19, 23, 25, 28, 30] Tryz.func139 (by kernel_rfl) (by kernel_rfl) [p0, p1, p2, p3, p4] (by kernel_rfl) H).trans (by kernel_rfl)
theorem mc139 {j139_1 dj139_1 : A7} (hj139_1 : L7 j139_1 dj139_1) : L5 (bc139 j139_1) (bc139 dj139_1) := fun _ _ _ _ _ _ =>
  bR fun _ => bR fun _ => bR fun _ => bR fun _ => bR fun _ => bR fun _ => bR fun _ => bK (bR fun _ => bR fun _ => hj139_1 _ _ _ _ _ _ _ _) (hj139_1 _ _ _ _ _ _ _ _)
noncomputable def rc139 : A5 := fun p0 p1 p2 p3 p4 H => bc139 (rj139_1) p0 p1 p2 p3 p4 H
theorem sc139 : L5 rc139 c139 := fun _ _ _ _ _ H => le_eq (mc139 (sj139_1 H) _ _ _ _ _ _) (ec139 _ _ _ _ _ _)

/-! internal_strconv_FormatInt -/
noncomputable def c128 (p0 p1 : AV) (H : Hp) : Res := callw cfg 128 [p0, p1] H
noncomputable def j128_1 (H0 : Hp) (x0 x1 : AV) (H : Hp) : Res := CXf 128 54 (sub (bodyOf Tryz.f128) [1, 1]) (retL cfg 54 128 Tryz.f128 H0) [(0, x0), (1, x1)] H
noncomputable def k128_1 (H0 : Hp) : KL := seqL (fun k al H => CXf 128 54 (sub (bodyOf Tryz.f128) [1, 1]) k (trimL (cfg.keep 128) (sub (bodyOf Tryz.f128) [1, 1]) al) H) (retL cfg 54 128 Tryz.f128 H0)
theorem k128_1_tame (H0 : Hp) : Tame 54 (k128_1 H0) := tame_seq (C := cfg) (kp := cfg.keep 128) (sub (bodyOf Tryz.f128) [1, 1]) (tame_ret 128 Tryz.f128 H0)
noncomputable def j128_4 (H0 : Hp) (x5 x7 : AV) (H : Hp) : Res := CXf 128 54 (sub (bodyOf Tryz.f128) [1, 0, 1, 0, 1, 1, 1, 1, 1, 1, 1]) (k128_1 H0) [(5, x5), (7, x7)] H
noncomputable def j128_3 (H0 : Hp) (x0 x5 x6 : AV) (H : Hp) : Res := CXf 128 54 (sub (bodyOf Tryz.f128) [1, 0, 1, 0, 1, 1, 1, 1]) (k128_1 H0) [(0, x0), (5, x5), (6, x6)] H
noncomputable def j128_2 (H0 : Hp) (x0 : AV) (H : Hp) : Res := CXf 128 54 (sub (bodyOf Tryz.f128) [1, 0, 1, 0, 1]) (k128_1 H0) [(0, x0)] H
noncomputable def b128_1 (c139 : A5) (x0 x1 : AV) (H : Hp) : Res :=
  bnd (cvInt .u64 x0) fun t46_1 =>
  bnd (ibin .lss x0 (.int .i64 0)) fun t49_2 =>
  bnd (c139 .nils t46_1 x1 t49_2 (.bool false) H) fun r50_3 =>
  bnd (aext r50_3.1 0) fun t51_4 =>
  bnd (aext r50_3.1 1) fun t52_5 =>
  some (t52_5, r50_3.2)
theorem e128_1 (H0 : Hp) (x0 x1 : AV) (H : Hp) : j128_1 H0 x0 x1 H = b128_1 c139 x0 x1 H := (CXM_eq [4, 8, 13, 14] _ _ _ _).trans (by kernel_rfl)
theorem m128_1 {c139 dc139 : A5} (hc139 : L5 c139 dc139) : L2 (b128_1 c139) (b128_1 dc139) := fun _ _ _ =>
  bR fun _ => bR fun _ => bC (hc139 _ _ _ _ _ _) fun _ => bR fun _ => bR fun _ => le_refl _
noncomputable def b128_4 (x5 x7 : AV) (H : Hp) : Res :=
  bnd (ibin .add (.int .i64 1) x7) fun t41_13 =>
  bnd ((none : Option AV)) fun t42_14 =>
  bnd (cvOfBytes t42_14) fun t43_15 =>
  some (t43_15, H)
theorem e128_4 (H0 : Hp) (x5 x7 : AV) (H : Hp) : j128_4 H0 x5 x7 H = b128_4 x5 x7 H := (CXM_eq [4, 8, 13, 14] _ _ _ _).trans (by kernel_rfl)
theorem m128_4 : L2 (b128_4) (b128_4) := fun _ _ _ =>
  bR fun _ => bR fun _ => bR fun _ => le_refl _
noncomputable def b128_3 (c137 : A1) (c138 : A2) (j128_4 : A2) (x0 x5 x6 : AV) (H : Hp) : Res :=
  bnd (c137 x6 H) fun r27_9 =>
  bnd (ibin .add (.int .i64 1) r27_9.1) fun t29_10 =>
  bnd ((none : Option AV)) fun t30_11 =>
  bnd (c138 t30_11 x6 r27_9.2) fun r32_12 =>
  bnd (ibin .lss x0 (.int .i64 0)) fun t34_16 =>
  cnd t34_16
    (bnd (aindexA 24 1 x5 (.int .i64 0)) fun t35_17 =>
    bnd (astoreU 1 t35_17 (.int .u8 45) r32_12.2) fun r_18 =>
    bnd (ibin .add (.int .i64 1) r27_9.1) fun t37_19 =>
    bnd ((none : Option AV)) fun t38_20 =>
    bnd (cvOfBytes t38_20) fun t39_21 =>
    some (t39_21, r_18.2))
    (j128_4 x5 r27_9.1 r32_12.2)
theorem e128_3 (H0 : Hp) (x0 x5 x6 : AV) (H : Hp) : j128_3 H0 x0 x5 x6 H = b128_3 c137 c138 (j128_4 H0) x0 x5 x6 H := (CXM_eq [4, 8, 13, 14] _ _ _ _).trans (by kernel_rfl)
theorem m128_3 {c137 dc137 : A1} (hc137 : L1 c137 dc137) {c138 dc138 : A2} (hc138 : L2 c138 dc138) {j128_4 dj128_4 : A2} (hj128_4 : L2 j128_4 dj128_4) : L3 (b128_3 c137 c138 j128_4) (b128_3 dc137 dc138 dj128_4) := fun _ _ _ _ =>
  bC (hc137 _ _) fun _ => bR fun _ => bR fun _ => bC (hc138 _ _ _) fun _ => bR fun _ => bK (bR fun _ => bR fun _ => bR fun _ => bR fun _ => bR fun _ => le_refl _) (hj128_4 _ _ _)
noncomputable def b128_2 (j128_3 : A3) (x0 : AV) (H : Hp) : Res :=
  bnd (some ((.ptr H.length 0), H ++ [.cells [(.int .u8 0), (.int .u8 0), (.int .u8 0), (.int .u8 0), (.int .u8 0), (.int .u8 0), (.int .u8 0), (.int .u8 0), (.int .u8 0), (.int .u8 0), (.int .u8 0), (.int .u8 0), (.int .u8 0), (.int .u8 0), (.int .u8 0), (.int .u8 0), (.int .u8 0), (.int .u8 0), (.int .u8 0), (.int .u8 0), (.int .u8 0), (.int .u8 0), (.int .u8 0), (.int .u8 0)]])) fun r5_7 =>
  bnd (cvInt .u64 x0) fun t21_8 =>
  bnd (ibin .lss x0 (.int .i64 0)) fun t23_22 =>
  cnd t23_22
    (bnd (aun .neg t21_8) fun t25_23 =>
    j128_3 x0 r5_7.1 t25_23 r5_7.2)
    (j128_3 x0 r5_7.1 t21_8 r5_7.2)
theorem e128_2 (H0 : Hp) (x0 : AV) (H : Hp) : j128_2 H0 x0 H = b128_2 (j128_3 H0) x0 H := (CXM_eq [4, 8, 13, 14] _ _ _ _).trans (by kernel_rfl)
theorem m128_2 {j128_3 dj128_3 : A3} (hj128_3 : L3 j128_3 dj128_3) : L1 (b128_2 j128_3) (b128_2 dj128_3) := fun _ _ =>
  bR fun _ => bR fun _ => bR fun _ => bK (bR fun _ => hj128_3 _ _ _ _) (hj128_3 _ _ _ _)
noncomputable def rj128_1 : A2 := b128_1 rc139
theorem sj128_1 (H0 : Hp) : L2 (rj128_1) (j128_1 H0) := fun _ _ _ => le_eq (m128_1 sc139 _ _ _) (e128_1 H0 _ _ _)
noncomputable def rj128_4 : A2 := b128_4
theorem sj128_4 (H0 : Hp) : L2 (rj128_4) (j128_4 H0) := fun _ _ _ => le_eq (m128_4 _ _ _) (e128_4 H0 _ _ _)
noncomputable def rj128_3 : A3 := b128_3 rc137 rc138 (rj128_4)
theorem sj128_3 (H0 : Hp) : L3 (rj128_3) (j128_3 H0) := fun _ _ _ _ => le_eq (m128_3 sc137 sc138 (sj128_4 H0) _ _ _ _) (e128_3 H0 _ _ _ _)
noncomputable def rj128_2 : A1 := b128_2 (rj128_3)
theorem sj128_2 (H0 : Hp) : L1 (rj128_2) (j128_2 H0) := fun _ _ => le_eq (m128_2 (sj128_3 H0) _ _) (e128_2 H0 _ _)
noncomputable def bc128 (c136 : A1) (j128_1 : A2) (j128_2 : A1) (p0 p1 : AV) (H : Hp) : Res :=
  bnd (ibin .eql p1 (.int .i64 10)) fun t11_6 =>
  cnd t11_6
    (bnd (ibin .leq (.int .i64 0) p0) fun t13_24 =>
    bnd (gdv t13_24 true (.tuple []) (some p0)) fun t15_25 =>
    bnd (gdv t13_24 true (.tuple []) (ibin .lss t15_25 (.int .i64 100))) fun t16_26 =>
    bnd (apick t13_24 t16_26 (.bool false)) fun t17_27 =>
    cnd t17_27
      (bnd (c136 p0 H) fun r19_28 =>
      some (r19_28.1, r19_28.2))
      (j128_2 p0 H))
    (j128_1 p0 p1 H)
theorem ec128 (p0 p1 : AV) (H : Hp) : c128 p0 p1 H = bc128 c136 (j128_1 H) (j128_2 H) p0 p1 H := (callw_cxm (C := cfg) (fn := Tryz.f128) (c := bodyOf Tryz.f128) (n := 54) [4, 8, 13, 14] Tryz.func128 (by kernel_rfl) (by kernel_rfl) [p0, p1] (by kernel_rfl) H).trans (by kernel_rfl)
theorem mc128 {c136 dc136 : A1} (hc136 : L1 c136 dc136) {j128_1 dj128_1 : A2} (hj128_1 : L2 j128_1 dj128_1) {j128_2 dj128_2 : A1} (hj128_2 : L1 j128_2 dj128_2) : L2 (bc128 c136 j128_1 j128_2) (bc128 dc136 dj128_1 dj128_2) := fun _ _ _ =>
  bR fun _ => bK (bR fun _ => bR fun _ => bR fun _ => bR fun _ => bK (bC (hc136 _ _) fun _ => le_refl _) (hj128_2 _ _)) (hj128_1 _ _ _)
noncomputable def rc128 : A2 := fun p0 p1 H => bc128 rc136 (rj128_1) (rj128_2) p0 p1 H
theorem sc128 : L2 rc128 c128 := fun _ _ H => le_eq (mc128 sc136 (sj128_1 H) (sj128_2 H) _ _ _) (ec128 _ _ _)

/-! internal_strconv_Itoa -/
noncomputable def c121 (p0 : AV) (H : Hp) : Res := callw cfg 121 [p0] H
noncomputable def bc121 (c128 : A2) (p0 : AV) (H : Hp) : Res :=
  bnd (c128 p0 (.int .i64 10) H) fun r4_1 =>
  some (r4_1.1, r4_1.2)
theorem ec121 (p0 : AV) (H : Hp) : c121 p0 H = bc121 c128 p0 H := (callw_cxm (C := cfg) (fn := Tryz.f121) (c := bodyOf Tryz.f121) (n := 5) [] Tryz.func121 (by kernel_rfl) (by kernel_rfl) [p0] (by kernel_rfl) H).trans (by kernel_rfl)
theorem mc121 {c128 dc128 : A2} (hc128 : L2 c128 dc128) : L1 (bc121 c128) (bc121 dc128) := fun _ _ =>
  bC (hc128 _ _ _) fun _ => le_refl _
noncomputable def rc121 : A1 := fun p0 H => bc121 rc128 p0 H
theorem sc121 : L1 rc121 c121 := fun _ H => le_eq (mc121 sc128 _ _) (ec121 _ _)

/-! strconv_Itoa -/
noncomputable def c98 (p0 : AV) (H : Hp) : Res := callw cfg 98 [p0] H
noncomputable def bc98 (c121 : A1) (p0 : AV) (H : Hp) : Res :=
  bnd (c121 p0 H) fun r4_1 =>
  some (r4_1.1, r4_1.2)
theorem ec98 (p0 : AV) (H : Hp) : c98 p0 H = bc98 c121 p0 H := (callw_cxm (C := cfg) (fn := Tryz.f98) (c := bodyOf Tryz.f98) (n := 5) [] Tryz.func98 (by kernel_rfl) (by kernel_rfl) [p0] (by kernel_rfl) H).trans (by kernel_rfl)
theorem mc98 {c121 dc121 : A1} (hc121 : L1 c121 dc121) : L1 (bc98 c121) (bc98 dc121) := fun _ _ =>
  bC (hc121 _ _) fun _ => le_refl _
noncomputable def rc98 : A1 := fun p0 H => bc98 rc121 p0 H
theorem sc98 : L1 rc98 c98 := fun _ H => le_eq (mc98 sc121 _ _) (ec98 _ _)

/-! errors_New -/
noncomputable def c159 (p0 : AV) (H : Hp) : Res := callw cfg 159 [p0] H
noncomputable def bc159 (p0 : AV) (H : Hp) : Res :=
  bnd ((afill [(0, 1, p0)] [(.str [])]).map .agg) fun t4_1 =>
  bnd (abox t4_1 H) fun r5_2 =>
  bnd ((none : Option AV)) fun t6_3 =>
  some (t6_3, r5_2.2)
theorem ec159 (p0 : AV) (H : Hp) : c159 p0 H = bc159 p0 H := (callw_cxm (C := cfg) (fn := Tryz.f159) (c := bodyOf Tryz.f159) (n := 7) [] Tryz.func159 (by kernel_rfl) (by kernel_rfl) [p0] (by kernel_rfl) H).trans (by kernel_rfl)
theorem mc159 : L1 (bc159) (bc159) := fun _ _ =>
  bR fun _ => bR fun _ => bR fun _ => le_refl _
noncomputable def rc159 : A1 := fun p0 H => bc159 p0 H
theorem sc159 : L1 rc159 c159 := fun _ H => le_eq (mc159 _ _) (ec159 _ _)

/-! strconv_baseError -/
noncomputable def c155 (p0 p1 p2 : AV) (H : Hp) : Res := callw cfg 155 [p0, p1, p2] H
noncomputable def bc155 (c158 : A1) (c159 : A1) (c98 : A1) (p0 p1 p2 : AV) (H : Hp) : Res :=
  bnd (c158 p1 H) fun r9_1 =>
  bnd (c98 p2 r9_1.2) fun r11_2 =>
  bnd (sbin .add (.str [105, 110, 118, 97, 108, 105, 100, 32, 98, 97, 115, 101, 32]) r11_2.1) fun t12_3 =>
  bnd (c159 t12_3 r11_2.2) fun r13_4 =>
  bnd ((afill [(0, 1, p0), (1, 1, r9_1.1), (2, 1, r13_4.1)] [(.str []), (.str []), .nili]).map .agg) fun t14_5 =>
  bnd (abox t14_5 r13_4.2) fun r15_6 =>
  some (r15_6.1, r15_6.2)
theorem ec155 (p0 p1 p2 : AV) (H : Hp) : c155 p0 p1 p2 H = bc155 c158 c159 c98 p0 p1 p2 H := (callw_cxm (C := cfg) (fn := Tryz.f155) (c := bodyOf Tryz.f155) (n := 16) [] Tryz.func155 (by kernel_rfl) (by kernel_rfl) [p0, p1, p2] (by kernel_rfl) H).trans (by kernel_rfl)
theorem mc155 {c158 dc158 : A1} (hc158 : L1 c158 dc158) {c159 dc159 : A1} (hc159 : L1 c159 dc159) {c98 dc98 : A1} (hc98 : L1 c98 dc98) : L3 (bc155 c158 c159 c98) (bc155 dc158 dc159 dc98) := fun _ _ _ _ =>
  bC (hc158 _ _) fun _ => bC (hc98 _ _) fun _ => bR fun _ => bC (hc159 _ _) fun _ => bR fun _ => bR fun _ => le_refl _
noncomputable def rc155 : A3 := fun p0 p1 p2 H => bc155 rc158 rc159 rc98 p0 p1 p2 H
theorem sc155 : L3 rc155 c155 := fun _ _ _ H => le_eq (mc155 sc158 sc159 sc98 _ _ _ _) (ec155 _ _ _ _)

/-! strconv_bitSizeError -/
noncomputable def c156 (p0 p1 p2 : AV) (H : Hp) : Res := callw cfg 156 [p0, p1, p2] H
noncomputable def bc156 (c158 : A1) (c159 : A1) (c98 : A1) (p0 p1 p2 : AV) (H : Hp) : Res :=
  bnd (c158 p1 H) fun r9_1 =>
  bnd (c98 p2 r9_1.2) fun r11_2 =>
  bnd (sbin .add (.str [105, 110, 118, 97, 108, 105, 100, 32, 98, 105, 116, 32, 115, 105, 122, 101, 32]) r11_2.1) fun t12_3 =>
  bnd (c159 t12_3 r11_2.2) fun r13_4 =>
  bnd ((afill [(0, 1, p0), (1, 1, r9_1.1), (2, 1, r13_4.1)] [(.str []), (.str []), .nili]).map .agg) fun t14_5 =>
  bnd (abox t14_5 r13_4.2) fun r15_6 =>
  some (r15_6.1, r15_6.2)
theorem ec156 (p0 p1 p2 : AV) (H : Hp) : c156 p0 p1 p2 H = bc156 c158 c159 c98 p0 p1 p2 H := (callw_cxm (C := cfg) (fn := Tryz.f156) (c := bodyOf Tryz.f156) (n := 16) [] Tryz.func156 (by kernel_rfl) (by kernel_rfl) [p0, p1, p2] (by kernel_rfl) H).trans (by kernel_rfl)
theorem mc156 {c158 dc158 : A1} (hc158 : L1 c158 dc158) {c159 dc159 : A1} (hc159 : L1 c159 dc159) {c98 dc98 : A1} (hc98 : L1 c98 dc98) : L3 (bc156 c158 c159 c98) (bc156 dc158 dc159 dc98) := fun _ _ _ _ =>
  bC (hc158 _ _) fun _ => bC (hc98 _ _) fun _ => bR fun _ => bC (hc159 _ _) fun _ => bR fun _ => bR fun _ => le_refl _
noncomputable def rc156 : A3 := fun p0 p1 p2 H => bc156 rc158 rc159 rc98 p0 p1 p2 H
theorem sc156 : L3 rc156 c156 := fun _ _ _ H => le_eq (mc156 sc158 sc159 sc98 _ _ _ _) (ec156 _ _ _ _)

/-! strconv_toError -/
noncomputable def c149 (p0 p1 p2 p3 p4 : AV) (H : Hp) : Res := callw cfg 149 [p0, p1, p2, p3, p4] H
noncomputable def j149_1 (H0 : Hp) (x4 : AV) (H : Hp) : Res := CXf 149 43 (sub (bodyOf Tryz.f149) [1, 1]) (retL cfg 43 149 Tryz.f149 H0) [(4, x4)] H
noncomputable def b149_1 (x4 : AV) (H : Hp) : Res :=
  some (x4, H)
theorem e149_1 (H0 : Hp) (x4 : AV) (H : Hp) : j149_1 H0 x4 H = b149_1 x4 H := (CXM_eq [10] _ _ _ _).trans (by kernel_rfl)
theorem m149_1 : L1 (b149_1) (b149_1) := fun _ _ =>
  le_refl _
noncomputable def rj149_1 : A1 := b149_1
theorem sj149_1 (H0 : Hp) : L1 (rj149_1) (j149_1 H0) := fun _ _ => le_eq (m149_1 _ _) (e149_1 H0 _ _)
noncomputable def bc149 (c153 : A2) (c154 : A2) (c155 : A3) (c156 : A3) (j149_1 : A1) (p0 p1 p2 p3 p4 : AV) (H : Hp) : Res :=
  bnd ((none : Option AV)) fun t13_1 =>
  bnd ((none : Option AV)) fun t14_2 =>
  cnd t14_2
    (bnd (c153 p0 p1 H) fun r17_3 =>
    bnd ((none : Option AV)) fun t18_4 =>
    some (t18_4, r17_3.2))
    (bnd ((none : Option AV)) fun t20_5 =>
    bnd ((none : Option AV)) fun t21_6 =>
    cnd t21_6
      (bnd (c154 p0 p1 H) fun r24_7 =>
      bnd ((none : Option AV)) fun t25_8 =>
      some (t25_8, r24_7.2))
      (bnd ((none : Option AV)) fun t27_9 =>
      bnd ((none : Option AV)) fun t28_10 =>
      cnd t28_10
        (bnd (c155 p0 p1 p2 H) fun r32_11 =>
        bnd ((none : Option AV)) fun t33_12 =>
        some (t33_12, r32_11.2))
        (bnd ((none : Option AV)) fun t35_13 =>
        bnd ((none : Option AV)) fun t36_14 =>
        cnd t36_14
          (bnd (c156 p0 p1 p3 H) fun r40_15 =>
          bnd ((none : Option AV)) fun t41_16 =>
          some (t41_16, r40_15.2))
          (j149_1 p4 H))))
theorem ec149 (p0 p1 p2 p3 p4 : AV) (H : Hp) : c149 p0 p1 p2 p3 p4 H = bc149 c153 c154 c155 c156 (j149_1 H) p0 p1 p2 p3 p4 H := (callw_cxm (C := cfg) (fn := Tryz.f149) (c := bodyOf Tryz.f149) (n := 43) [10] Tryz.func149 (by kernel_rfl) (by kernel_rfl) [p0, p1, p2, p3, p4] (by kernel_rfl) H).trans (by kernel_rfl)
theorem mc149 {c153 dc153 : A2} (hc153 : L2 c153 dc153) {c154 dc154 : A2} (hc154 : L2 c154 dc154) {c155 dc155 : A3} (hc155 : L3 c155 dc155) {c156 dc156 : A3} (hc156 : L3 c156 dc156) {j149_1 dj149_1 : A1} (hj149_1 : L1 j149_1 dj149_1) : L5 (bc149 c153 c154 c155 c156 j149_1) (bc149 dc153 dc154 dc155 dc156 dj149_1) := fun _ _ _ _ _ _ =>
  bR fun _ => bR fun _ => bK (bC (hc153 _ _ _) fun _ => bR fun _ => le_refl _) (bR fun _ => bR fun _ => bK (bC (hc154 _ _ _) fun _ => bR fun _ => le_refl _) (bR fun _ => bR fun _ => bK (bC (hc155 _ _ _ _) fun _ => bR fun _ => le_refl _) (bR fun _ => bR fun _ => bK (bC (hc156 _ _ _ _) fun _ => bR fun _ => le_refl _) (hj149_1 _ _))))
noncomputable def rc149 : A5 := fun p0 p1 p2 p3 p4 H => bc149 rc153 rc154 rc155 rc156 (rj149_1) p0 p1 p2 p3 p4 H
theorem sc149 : L5 rc149 c149 := fun _ _ _ _ _ H => le_eq (mc149 sc153 sc154 sc155 sc156 (sj149_1 H) _ _ _ _ _ _) (ec149 _ _ _ _ _ _)

/-! strconv_Atoi -/
noncomputable def c141 (p0 : AV) (H : Hp) : Res := callw cfg 141 [p0] H
noncomputable def j141_1 (H0 : Hp) (x4 : AV) (H : Hp) : Res := CXf 141 18 (sub (bodyOf Tryz.f141) [1, 1, 1]) (retL cfg 18 141 Tryz.f141 H0) [(4, x4)] H
noncomputable def b141_1 (x4 : AV) (H : Hp) : Res :=
  some ((.tuple [x4, .nili]), H)
theorem e141_1 (H0 : Hp) (x4 : AV) (H : Hp) : j141_1 H0 x4 H = b141_1 x4 H := (CXM_eq [4] _ _ _ _).trans (by kernel_rfl)
theorem m141_1 : L1 (b141_1) (b141_1) := fun _ _ =>
  le_refl _
noncomputable def rj141_1 : A1 := b141_1
theorem sj141_1 (H0 : Hp) : L1 (rj141_1) (j141_1 H0) := fun _ _ => le_eq (m141_1 _ _) (e141_1 H0 _ _)
noncomputable def bc141 (c148 : A1) (c149 : A5) (j141_1 : A1) (p0 : AV) (H : Hp) : Res :=
  bnd (c148 p0 H) fun r8_1 =>
  bnd (aext r8_1.1 0) fun t9_2 =>
  bnd (aext r8_1.1 1) fun t10_3 =>
  bnd (ebinI .neq t10_3 .nili) fun t12_4 =>
  cnd t12_4
    (bnd (c149 (.str [65, 116, 111, 105]) p0 (.int .i64 0) (.int .i64 0) t10_3 r8_1.2) fun r16_5 =>
    some ((.tuple [t9_2, r16_5.1]), r16_5.2))
    (j141_1 t9_2 r8_1.2)
theorem ec141 (p0 : AV) (H : Hp) : c141 p0 H = bc141 c148 c149 (j141_1 H) p0 H := (callw_cxm (C := cfg) (fn := Tryz.f141) (c := bodyOf Tryz.f141) (n := 18) [4] Tryz.func141 (by kernel_rfl) (by kernel_rfl) [p0] (by kernel_rfl) H).trans (by kernel_rfl)
theorem mc141 {c148 dc148 : A1} (hc148 : L1 c148 dc148) {c149 dc149 : A5} (hc149 : L5 c149 dc149) {j141_1 dj141_1 : A1} (hj141_1 : L1 j141_1 dj141_1) : L1 (bc141 c148 c149 j141_1) (bc141 dc148 dc149 dj141_1) := fun _ _ =>
  bC (hc148 _ _) fun _ => bR fun _ => bR fun _ => bR fun _ => bK (bC (hc149 _ _ _ _ _ _) fun _ => le_refl _) (hj141_1 _ _)
noncomputable def rc141 : A1 := fun p0 H => bc141 rc148 rc149 (rj141_1) p0 H
theorem sc141 : L1 rc141 c141 := fun _ H => le_eq (mc141 sc148 sc149 (sj141_1 H) _ _) (ec141 _ _)

/-! num_Parse -/
noncomputable def c130 (p0 : AV) (H : Hp) : Res := callw cfg 130 [p0] H
noncomputable def j130_2 (H0 : Hp) (x4 : AV) (H : Hp) : Res := CXf 130 17 (sub (bodyOf Tryz.f130) [1, 1, 1, 1]) (retL cfg 17 130 Tryz.f130 H0) [(4, x4)] H
noncomputable def j130_1 (H0 : Hp) (x0 : AV) (H : Hp) : Res := CXf 130 17 (sub (bodyOf Tryz.f130) [1, 1]) (retL cfg 17 130 Tryz.f130 H0) [(0, x0)] H
noncomputable def b130_2 (x4 : AV) (H : Hp) : Res :=
  some ((.tuple [x4, (.int .i64 0)]), H)
theorem e130_2 (H0 : Hp) (x4 : AV) (H : Hp) : j130_2 H0 x4 H = b130_2 x4 H := (CXM_eq [3, 6] _ _ _ _).trans (by kernel_rfl)
theorem m130_2 : L1 (b130_2) (b130_2) := fun _ _ =>
  le_refl _
noncomputable def b130_1 (c141 : A1) (j130_2 : A1) (x0 : AV) (H : Hp) : Res :=
  bnd (c141 x0 H) fun r11_1 =>
  bnd (aext r11_1.1 0) fun t12_2 =>
  bnd (aext r11_1.1 1) fun t13_3 =>
  bnd (ebinI .neq t13_3 .nili) fun t15_4 =>
  cnd t15_4
    (some ((.tuple [(.int .i64 0), (.int .i64 9)]), r11_1.2))
    (j130_2 t12_2 r11_1.2)
theorem e130_1 (H0 : Hp) (x0 : AV) (H : Hp) : j130_1 H0 x0 H = b130_1 c141 (j130_2 H0) x0 H := (CXM_eq [3, 6] _ _ _ _).trans (by kernel_rfl)
theorem m130_1 {c141 dc141 : A1} (hc141 : L1 c141 dc141) {j130_2 dj130_2 : A1} (hj130_2 : L1 j130_2 dj130_2) : L1 (b130_1 c141 j130_2) (b130_1 dc141 dj130_2) := fun _ _ =>
  bC (hc141 _ _) fun _ => bR fun _ => bR fun _ => bR fun _ => bK (le_refl _) (hj130_2 _ _)
noncomputable def rj130_2 : A1 := b130_2
theorem sj130_2 (H0 : Hp) : L1 (rj130_2) (j130_2 H0) := fun _ _ => le_eq (m130_2 _ _) (e130_2 H0 _ _)
noncomputable def rj130_1 : A1 := b130_1 rc141 (rj130_2)
theorem sj130_1 (H0 : Hp) : L1 (rj130_1) (j130_1 H0) := fun _ _ => le_eq (m130_1 sc141 (sj130_2 H0) _ _) (e130_1 H0 _ _)
noncomputable def bc130 (c140 : A1) (j130_1 : A1) (p0 : AV) (H : Hp) : Res :=
  bnd (c140 p0 H) fun r7_5 =>
  bnd (aun .not r7_5.1) fun t8_6 =>
  cnd t8_6
    (some ((.tuple [(.int .i64 0), (.int .i64 1)]), r7_5.2))
    (j130_1 p0 r7_5.2)
theorem ec130 (p0 : AV) (H : Hp) : c130 p0 H = bc130 c140 (j130_1 H) p0 H := (callw_cxm (C := cfg) (fn := Tryz.f130) (c := bodyOf Tryz.f130) (n := 17) [3, 6] Tryz.func130 (by kernel_rfl) (by kernel_rfl) [p0] (by kernel_rfl) H).trans (by kernel_rfl)
theorem mc130 {c140 dc140 : A1} (hc140 : L1 c140 dc140) {j130_1 dj130_1 : A1} (hj130_1 : L1 j130_1 dj130_1) : L1 (bc130 c140 j130_1) (bc130 dc140 dj130_1) := fun _ _ =>
  bC (hc140 _ _) fun _ => bR fun _ => bK (le_refl _) (hj130_1 _ _)
noncomputable def rc130 : A1 := fun p0 H => bc130 rc140 (rj130_1) p0 H
theorem sc130 : L1 rc130 c130 := fun _ H => le_eq (mc130 sc140 (sj130_1 H) _ _) (ec130 _ _)

/-! sortkey_place_number -/
noncomputable def c122 (p0 p1 : AV) (H : Hp) : Res := callw cfg 122 [p0, p1] H
noncomputable def j122_1 (H0 : Hp) (x1 x7 x8 x9 : AV) (H : Hp) : Res := CXf 122 33 (sub (bodyOf Tryz.f122) [1, 1, 1, 1]) (retL cfg 33 122 Tryz.f122 H0) [(1, x1), (7, x7), (8, x8), (9, x9)] H
noncomputable def b122_1 (x1 x7 x8 x9 : AV) (H : Hp) : Res :=
  bnd (asliceS x1 (some x7) none none) fun t30_6 =>
  bnd (ibin .eql x9 (.int .i64 0)) fun t32_7 =>
  some ((.tuple [x8, t30_6, t32_7]), H)
theorem e122_1 (H0 : Hp) (x1 x7 x8 x9 : AV) (H : Hp) : j122_1 H0 x1 x7 x8 x9 H = b122_1 x1 x7 x8 x9 H := (CXM_eq [6] _ _ _ _).trans (by kernel_rfl)
theorem m122_1 : L4 (b122_1) (b122_1) := fun _ _ _ _ _ =>
  bR fun _ => bR fun _ => le_refl _
noncomputable def rj122_1 : A4 := b122_1
theorem sj122_1 (H0 : Hp) : L4 (rj122_1) (j122_1 H0) := fun _ _ _ _ _ => le_eq (m122_1 _ _ _ _ _) (e122_1 H0 _ _ _ _ _)
noncomputable def bc122 (c129 : A1) (c130 : A1) (j122_1 : A4) (p0 p1 : AV) (H : Hp) : Res :=
  bnd (c129 p1 H) fun r11_1 =>
  bnd (asliceS p1 none (some r11_1.1) none) fun t15_2 =>
  bnd (c130 t15_2 r11_1.2) fun r16_3 =>
  bnd (aext r16_3.1 0) fun t17_4 =>
  bnd (aext r16_3.1 1) fun t18_5 =>
  bnd (ibin .eql t18_5 (.int .i64 9)) fun t20_8 =>
  cnd t20_8
    (bnd (anil p0) fun t22_9 =>
    bnd (afield 4 t22_9) fun t23_10 =>
    bnd (astoreU 1 t23_10 (.bool true) r16_3.2) fun r_11 =>
    bnd (asliceS p1 (some r11_1.1) none none) fun t26_12 =>
    some ((.tuple [(.int .i64 1), t26_12, (.bool true)]), r_11.2))
    (j122_1 p1 r11_1.1 t17_4 t18_5 r16_3.2)
theorem ec122 (p0 p1 : AV) (H : Hp) : c122 p0 p1 H = bc122 c129 c130 (j122_1 H) p0 p1 H := (callw_cxm (C := cfg) (fn := Tryz.f122) (c := bodyOf Tryz.f122) (n := 33) [6] Tryz.func122 (by kernel_rfl) (by kernel_rfl) [p0, p1] (by kernel_rfl) H).trans (by kernel_rfl)
theorem mc122 {c129 dc129 : A1} (hc129 : L1 c129 dc129) {c130 dc130 : A1} (hc130 : L1 c130 dc130) {j122_1 dj122_1 : A4} (hj122_1 : L4 j122_1 dj122_1) : L2 (bc122 c129 c130 j122_1) (bc122 dc129 dc130 dj122_1) := fun _ _ _ =>
  bC (hc129 _ _) fun _ => bR fun _ => bC (hc130 _ _) fun _ => bR fun _ => bR fun _ => bR fun _ => bK (bR fun _ => bR fun _ => bR fun _ => bR fun _ => le_refl _) (hj122_1 _ _ _ _ _)
noncomputable def rc122 : A2 := fun p0 p1 H => bc122 rc129 rc130 (rj122_1) p0 p1 H
theorem sc122 : L2 rc122 c122 := fun _ _ H => le_eq (mc122 sc129 sc130 (sj122_1 H) _ _ _) (ec122 _ _ _)

/-! sortkey_place_read -/
noncomputable def c99 (p0 p1 : AV) (H : Hp) : Res := callw cfg 99 [p0, p1] H
noncomputable def j99_2 (H0 : Hp) (x1 x7 : AV) (H : Hp) : Res := CXf 99 63 (sub (bodyOf Tryz.f99) [1, 1, 1, 1, 1]) (retL cfg 63 99 Tryz.f99 H0) [(1, x1), (7, x7)] H
noncomputable def k99_1 (H0 : Hp) : KL := seqL (fun k al H => CXf 99 63 (sub (bodyOf Tryz.f99) [1, 1, 1, 1, 1]) k (trimL (cfg.keep 99) (sub (bodyOf Tryz.f99) [1, 1, 1, 1, 1]) al) H) (retL cfg 63 99 Tryz.f99 H0)
theorem k99_1_tame (H0 : Hp) : Tame 63 (k99_1 H0) := tame_seq (C := cfg) (kp := cfg.keep 99) (sub (bodyOf Tryz.f99) [1, 1, 1, 1, 1]) (tame_ret 99 Tryz.f99 H0)
noncomputable def j99_3 (H0 : Hp) (x0 x1 x7 : AV) (H : Hp) : Res := CXf 99 63 (sub (bodyOf Tryz.f99) [1, 1, 1, 1, 0, 0, 0, 1]) (seqL (fun k al H => LPf 99 63 (sub (bodyOf Tryz.f99) [1, 1, 1, 1, 0, 0, 0]) k (trimL (cfg.keep 99) (sub (bodyOf Tryz.f99) [1, 1, 1, 1, 0, 0, 0]) al) H) (blockL 0 (k99_1 H0))) [(0, x0), (1, x1), (7, x7)] H
noncomputable def j99_l1 (H0 : Hp) (x0 x1 x7 : AV) (H : Hp) : Res := LPf 99 63 (sub (bodyOf Tryz.f99) [1, 1, 1, 1, 0, 0, 0]) (blockL 0 (k99_1 H0)) [(0, x0), (1, x1), (7, x7)] H
noncomputable def j99_1 (H0 : Hp) (x0 x1 x7 : AV) (H : Hp) : Res := CXf 99 63 (sub (bodyOf Tryz.f99) [1, 1, 1, 1]) (retL cfg 63 99 Tryz.f99 H0) [(0, x0), (1, x1), (7, x7)] H
noncomputable def b99_2 (x1 x7 : AV) (H : Hp) : Res :=
  some ((.tuple [x1, x7]), H)
theorem e99_2 (H0 : Hp) (x1 x7 : AV) (H : Hp) : j99_2 H0 x1 x7 H = b99_2 x1 x7 H := (CXM_eq [6, 7, 9] _ _ _ _).trans (by kernel_rfl)
theorem m99_2 : L2 (b99_2) (b99_2) := fun _ _ _ =>
  le_refl _
noncomputable def b99_3 (j99_l1 : A3) (q46 : A1) (x0 x1 x7 : AV) (H : Hp) : Res :=
  bnd (anil x0) fun t50_8 =>
  bnd (afield 2 t50_8) fun t51_9 =>
  bnd (aload false 1 t51_9 H) fun t52_10 =>
  bnd (aindexStr x1 (.int .i64 0)) fun t54_11 =>
  bnd (q46 t54_11 H) fun r55_12 =>
  bnd (ibin .or t52_10 r55_12.1) fun t56_13 =>
  bnd (anil x0) fun t57_14 =>
  bnd (afield 2 t57_14) fun t58_15 =>
  bnd (astoreU 1 t58_15 t56_13 r55_12.2) fun r_16 =>
  bnd (asliceS x1 (some (.int .i64 1)) none none) fun t60_17 =>
  j99_l1 x0 t60_17 x7 r_16.2
theorem e99_3 (H0 : Hp) (x0 x1 x7 : AV) (H : Hp) : j99_3 H0 x0 x1 x7 H = b99_3 (j99_l1 H0) q46 x0 x1 x7 H := (CXM_eq [6, 7, 9] _ _ _ _).trans (by kernel_rfl)
theorem m99_3 {j99_l1 dj99_l1 : A3} (hj99_l1 : L3 j99_l1 dj99_l1) {q46 dq46 : A1} (hq46 : L1 q46 dq46) : L3 (b99_3 j99_l1 q46) (b99_3 dj99_l1 dq46) := fun _ _ _ _ =>
  bR fun _ => bR fun _ => bR fun _ => bR fun _ => bC (hq46 _ _) fun _ => bR fun _ => bR fun _ => bR fun _ => bR fun _ => bR fun _ => hj99_l1 _ _ _ _
noncomputable def b99_l1 (q46 : A1) (j99_2 : A2) (j99_3 : A3) (x0 x1 x7 : AV) (H : Hp) : Res :=
  bnd (gdv x7 true (.tuple []) (some x1)) fun t40_18 =>
  bnd (gdv x7 true (.tuple []) (sbin .neq t40_18 (.str []))) fun t41_19 =>
  bnd (apick x7 t41_19 (.bool false)) fun t42_20 =>
  bnd (gdv t42_20 true (.tuple []) (some x1)) fun t44_21 =>
  bnd (gdv t42_20 true (.tuple []) (aindexStr t44_21 (.int .i64 0))) fun t45_22 =>
  bnd (gdv t42_20 true ((.tuple []), H) (q46 t45_22 H)) fun r46_23 =>
  bnd (gdv t42_20 true (.tuple []) (ibin .neq r46_23.1 (.int .i64 0))) fun t47_24 =>
  bnd (apick t42_20 t47_24 (.bool false)) fun t48_25 =>
  cnd t48_25
    (j99_3 x0 x1 x7 r46_23.2)
    (j99_2 x1 x7 r46_23.2)
theorem e99_l1 (H0 : Hp) (x0 x1 x7 : AV) (H : Hp) : j99_l1 H0 x0 x1 x7 H = b99_l1 q46 (j99_2 H0) (j99_3 H0) x0 x1 x7 H := (LPL_eqm (C := cfg) [6, 7, 9] (tame_block 0 (k99_1_tame H0)) _ _).trans (by kernel_rfl)
theorem m99_l1 {q46 dq46 : A1} (hq46 : L1 q46 dq46) {j99_2 dj99_2 : A2} (hj99_2 : L2 j99_2 dj99_2) {j99_3 dj99_3 : A3} (hj99_3 : L3 j99_3 dj99_3) : L3 (b99_l1 q46 j99_2 j99_3) (b99_l1 dq46 dj99_2 dj99_3) := fun _ _ _ _ =>
  bR fun _ => bR fun _ => bR fun _ => bR fun _ => bR fun _ => bG (hq46 _ _) fun _ => bR fun _ => bR fun _ => bK (hj99_3 _ _ _ _) (hj99_2 _ _ _)
noncomputable def b99_1 (j99_l1 : A3) (x0 x1 x7 : AV) (H : Hp) : Res :=
  j99_l1 x0 x1 x7 H
theorem e99_1 (H0 : Hp) (x0 x1 x7 : AV) (H : Hp) : j99_1 H0 x0 x1 x7 H = b99_1 (j99_l1 H0) x0 x1 x7 H := (CXM_eq [6, 7, 9] _ _ _ _).trans (by kernel_rfl)
theorem m99_1 {j99_l1 dj99_l1 : A3} (hj99_l1 : L3 j99_l1 dj99_l1) : L3 (b99_1 j99_l1) (b99_1 dj99_l1) := fun _ _ _ _ =>
  hj99_l1 _ _ _ _
noncomputable def rj99_2 : A2 := b99_2
theorem sj99_2 (H0 : Hp) : L2 (rj99_2) (j99_2 H0) := fun _ _ _ => le_eq (m99_2 _ _ _) (e99_2 H0 _ _ _)
noncomputable def rj99_3 (j99_l1 : A3) : A3 := b99_3 j99_l1 rq46
theorem sj99_3 (H0 : Hp) {yj99_l1 : A3} (hj99_l1 : L3 yj99_l1 (j99_l1 H0)) : L3 (rj99_3 yj99_l1) (j99_3 H0) := fun _ _ _ _ => le_eq (m99_3 hj99_l1 sq46 _ _ _ _) (e99_3 H0 _ _ _ _)
noncomputable def rj99_l1 (n : Nat) : A3 := @Nat.rec (fun _ => A3) (fun _ _ _ _ => none) (fun _ j99_l1 => b99_l1 rq46 (rj99_2) (rj99_3 j99_l1)) n
theorem sj99_l1 (H0 : Hp) (n : Nat) : L3 (rj99_l1 n) (j99_l1 H0) := by
  induction n with
  | zero => exact fun _ _ _ _ => le_none _
  | succ n hj99_l1 => exact fun _ _ _ _ => le_eq (m99_l1 sq46 (sj99_2 H0) (sj99_3 H0 hj99_l1) _ _ _ _) (e99_l1 H0 _ _ _ _)
noncomputable def rj99_1 : A3 := b99_1 (rj99_l1 100000)
theorem sj99_1 (H0 : Hp) : L3 (rj99_1) (j99_1 H0) := fun _ _ _ _ => le_eq (m99_1 (sj99_l1 H0 100000) _ _ _ _) (e99_1 H0 _ _ _ _)
noncomputable def bc99 (c100 : A2) (c122 : A2) (j99_1 : A3) (p0 p1 : AV) (H : Hp) : Res :=
  bnd (c122 p0 p1 H) fun r11_1 =>
  bnd (aext r11_1.1 0) fun t12_2 =>
  bnd (aext r11_1.1 1) fun t13_3 =>
  bnd (aext r11_1.1 2) fun t14_4 =>
  bnd (anil p0) fun t17_5 =>
  bnd (afield 0 t17_5) fun t18_6 =>
  bnd (astoreU 1 t18_6 t12_2 r11_1.2) fun r_7 =>
  bnd (gdv t14_4 true (.tuple []) (some t13_3)) fun t21_26 =>
  bnd (gdv t14_4 true ((.tuple []), r_7.2) (c100 t21_26 (.str [46]) r_7.2)) fun r22_27 =>
  bnd (apick t14_4 r22_27.1 (.bool false)) fun t23_28 =>
  cnd t23_28
    (bnd (anil p0) fun t25_29 =>
    bnd (afield 3 t25_29) fun t26_30 =>
    bnd (astoreU 1 t26_30 (.bool true) r22_27.2) fun r_31 =>
    bnd (asliceS t13_3 (some (.int .i64 1)) none none) fun t31_32 =>
    bnd (c122 p0 t31_32 r_31.2) fun r32_33 =>
    bnd (aext r32_33.1 0) fun t33_34 =>
    bnd (aext r32_33.1 1) fun t34_35 =>
    bnd (aext r32_33.1 2) fun t35_36 =>
    bnd (anil p0) fun t36_37 =>
    bnd (afield 1 t36_37) fun t37_38 =>
    bnd (astoreU 1 t37_38 t33_34 r32_33.2) fun r_39 =>
    j99_1 p0 t34_35 t35_36 r_39.2)
    (j99_1 p0 t13_3 t14_4 r22_27.2)
theorem ec99 (p0 p1 : AV) (H : Hp) : c99 p0 p1 H = bc99 c100 c122 (j99_1 H) p0 p1 H := (callw_cxm (C := cfg) (fn := Tryz.f99) (c := bodyOf Tryz.f99) (n := 63) [6, 7, 9] Tryz.func99 (by kernel_rfl) (by kernel_rfl) [p0, p1] (by kernel_rfl) H).trans (by kernel_rfl)
theorem mc99 {c100 dc100 : A2} (hc100 : L2 c100 dc100) {c122 dc122 : A2} (hc122 : L2 c122 dc122) {j99_1 dj99_1 : A3} (hj99_1 : L3 j99_1 dj99_1) : L2 (bc99 c100 c122 j99_1) (bc99 dc100 dc122 dj99_1) := fun _ _ _ =>
  bC (hc122 _ _ _) fun _ => bR fun _ => bR fun _ => bR fun _ => bR fun _ => bR fun _ => bR fun _ => bR fun _ => bG (hc100 _ _ _) fun _ => bR fun _ => bK (bR fun _ => bR fun _ => bR fun _ => bR fun _ => bC (hc122 _ _ _) fun _ => bR fun _ => bR fun _ => bR fun _ => bR fun _ => bR fun _ => bR fun _ => hj99_1 _ _ _ _) (hj99_1 _ _ _ _)
noncomputable def rc99 : A2 := fun p0 p1 H => bc99 rc100 rc122 (rj99_1) p0 p1 H
theorem sc99 : L2 rc99 c99 := fun _ _ H => le_eq (mc99 sc100 sc122 (sj99_1 H) _ _ _) (ec99 _ _ _)

/-! sortkey_key -/
noncomputable def c77 (p0 : AV) (H : Hp) : Res := callw cfg 77 [p0] H
noncomputable def j77_4 (H0 : Hp) (x2 x4 x5 : AV) (H : Hp) : Res := CXf 77 107 (sub (bodyOf Tryz.f77) [1, 1, 1, 1, 1, 1, 1, 1]) (retL cfg 107 77 Tryz.f77 H0) [(2, x2), (4, x4), (5, x5)] H
noncomputable def j77_3 (H0 : Hp) (x2 x4 x5 x7 : AV) (H : Hp) : Res := CXf 77 107 (sub (bodyOf Tryz.f77) [1, 1, 1, 1, 1, 1, 1]) (retL cfg 107 77 Tryz.f77 H0) [(2, x2), (4, x4), (5, x5), (7, x7)] H
noncomputable def j77_2 (H0 : Hp) (x2 x4 x5 x7 : AV) (H : Hp) : Res := CXf 77 107 (sub (bodyOf Tryz.f77) [1, 1, 1, 1, 1, 1]) (retL cfg 107 77 Tryz.f77 H0) [(2, x2), (4, x4), (5, x5), (7, x7)] H
noncomputable def j77_1 (H0 : Hp) (x0 x2 x4 x5 x6 x7 : AV) (H : Hp) : Res := CXf 77 107 (sub (bodyOf Tryz.f77) [1, 1, 1, 1, 1]) (retL cfg 107 77 Tryz.f77 H0) [(0, x0), (2, x2), (4, x4), (5, x5), (6, x6), (7, x7)] H
noncomputable def b77_4 (x2 x4 x5 : AV) (H : Hp) : Res :=
  bnd (anil x4) fun t82_12 =>
  bnd (afield 0 t82_12) fun t83_13 =>
  bnd (aload false 1 t83_13 H) fun t84_14 =>
  bnd (anil x4) fun t86_15 =>
  bnd (afield 1 t86_15) fun t87_16 =>
  bnd (aload false 1 t87_16 H) fun t88_17 =>
  bnd (anil x5) fun t90_18 =>
  bnd (afield 0 t90_18) fun t91_19 =>
  bnd (aload false 1 t91_19 H) fun t92_20 =>
  bnd (anil x5) fun t94_21 =>
  bnd (afield 1 t94_21) fun t95_22 =>
  bnd (aload false 1 t95_22 H) fun t96_23 =>
  bnd (anil x4) fun t98_24 =>
  bnd (afield 2 t98_24) fun t99_25 =>
  bnd (aload false 1 t99_25 H) fun t100_26 =>
  bnd (anil x5) fun t102_27 =>
  bnd (afield 2 t102_27) fun t103_28 =>
  bnd (aload false 1 t103_28 H) fun t104_29 =>
  bnd (ibin .or t100_26 t104_29) fun t105_30 =>
  bnd ((afill [(0, 1, t84_14), (1, 1, t88_17), (2, 1, t92_20), (3, 1, t96_23), (4, 1, t105_30)] [(.int .i64 0), (.int .i64 0), (.int .i64 0), (.int .i64 0), (.int .i64 0)]).map .agg) fun t106_31 =>
  bnd (astoreU 5 x2 t106_31 H) fun r_32 =>
  bnd (aload true 5 x2 r_32.2) fun v2_33 =>
  some ((.tuple [v2_33, (.int .i64 0)]), r_32.2)
theorem e77_4 (H0 : Hp) (x2 x4 x5 : AV) (H : Hp) : j77_4 H0 x2 x4 x5 H = b77_4 x2 x4 x5 H := (CXM_eq [6, 8, 10, 12] _ _ _ _).trans (by kernel_rfl)
theorem m77_4 : L3 (b77_4) (b77_4) := fun _ _ _ _ =>
  bR fun _ => bR fun _ => bR fun _ => bR fun _ => bR fun _ => bR fun _ => bR fun _ => bR fun _ => bR fun _ => bR fun _ => bR fun _ => bR fun _ => bR fun _ => bR fun _ => bR fun _ => bR fun _ => bR fun _ => bR fun _ => bR fun _ => bR fun _ => bR fun _ => bR fun _ => le_refl _
noncomputable def b77_3 (j77_4 : A3) (x2 x4 x5 x7 : AV) (H : Hp) : Res :=
  bnd (anil x4) fun t47_34 =>
  bnd (afield 4 t47_34) fun t48_35 =>
  bnd (aload false 1 t48_35 H) fun t49_36 =>
  bnd (gdv t49_36 false (.tuple []) (some x5)) fun t51_37 =>
  bnd (gdv t49_36 false (.tuple []) (anil t51_37)) fun t52_38 =>
  bnd (gdv t49_36 false (.tuple []) (afield 4 t52_38)) fun t53_39 =>
  bnd (gdv t49_36 false (.tuple []) (aload false 1 t53_39 H)) fun t54_40 =>
  bnd (apick t49_36 (.bool true) t54_40) fun t55_41 =>
  bnd (gdv t55_41 false (.tuple []) (some x4)) fun t57_42 =>
  bnd (gdv t55_41 false (.tuple []) (anil t57_42)) fun t58_43 =>
  bnd (gdv t55_41 false (.tuple []) (afield 0 t58_43)) fun t59_44 =>
  bnd (gdv t55_41 false (.tuple []) (aload false 1 t59_44 H)) fun t60_45 =>
  bnd (gdv t55_41 false (.tuple []) (ibin .lss t60_45 (.int .i64 1))) fun t61_46 =>
  bnd (apick t55_41 (.bool true) t61_46) fun t62_47 =>
  bnd (gdv t62_47 false (.tuple []) (some x4)) fun t64_48 =>
  bnd (gdv t62_47 false (.tuple []) (anil t64_48)) fun t65_49 =>
  bnd (gdv t62_47 false (.tuple []) (afield 1 t65_49)) fun t66_50 =>
  bnd (gdv t62_47 false (.tuple []) (aload false 1 t66_50 H)) fun t67_51 =>
  bnd (gdv t62_47 false (.tuple []) (ibin .lss t67_51 (.int .i64 1))) fun t68_52 =>
  bnd (apick t62_47 (.bool true) t68_52) fun t69_53 =>
  bnd (gdv t69_53 false (.tuple []) (some x7)) fun t71_54 =>
  bnd (gdv t69_53 false (.tuple []) (some t71_54)) fun t72_55 =>
  bnd (gdv t72_55 true (.tuple []) (some x5)) fun t73_56 =>
  bnd (gdv t72_55 true (.tuple []) (anil t73_56)) fun t74_57 =>
  bnd (gdv t72_55 true (.tuple []) (afield 0 t74_57)) fun t75_58 =>
  bnd (gdv t72_55 true (.tuple []) (aload false 1 t75_58 H)) fun t76_59 =>
  bnd (gdv t72_55 true (.tuple []) (ibin .lss t76_59 (.int .i64 1))) fun t77_60 =>
  bnd (gdv t69_53 false (.tuple []) (apick t72_55 t77_60 (.bool false))) fun t78_61 =>
  bnd (apick t69_53 (.bool true) t78_61) fun t79_62 =>
  cnd t79_62
    (bnd (some (.agg [(.int .i64 0), (.int .i64 0), (.int .i64 0), (.int .i64 0), (.int .i64 0)])) fun t80_63 =>
    bnd (astoreU 5 x2 t80_63 H) fun r_64 =>
    bnd (aload true 5 x2 r_64.2) fun v2_65 =>
    some ((.tuple [v2_65, (.int .i64 2)]), r_64.2))
    (j77_4 x2 x4 x5 H)
theorem e77_3 (H0 : Hp) (x2 x4 x5 x7 : AV) (H : Hp) : j77_3 H0 x2 x4 x5 x7 H = b77_3 (j77_4 H0) x2 x4 x5 x7 H := (CXM_eq [6, 8, 10, 12] _ _ _ _).trans (by kernel_rfl)
theorem m77_3 {j77_4 dj77_4 : A3} (hj77_4 : L3 j77_4 dj77_4) : L4 (b77_3 j77_4) (b77_3 dj77_4) := fun _ _ _ _ _ =>
  bR fun _ => bR fun _ => bR fun _ => bR fun _ => bR fun _ => bR fun _ => bR fun _ => bR fun _ => bR fun _ => bR fun _ => bR fun _ => bR fun _ => bR fun _ => bR fun _ => bR fun _ => bR fun _ => bR fun _ => bR fun _ => bR fun _ => bR fun _ => bR fun _ => bR fun _ => bR fun _ => bR fun _ => bR fun _ => bR fun _ => bR fun _ => bR fun _ => bR fun _ => bK (bR fun _ => bR fun _ => bR fun _ => le_refl _) (hj77_4 _ _ _ _)
noncomputable def b77_2 (j77_3 : A4) (x2 x4 x5 x7 : AV) (H : Hp) : Res :=
  bnd (anil x4) fun t39_66 =>
  bnd (afield 3 t39_66) fun t40_67 =>
  bnd (aload false 1 t40_67 H) fun t41_68 =>
  bnd (aun .not t41_68) fun t42_69 =>
  cnd t42_69
    (bnd (anil x4) fun t44_70 =>
    bnd (afield 1 t44_70) fun t45_71 =>
    bnd (astoreU 1 t45_71 (.int .i64 1) H) fun r_72 =>
    j77_3 x2 x4 x5 x7 r_72.2)
    (j77_3 x2 x4 x5 x7 H)
theorem e77_2 (H0 : Hp) (x2 x4 x5 x7 : AV) (H : Hp) : j77_2 H0 x2 x4 x5 x7 H = b77_2 (j77_3 H0) x2 x4 x5 x7 H := (CXM_eq [6, 8, 10, 12] _ _ _ _).trans (by kernel_rfl)
theorem m77_2 {j77_3 dj77_3 : A4} (hj77_3 : L4 j77_3 dj77_3) : L4 (b77_2 j77_3) (b77_2 dj77_3) := fun _ _ _ _ _ =>
  bR fun _ => bR fun _ => bR fun _ => bR fun _ => bK (bR fun _ => bR fun _ => bR fun _ => hj77_3 _ _ _ _ _) (hj77_3 _ _ _ _ _)
noncomputable def b77_1 (j77_2 : A4) (x0 x2 x4 x5 x6 x7 : AV) (H : Hp) : Res :=
  bnd (aun .not x6) fun t32_73 =>
  bnd (gdv t32_73 false (.tuple []) (some x0)) fun t34_74 =>
  bnd (gdv t32_73 false (.tuple []) (sbin .neq t34_74 (.str []))) fun t35_75 =>
  bnd (apick t32_73 (.bool true) t35_75) fun t36_76 =>
  cnd t36_76
    (bnd (some (.agg [(.int .i64 0), (.int .i64 0), (.int .i64 0), (.int .i64 0), (.int .i64 0)])) fun t37_77 =>
    bnd (astoreU 5 x2 t37_77 H) fun r_78 =>
    bnd (aload true 5 x2 r_78.2) fun v2_79 =>
    some ((.tuple [v2_79, (.int .i64 1)]), r_78.2))
    (j77_2 x2 x4 x5 x7 H)
theorem e77_1 (H0 : Hp) (x0 x2 x4 x5 x6 x7 : AV) (H : Hp) : j77_1 H0 x0 x2 x4 x5 x6 x7 H = b77_1 (j77_2 H0) x0 x2 x4 x5 x6 x7 H := (CXM_eq [6, 8, 10, 12] _ _ _ _).trans (by kernel_rfl)
theorem m77_1 {j77_2 dj77_2 : A4} (hj77_2 : L4 j77_2 dj77_2) : L6 (b77_1 j77_2) (b77_1 dj77_2) := fun _ _ _ _ _ _ _ =>
  bR fun _ => bR fun _ => bR fun _ => bR fun _ => bK (bR fun _ => bR fun _ => bR fun _ => le_refl _) (hj77_2 _ _ _ _ _)
noncomputable def rj77_4 : A3 := b77_4
theorem sj77_4 (H0 : Hp) : L3 (rj77_4) (j77_4 H0) := fun _ _ _ _ => le_eq (m77_4 _ _ _ _) (e77_4 H0 _ _ _ _)
noncomputable def rj77_3 : A4 := b77_3 (rj77_4)
theorem sj77_3 (H0 : Hp) : L4 (rj77_3) (j77_3 H0) := fun _ _ _ _ _ => le_eq (m77_3 (sj77_4 H0) _ _ _ _ _) (e77_3 H0 _ _ _ _ _)
noncomputable def rj77_2 : A4 := b77_2 (rj77_3)
theorem sj77_2 (H0 : Hp) : L4 (rj77_2) (j77_2 H0) := fun _ _ _ _ _ => le_eq (m77_2 (sj77_3 H0) _ _ _ _ _) (e77_2 H0 _ _ _ _ _)
noncomputable def rj77_1 : A6 := b77_1 (rj77_2)
theorem sj77_1 (H0 : Hp) : L6 (rj77_1) (j77_1 H0) := fun _ _ _ _ _ _ _ => le_eq (m77_1 (sj77_2 H0) _ _ _ _ _ _ _) (e77_1 H0 _ _ _ _ _ _ _)
noncomputable def bc77 (c100 : A2) (c99 : A2) (j77_1 : A6) (p0 : AV) (H : Hp) : Res :=
  bnd (some ((.ptr H.length 0), H ++ [.cells [(.int .i64 0), (.int .i64 0), (.int .i64 0), (.int .i64 0), (.int .i64 0)]])) fun r2_1 =>
  bnd (some (.agg [(.int .i64 0), (.int .i64 0), (.int .i64 0), (.bool false), (.bool false)])) fun t8_2 =>
  bnd (abox t8_2 r2_1.2) fun r9_3 =>
  bnd (some (.agg [(.int .i64 0), (.int .i64 0), (.int .i64 0), (.bool false), (.bool false)])) fun t10_4 =>
  bnd (abox t10_4 r9_3.2) fun r11_5 =>
  bnd (c99 r9_3.1 p0 r11_5.2) fun r15_6 =>
  bnd (aext r15_6.1 0) fun t16_7 =>
  bnd (aext r15_6.1 1) fun t17_8 =>
  bnd (gdv t17_8 true (.tuple []) (some t16_7)) fun t20_9 =>
  bnd (gdv t17_8 true ((.tuple []), r15_6.2) (c100 t20_9 (.str [44]) r15_6.2)) fun r21_10 =>
  bnd (apick t17_8 r21_10.1 (.bool false)) fun t22_11 =>
  cnd t22_11
    (bnd (asliceS t16_7 (some (.int .i64 1)) none none) fun t27_80 =>
    bnd (c99 r11_5.1 t27_80 r21_10.2) fun r28_81 =>
    bnd (aext r28_81.1 0) fun t29_82 =>
    bnd (aext r28_81.1 1) fun t30_83 =>
    j77_1 t29_82 r2_1.1 r9_3.1 r11_5.1 t30_83 t22_11 r28_81.2)
    (j77_1 t16_7 r2_1.1 r9_3.1 r11_5.1 t17_8 t22_11 r21_10.2)
theorem ec77 (p0 : AV) (H : Hp) : c77 p0 H = bc77 c100 c99 (j77_1 H) p0 H := (callw_cxm (C := cfg) (fn := Tryz.f77) (c := bodyOf Tryz.f77) (n := 107) [6, 8, 10, 12] Tryz.func77 (by kernel_rfl) (by kernel_rfl) [p0] (by kernel_rfl) H).trans (by kernel_rfl)
theorem mc77 {c100 dc100 : A2} (hc100 : L2 c100 dc100) {c99 dc99 : A2} (hc99 : L2 c99 dc99) {j77_1 dj77_1 : A6} (hj77_1 : L6 j77_1 dj77_1) : L1 (bc77 c100 c99 j77_1) (bc77 dc100 dc99 dj77_1) := fun _ _ =>
  bR fun _ => bR fun _ => bR fun _ => bR fun _ => bR fun _ => bC (hc99 _ _ _) fun _ => bR fun _ => bR fun _ => bR fun _ => bG (hc100 _ _ _) fun _ => bR fun _ => bK (bR fun _ => bC (hc99 _ _ _) fun _ => bR fun _ => bR fun _ => hj77_1 _ _ _ _ _ _ _) (hj77_1 _ _ _ _ _ _ _)
noncomputable def rc77 : A1 := fun p0 H => bc77 rc100 rc99 (rj77_1) p0 H
theorem sc77 : L1 rc77 c77 := fun _ H => le_eq (mc77 sc100 sc99 (sj77_1 H) _ _) (ec77 _ _)

/-! sortkey_reader_key -/
noncomputable def c48 (p0 p1 : AV) (H : Hp) : Res := callw cfg 48 [p0, p1] H
noncomputable def j48_2 (H0 : Hp) (x6 : AV) (H : Hp) : Res := CXf 48 34 (sub (bodyOf Tryz.f48) [1, 1, 1, 1]) (retL cfg 34 48 Tryz.f48 H0) [(6, x6)] H
noncomputable def j48_1 (H0 : Hp) (x0 x1 : AV) (H : Hp) : Res := CXf 48 34 (sub (bodyOf Tryz.f48) [1, 1]) (retL cfg 34 48 Tryz.f48 H0) [(0, x0), (1, x1)] H
noncomputable def b48_2 (x6 : AV) (H : Hp) : Res :=
  some (x6, H)
theorem e48_2 (H0 : Hp) (x6 : AV) (H : Hp) : j48_2 H0 x6 H = b48_2 x6 H := (CXM_eq [3, 6] _ _ _ _).trans (by kernel_rfl)
theorem m48_2 : L1 (b48_2) (b48_2) := fun _ _ =>
  le_refl _
noncomputable def b48_1 (c77 : A1) (j48_2 : A1) (x0 x1 : AV) (H : Hp) : Res :=
  bnd (c77 x1 H) fun r16_1 =>
  bnd (aext r16_1.1 0) fun t17_2 =>
  bnd (aext r16_1.1 1) fun t18_3 =>
  bnd (some ((.ptr r16_1.2.length 0), r16_1.2 ++ [.cells [(.int .i64 0), (.int .i64 0), (.int .i64 0), (.int .i64 0), (.int .i64 0)]])) fun r5_4 =>
  bnd (astoreU 5 r5_4.1 t17_2 r5_4.2) fun r_5 =>
  bnd (ibin .eql t18_3 (.int .i64 0)) fun t20_6 =>
  cnd t20_6
    (bnd (anil x0) fun t23_7 =>
    bnd (afield 0 t23_7) fun t24_8 =>
    bnd (afield 0 t24_8) fun t25_9 =>
    bnd (aload false 1 t25_9 r_5.2) fun t26_10 =>
    bnd (aload true 5 r5_4.1 r_5.2) fun t27_11 =>
    bnd ((setElems 5 [(0, t27_11)] [(.agg [(.int .i64 0), (.int .i64 0), (.int .i64 0), (.int .i64 0), (.int .i64 0)])]).map (.vs 5 .clip)) fun t28_12 =>
    bnd (aappE 5 40 t26_10 t28_12 r_5.2) fun r29_13 =>
    bnd (anil x0) fun t30_14 =>
    bnd (afield 0 t30_14) fun t31_15 =>
    bnd (afield 0 t31_15) fun t32_16 =>
    bnd (astoreU 1 t32_16 r29_13.1 r29_13.2) fun r_17 =>
    j48_2 t18_3 r_17.2)
    (j48_2 t18_3 r_5.2)
theorem e48_1 (H0 : Hp) (x0 x1 : AV) (H : Hp) : j48_1 H0 x0 x1 H = b48_1 c77 (j48_2 H0) x0 x1 H := (CXM_eq [3, 6] _ _ _ _).trans (by kernel_rfl)
theorem m48_1 {c77 dc77 : A1} (hc77 : L1 c77 dc77) {j48_2 dj48_2 : A1} (hj48_2 : L1 j48_2 dj48_2) : L2 (b48_1 c77 j48_2) (b48_1 dc77 dj48_2) := fun _ _ _ =>
  bC (hc77 _ _) fun _ => bR fun _ => bR fun _ => bR fun _ => bR fun _ => bR fun _ => bK (bR fun _ => bR fun _ => bR fun _ => bR fun _ => bR fun _ => bR fun _ => bR fun _ => bR fun _ => bR fun _ => bR fun _ => bR fun _ => hj48_2 _ _) (hj48_2 _ _)
noncomputable def rj48_2 : A1 := b48_2
theorem sj48_2 (H0 : Hp) : L1 (rj48_2) (j48_2 H0) := fun _ _ => le_eq (m48_2 _ _) (e48_2 H0 _ _)
noncomputable def rj48_1 : A2 := b48_1 rc77 (rj48_2)
theorem sj48_1 (H0 : Hp) : L2 (rj48_1) (j48_1 H0) := fun _ _ _ => le_eq (m48_1 sc77 (sj48_2 H0) _ _ _) (e48_1 H0 _ _ _)
noncomputable def bc48 (j48_1 : A2) (p0 p1 : AV) (H : Hp) : Res :=
  bnd (anil p0) fun t8_18 =>
  bnd (afield 0 t8_18) fun t9_19 =>
  bnd (afield 0 t9_19) fun t10_20 =>
  bnd (aload false 1 t10_20 H) fun t11_21 =>
  bnd (alenD (.slice 34) t11_21) fun t12_22 =>
  bnd (ibin .eql t12_22 (.int .i64 8)) fun t13_23 =>
  cnd t13_23
    (some ((.int .i64 3), H))
    (j48_1 p0 p1 H)
theorem ec48 (p0 p1 : AV) (H : Hp) : c48 p0 p1 H = bc48 (j48_1 H) p0 p1 H := (callw_cxm (C := cfg) (fn := Tryz.f48) (c := bodyOf Tryz.f48) (n := 34) [3, 6] Tryz.func48 (by kernel_rfl) (by kernel_rfl) [p0, p1] (by kernel_rfl) H).trans (by kernel_rfl)
theorem mc48 {j48_1 dj48_1 : A2} (hj48_1 : L2 j48_1 dj48_1) : L2 (bc48 j48_1) (bc48 dj48_1) := fun _ _ _ =>
  bR fun _ => bR fun _ => bR fun _ => bR fun _ => bR fun _ => bR fun _ => bK (le_refl _) (hj48_1 _ _ _)
noncomputable def rc48 : A2 := fun p0 p1 H => bc48 (rj48_1) p0 p1 H
theorem sc48 : L2 rc48 c48 := fun _ _ H => le_eq (mc48 (sj48_1 H) _ _ _) (ec48 _ _ _)

/-! sortkey_reader_separator -/
noncomputable def c49 (p0 p1 : AV) (H : Hp) : Res := callw cfg 49 [p0, p1] H
noncomputable def j49_1 (H0 : Hp) (x0 x1 : AV) (H : Hp) : Res := CXf 49 19 (sub (bodyOf Tryz.f49) [1, 1]) (retL cfg 19 49 Tryz.f49 H0) [(0, x0), (1, x1)] H
noncomputable def b49_1 (x0 x1 : AV) (H : Hp) : Res :=
  bnd (aindexStr x1 (.int .i64 0)) fun t14_1 =>
  bnd (cvInt .i64 t14_1) fun t15_2 =>
  bnd (anil x0) fun t16_3 =>
  bnd (afield 0 t16_3) fun t17_4 =>
  bnd (afield 1 t17_4) fun t18_5 =>
  bnd (astoreU 1 t18_5 t15_2 H) fun r_6 =>
  some ((.int .i64 0), r_6.2)
theorem e49_1 (H0 : Hp) (x0 x1 : AV) (H : Hp) : j49_1 H0 x0 x1 H = b49_1 x0 x1 H := (CXM_eq [3] _ _ _ _).trans (by kernel_rfl)
theorem m49_1 : L2 (b49_1) (b49_1) := fun _ _ _ =>
  bR fun _ => bR fun _ => bR fun _ => bR fun _ => bR fun _ => bR fun _ => le_refl _
noncomputable def rj49_1 : A2 := b49_1
theorem sj49_1 (H0 : Hp) : L2 (rj49_1) (j49_1 H0) := fun _ _ _ => le_eq (m49_1 _ _ _) (e49_1 H0 _ _ _)
noncomputable def bc49 (j49_1 : A2) (p0 p1 : AV) (H : Hp) : Res :=
  bnd (alenD .string p1) fun t6_7 =>
  bnd (ibin .neq t6_7 (.int .i64 1)) fun t7_8 =>
  bnd (gdv t7_8 false (.tuple []) (some p1)) fun t9_9 =>
  bnd (gdv t7_8 false (.tuple []) (sbin .eql t9_9 (.str [10]))) fun t10_10 =>
  bnd (apick t7_8 (.bool true) t10_10) fun t11_11 =>
  cnd t11_11
    (some ((.int .i64 18), H))
    (j49_1 p0 p1 H)
theorem ec49 (p0 p1 : AV) (H : Hp) : c49 p0 p1 H = bc49 (j49_1 H) p0 p1 H := (callw_cxm (C := cfg) (fn := Tryz.f49) (c := bodyOf Tryz.f49) (n := 19) [3] Tryz.func49 (by kernel_rfl) (by kernel_rfl) [p0, p1] (by kernel_rfl) H).trans (by kernel_rfl)
theorem mc49 {j49_1 dj49_1 : A2} (hj49_1 : L2 j49_1 dj49_1) : L2 (bc49 j49_1) (bc49 dj49_1) := fun _ _ _ =>
  bR fun _ => bR fun _ => bR fun _ => bR fun _ => bR fun _ => bK (le_refl _) (hj49_1 _ _ _)
noncomputable def rc49 : A2 := fun p0 p1 H => bc49 (rj49_1) p0 p1 H
theorem sc49 : L2 rc49 c49 := fun _ _ H => le_eq (mc49 (sj49_1 H) _ _ _) (ec49 _ _ _)

/-! sortkey_parts_1 -/
noncomputable def c57 (p0 p1 p2 p3 p4 : AV) (H : Hp) : Res := callw cfg 57 [p0, p1, p2, p3, p4] H
noncomputable def bc57 (cV : AV → List AV → Hp → Res) (p0 p1 p2 p3 p4 : AV) (H : Hp) : Res :=
  bnd (aload false 1 p2 H) fun t7_1 =>
  bnd (ibin .and t7_1 p0) fun t9_2 =>
  bnd (ibin .neq t9_2 (.int .i64 0)) fun t10_3 =>
  cnd t10_3
    (bnd (aload false 1 p3 H) fun t12_4 =>
    bnd (cV p1 [t12_4] H) fun r13_5 =>
    bnd (aloadv false 1 p4) fun t15_6 =>
    bnd (cV p1 [t15_6] r13_5.2) fun r16_7 =>
    bnd (astoreU 1 p3 r13_5.1 r16_7.2) fun r_8 =>
    bnd (astoreU 1 p4 r16_7.1 r_8.2) fun r_9 =>
    some ((.tuple []), r_9.2))
    (some ((.tuple []), H))
theorem ec57 (p0 p1 p2 p3 p4 : AV) (H : Hp) : c57 p0 p1 p2 p3 p4 H = bc57 (acall cfg (callw cfg)) p0 p1 p2 p3 p4 H := (callw_cxm (C := cfg) (fn := Tryz.f57) (c := bodyOf Tryz.f57) (n := 17) [] Tryz.func57 (by kernel_rfl) (by kernel_rfl) [p0, p1, p2, p3, p4] (by kernel_rfl) H).trans (by kernel_rfl)
theorem mc57 {cV dcV : AV → List AV → Hp → Res} (hcV : LV cV dcV) : L5 (bc57 cV) (bc57 dcV) := fun _ _ _ _ _ _ =>
  bR fun _ => bR fun _ => bR fun _ => bK (bR fun _ => bC (hcV _ _ _) fun _ => bR fun _ => bC (hcV _ _ _) fun _ => bR fun _ => bR fun _ => le_refl _) (le_refl _)
noncomputable def rc57 (gV : AV → List AV → Hp → Res) : A5 := fun p0 p1 p2 p3 p4 H => bc57 gV p0 p1 p2 p3 p4 H
theorem sc57 {gV : AV → List AV → Hp → Res} (hV : LV gV (acall cfg (callw cfg))) : L5 (rc57 gV) c57 := fun _ _ _ _ _ H => le_eq (mc57 hV _ _ _ _ _ _) (ec57 _ _ _ _ _ _)

/-! strings_trimLeftByte -/
noncomputable def c83 (p0 p1 : AV) (H : Hp) : Res := callw cfg 83 [p0, p1] H
noncomputable def j83_1 (H0 : Hp) (x0 : AV) (H : Hp) : Res := CXf 83 17 (sub (bodyOf Tryz.f83) [1, 1]) (retL cfg 17 83 Tryz.f83 H0) [(0, x0)] H
noncomputable def k83_1 (H0 : Hp) : KL := seqL (fun k al H => CXf 83 17 (sub (bodyOf Tryz.f83) [1, 1]) k (trimL (cfg.keep 83) (sub (bodyOf Tryz.f83) [1, 1]) al) H) (retL cfg 17 83 Tryz.f83 H0)
theorem k83_1_tame (H0 : Hp) : Tame 17 (k83_1 H0) := tame_seq (C := cfg) (kp := cfg.keep 83) (sub (bodyOf Tryz.f83) [1, 1]) (tame_ret 83 Tryz.f83 H0)
noncomputable def j83_2 (H0 : Hp) (x0 x1 : AV) (H : Hp) : Res := CXf 83 17 (sub (bodyOf Tryz.f83) [1, 0, 0, 0, 1]) (seqL (fun k al H => LPf 83 17 (sub (bodyOf Tryz.f83) [1, 0, 0, 0]) k (trimL (cfg.keep 83) (sub (bodyOf Tryz.f83) [1, 0, 0, 0]) al) H) (blockL 0 (k83_1 H0))) [(0, x0), (1, x1)] H
noncomputable def j83_l1 (H0 : Hp) (x0 x1 : AV) (H : Hp) : Res := LPf 83 17 (sub (bodyOf Tryz.f83) [1, 0, 0, 0]) (blockL 0 (k83_1 H0)) [(0, x0), (1, x1)] H
noncomputable def b83_1 (x0 : AV) (H : Hp) : Res :=
  some (x0, H)
theorem e83_1 (H0 : Hp) (x0 : AV) (H : Hp) : j83_1 H0 x0 H = b83_1 x0 H := (CXM_eq [2, 3] _ _ _ _).trans (by kernel_rfl)
theorem m83_1 : L1 (b83_1) (b83_1) := fun _ _ =>
  le_refl _
noncomputable def b83_2 (j83_l1 : A2) (x0 x1 : AV) (H : Hp) : Res :=
  bnd (asliceS x0 (some (.int .i64 1)) none none) fun t15_1 =>
  j83_l1 t15_1 x1 H
theorem e83_2 (H0 : Hp) (x0 x1 : AV) (H : Hp) : j83_2 H0 x0 x1 H = b83_2 (j83_l1 H0) x0 x1 H := (CXM_eq [2, 3] _ _ _ _).trans (by kernel_rfl)
theorem m83_2 {j83_l1 dj83_l1 : A2} (hj83_l1 : L2 j83_l1 dj83_l1) : L2 (b83_2 j83_l1) (b83_2 dj83_l1) := fun _ _ _ =>
  bR fun _ => hj83_l1 _ _ _
noncomputable def b83_l1 (j83_1 : A1) (j83_2 : A2) (x0 x1 : AV) (H : Hp) : Res :=
  bnd (alenD .string x0) fun t6_2 =>
  bnd (ibin .gtr t6_2 (.int .i64 0)) fun t7_3 =>
  bnd (gdv t7_3 true (.tuple []) (some x0)) fun t9_4 =>
  bnd (gdv t7_3 true (.tuple []) (aindexStr t9_4 (.int .i64 0))) fun t10_5 =>
  bnd (gdv t7_3 true (.tuple []) (some x1)) fun t11_6 =>
  bnd (gdv t7_3 true (.tuple []) (ibin .eql t10_5 t11_6)) fun t12_7 =>
  bnd (apick t7_3 t12_7 (.bool false)) fun t13_8 =>
  cnd t13_8
    (j83_2 x0 x1 H)
    (j83_1 x0 H)
theorem e83_l1 (H0 : Hp) (x0 x1 : AV) (H : Hp) : j83_l1 H0 x0 x1 H = b83_l1 (j83_1 H0) (j83_2 H0) x0 x1 H := (LPL_eqm (C := cfg) [2, 3] (tame_block 0 (k83_1_tame H0)) _ _).trans (by kernel_rfl)
theorem m83_l1 {j83_1 dj83_1 : A1} (hj83_1 : L1 j83_1 dj83_1) {j83_2 dj83_2 : A2} (hj83_2 : L2 j83_2 dj83_2) : L2 (b83_l1 j83_1 j83_2) (b83_l1 dj83_1 dj83_2) := fun _ _ _ =>
  bR fun _ => bR fun _ => bR fun _ => bR fun _ => bR fun _ => bR fun _ => bR fun _ => bK (hj83_2 _ _ _) (hj83_1 _ _)
noncomputable def rj83_1 : A1 := b83_1
theorem sj83_1 (H0 : Hp) : L1 (rj83_1) (j83_1 H0) := fun _ _ => le_eq (m83_1 _ _) (e83_1 H0 _ _)
noncomputable def rj83_2 (j83_l1 : A2) : A2 := b83_2 j83_l1
theorem sj83_2 (H0 : Hp) {yj83_l1 : A2} (hj83_l1 : L2 yj83_l1 (j83_l1 H0)) : L2 (rj83_2 yj83_l1) (j83_2 H0) := fun _ _ _ => le_eq (m83_2 hj83_l1 _ _ _) (e83_2 H0 _ _ _)
noncomputable def rj83_l1 (n : Nat) : A2 := @Nat.rec (fun _ => A2) (fun _ _ _ => none) (fun _ j83_l1 => b83_l1 (rj83_1) (rj83_2 j83_l1)) n
theorem sj83_l1 (H0 : Hp) (n : Nat) : L2 (rj83_l1 n) (j83_l1 H0) := by
  induction n with
  | zero => exact fun _ _ _ => le_none _
  | succ n hj83_l1 => exact fun _ _ _ => le_eq (m83_l1 (sj83_1 H0) (sj83_2 H0 hj83_l1) _ _ _) (e83_l1 H0 _ _ _)
noncomputable def bc83 (j83_l1 : A2) (p0 p1 : AV) (H : Hp) : Res :=
  j83_l1 p0 p1 H
theorem ec83 (p0 p1 : AV) (H : Hp) : c83 p0 p1 H = bc83 (j83_l1 H) p0 p1 H := (callw_cxm (C := cfg) (fn := Tryz.f83) (c := bodyOf Tryz.f83) (n := 17) [2, 3] Tryz.func83 (by kernel_rfl) (by kernel_rfl) [p0, p1] (by kernel_rfl) H).trans (by kernel_rfl)
theorem mc83 {j83_l1 dj83_l1 : A2} (hj83_l1 : L2 j83_l1 dj83_l1) : L2 (bc83 j83_l1) (bc83 dj83_l1) := fun _ _ _ =>
  hj83_l1 _ _ _
noncomputable def rc83 : A2 := fun p0 p1 H => bc83 (rj83_l1 100000) p0 p1 H
theorem sc83 : L2 rc83 c83 := fun _ _ H => le_eq (mc83 (sj83_l1 H 100000) _ _ _) (ec83 _ _ _)

/-! strings_makeASCIISet -/
noncomputable def c84 (p0 : AV) (H : Hp) : Res := callw cfg 84 [p0] H
noncomputable def j84_1 (H0 : Hp) (x2 : AV) (H : Hp) : Res := CXf 84 21 (sub (bodyOf Tryz.f84) [1, 1]) (retL cfg 21 84 Tryz.f84 H0) [(2, x2)] H
noncomputable def k84_1 (H0 : Hp) : KL := seqL (fun k al H => CXf 84 21 (sub (bodyOf Tryz.f84) [1, 1]) k (trimL (cfg.keep 84) (sub (bodyOf Tryz.f84) [1, 1]) al) H) (retL cfg 21 84 Tryz.f84 H0)
theorem k84_1_tame (H0 : Hp) : Tame 21 (k84_1 H0) := tame_seq (C := cfg) (kp := cfg.keep 84) (sub (bodyOf Tryz.f84) [1, 1]) (tame_ret 84 Tryz.f84 H0)
noncomputable def j84_3 (H0 : Hp) (x0 x2 x4 : AV) (H : Hp) : Res := CXf 84 21 (sub (bodyOf Tryz.f84) [1, 0, 1, 0, 0, 1, 1]) (seqL (fun k al H => LPf 84 21 (sub (bodyOf Tryz.f84) [1, 0, 1, 0, 0]) k (trimL (cfg.keep 84) (sub (bodyOf Tryz.f84) [1, 0, 1, 0, 0]) al) H) (blockL 0 (k84_1 H0))) [(0, x0), (2, x2), (4, x4)] H
noncomputable def k84_2 (H0 : Hp) : KL := seqL (fun k al H => CXf 84 21 (sub (bodyOf Tryz.f84) [1, 0, 1, 0, 0, 1, 1]) k (trimL (cfg.keep 84) (sub (bodyOf Tryz.f84) [1, 0, 1, 0, 0, 1, 1]) al) H) (seqL (fun k al H => LPf 84 21 (sub (bodyOf Tryz.f84) [1, 0, 1, 0, 0]) k (trimL (cfg.keep 84) (sub (bodyOf Tryz.f84) [1, 0, 1, 0, 0]) al) H) (blockL 0 (k84_1 H0)))
theorem k84_2_tame (H0 : Hp) : Tame 21 (k84_2 H0) := tame_seq (C := cfg) (kp := cfg.keep 84) (sub (bodyOf Tryz.f84) [1, 0, 1, 0, 0, 1, 1]) (tame_loop (C := cfg) (kp := cfg.keep 84) (sub (bodyOf Tryz.f84) [1, 0, 1, 0, 0]) (tame_block 0 (k84_1_tame H0)))
noncomputable def j84_4 (H0 : Hp) (x0 x2 x4 x5 : AV) (H : Hp) : Res := CXf 84 21 (sub (bodyOf Tryz.f84) [1, 0, 1, 0, 0, 1, 0, 0, 1, 1]) (blockL 1 (k84_2 H0)) [(0, x0), (2, x2), (4, x4), (5, x5)] H
noncomputable def j84_2 (H0 : Hp) (x0 x2 x4 : AV) (H : Hp) : Res := CXf 84 21 (sub (bodyOf Tryz.f84) [1, 0, 1, 0, 0, 1]) (seqL (fun k al H => LPf 84 21 (sub (bodyOf Tryz.f84) [1, 0, 1, 0, 0]) k (trimL (cfg.keep 84) (sub (bodyOf Tryz.f84) [1, 0, 1, 0, 0]) al) H) (blockL 0 (k84_1 H0))) [(0, x0), (2, x2), (4, x4)] H
noncomputable def j84_l1 (H0 : Hp) (x0 x2 x4 : AV) (H : Hp) : Res := LPf 84 21 (sub (bodyOf Tryz.f84) [1, 0, 1, 0, 0]) (blockL 0 (k84_1 H0)) [(0, x0), (2, x2), (4, x4)] H
noncomputable def b84_1 (x2 : AV) (H : Hp) : Res :=
  bnd (aload true 256 x2 H) fun t20_2 =>
  bnd (astoreU 256 x2 t20_2 H) fun r_3 =>
  bnd (aload true 256 x2 r_3.2) fun v2_4 =>
  some ((.tuple [v2_4, (.bool true)]), r_3.2)
theorem e84_1 (H0 : Hp) (x2 : AV) (H : Hp) : j84_1 H0 x2 H = b84_1 x2 H := (CXM_eq [3, 4, 7, 8] _ _ _ _).trans (by kernel_rfl)
theorem m84_1 : L1 (b84_1) (b84_1) := fun _ _ =>
  bR fun _ => bR fun _ => bR fun _ => le_refl _
noncomputable def b84_3 (j84_l1 : A3) (x0 x2 x4 : AV) (H : Hp) : Res :=
  bnd (ibin .add x4 (.int .i64 1)) fun t11_5 =>
  j84_l1 x0 x2 t11_5 H
theorem e84_3 (H0 : Hp) (x0 x2 x4 : AV) (H : Hp) : j84_3 H0 x0 x2 x4 H = b84_3 (j84_l1 H0) x0 x2 x4 H := (CXM_eq [3, 4, 7, 8] _ _ _ _).trans (by kernel_rfl)
theorem m84_3 {j84_l1 dj84_l1 : A3} (hj84_l1 : L3 j84_l1 dj84_l1) : L3 (b84_3 j84_l1) (b84_3 dj84_l1) := fun _ _ _ _ =>
  bR fun _ => hj84_l1 _ _ _ _
noncomputable def b84_4 (j84_3 : A3) (x0 x2 x4 x5 : AV) (H : Hp) : Res :=
  bnd (aindexA 256 1 x2 x5) fun t19_7 =>
  bnd (astoreU 1 t19_7 (.bool true) H) fun r_8 =>
  j84_3 x0 x2 x4 r_8.2
theorem e84_4 (H0 : Hp) (x0 x2 x4 x5 : AV) (H : Hp) : j84_4 H0 x0 x2 x4 x5 H = b84_4 (j84_3 H0) x0 x2 x4 x5 H := (CXM_eq [3, 4, 7, 8] _ _ _ _).trans (by kernel_rfl)
theorem m84_4 {j84_3 dj84_3 : A3} (hj84_3 : L3 j84_3 dj84_3) : L4 (b84_4 j84_3) (b84_4 dj84_3) := fun _ _ _ _ _ =>
  bR fun _ => bR fun _ => hj84_3 _ _ _ _
noncomputable def b84_2 (j84_4 : A4) (x0 x2 x4 : AV) (H : Hp) : Res :=
  bnd (aindexStr x0 x4) fun t14_6 =>
  bnd (ibin .geq t14_6 (.int .u8 128)) fun t16_9 =>
  cnd t16_9
    (bnd (aload true 256 x2 H) fun t17_10 =>
    bnd (astoreU 256 x2 t17_10 H) fun r_11 =>
    bnd (aload true 256 x2 r_11.2) fun v2_12 =>
    some ((.tuple [v2_12, (.bool false)]), r_11.2))
    (j84_4 x0 x2 x4 t14_6 H)
theorem e84_2 (H0 : Hp) (x0 x2 x4 : AV) (H : Hp) : j84_2 H0 x0 x2 x4 H = b84_2 (j84_4 H0) x0 x2 x4 H := (CXM_eq [3, 4, 7, 8] _ _ _ _).trans (by kernel_rfl)
theorem m84_2 {j84_4 dj84_4 : A4} (hj84_4 : L4 j84_4 dj84_4) : L3 (b84_2 j84_4) (b84_2 dj84_4) := fun _ _ _ _ =>
  bR fun _ => bR fun _ => bK (bR fun _ => bR fun _ => bR fun _ => le_refl _) (hj84_4 _ _ _ _ _)
noncomputable def b84_l1 (j84_1 : A1) (j84_2 : A3) (x0 x2 x4 : AV) (H : Hp) : Res :=
  bnd (alenD .string x0) fun t8_13 =>
  bnd (ibin .lss x4 t8_13) fun t9_14 =>
  cnd t9_14
    (j84_2 x0 x2 x4 H)
    (j84_1 x2 H)
theorem e84_l1 (H0 : Hp) (x0 x2 x4 : AV) (H : Hp) : j84_l1 H0 x0 x2 x4 H = b84_l1 (j84_1 H0) (j84_2 H0) x0 x2 x4 H := (LPL_eqm (C := cfg) [3, 4, 7, 8] (tame_block 0 (k84_1_tame H0)) _ _).trans (by kernel_rfl)
theorem m84_l1 {j84_1 dj84_1 : A1} (hj84_1 : L1 j84_1 dj84_1) {j84_2 dj84_2 : A3} (hj84_2 : L3 j84_2 dj84_2) : L3 (b84_l1 j84_1 j84_2) (b84_l1 dj84_1 dj84_2) := fun _ _ _ _ =>
  bR fun _ => bR fun _ => bK (hj84_2 _ _ _ _) (hj84_1 _ _)
noncomputable def rj84_1 : A1 := b84_1
theorem sj84_1 (H0 : Hp) : L1 (rj84_1) (j84_1 H0) := fun _ _ => le_eq (m84_1 _ _) (e84_1 H0 _ _)
noncomputable def rj84_3 (j84_l1 : A3) : A3 := b84_3 j84_l1
theorem sj84_3 (H0 : Hp) {yj84_l1 : A3} (hj84_l1 : L3 yj84_l1 (j84_l1 H0)) : L3 (rj84_3 yj84_l1) (j84_3 H0) := fun _ _ _ _ => le_eq (m84_3 hj84_l1 _ _ _ _) (e84_3 H0 _ _ _ _)
noncomputable def rj84_4 (j84_l1 : A3) : A4 := b84_4 (rj84_3 j84_l1)
theorem sj84_4 (H0 : Hp) {yj84_l1 : A3} (hj84_l1 : L3 yj84_l1 (j84_l1 H0)) : L4 (rj84_4 yj84_l1) (j84_4 H0) := fun _ _ _ _ _ => le_eq (m84_4 (sj84_3 H0 hj84_l1) _ _ _ _ _) (e84_4 H0 _ _ _ _ _)
noncomputable def rj84_2 (j84_l1 : A3) : A3 := b84_2 (rj84_4 j84_l1)
theorem sj84_2 (H0 : Hp) {yj84_l1 : A3} (hj84_l1 : L3 yj84_l1 (j84_l1 H0)) : L3 (rj84_2 yj84_l1) (j84_2 H0) := fun _ _ _ _ => le_eq (m84_2 (sj84_4 H0 hj84_l1) _ _ _ _) (e84_2 H0 _ _ _ _)
noncomputable def rj84_l1 (n : Nat) : A3 := @Nat.rec (fun _ => A3) (fun _ _ _ _ => none) (fun _ j84_l1 => b84_l1 (rj84_1) (rj84_2 j84_l1)) n
theorem sj84_l1 (H0 : Hp) (n : Nat) : L3 (rj84_l1 n) (j84_l1 H0) := by
  induction n with
  | zero => exact fun _ _ _ _ => le_none _
  | succ n hj84_l1 => exact fun _ _ _ _ => le_eq (m84_l1 (sj84_1 H0) (sj84_2 H0 hj84_l1) _ _ _ _) (e84_l1 H0 _ _ _ _)
noncomputable def bc84 (j84_l1 : A3) (p0 : AV) (H : Hp) : Res :=
  bnd (some ((.ptr H.length 0), H ++ [.cells [(.bool false), (.bool false), (.bool false), (.bool false), (.bool false), (.bool false), (.bool false), (.bool false), (.bool false), (.bool false), (.bool false), (.bool false), (.bool false), (.bool false), (.bool false), (.bool false), (.bool false), (.bool false), (.bool false), (.bool false), (.bool false), (.bool false), (.bool false), (.bool false), (.bool false), (.bool false), (.bool false), (.bool false), (.bool false), (.bool false), (.bool false), (.bool false), (.bool false), (.bool false), (.bool false), (.bool false), (.bool false), (.bool false), (.bool false), (.bool false), (.bool false), (.bool false), (.bool false), (.bool false), (.bool false), (.bool false), (.bool false), (.bool false), (.bool false), (.bool false), (.bool false), (.bool false), (.bool false), (.bool false), (.bool false), (.bool false), (.bool false), (.bool false), (.bool false), (.bool false), (.bool false), (.bool false), (.bool false), (.bool false), (.bool false), (.bool false), (.bool false), (.bool false), (.bool false), (.bool false), (.bool false), (.bool false), (.bool false), (.bool false), (.bool false), (.bool false), (.bool false), (.bool false), (.bool false), (.bool false), (.bool false), (.bool false), (.bool false), (.bool false), (.bool false), (.bool false), (.bool false), (.bool false), (.bool false), (.bool false), (.bool false), (.bool false), (.bool false), (.bool false), (.bool false), (.bool false), (.bool false), (.bool false), (.bool false), (.bool false), (.bool false), (.bool false), (.bool false), (.bool false), (.bool false), (.bool false), (.bool false), (.bool false), (.bool false), (.bool false), (.bool false), (.bool false), (.bool false), (.bool false), (.bool false), (.bool false), (.bool false), (.bool false), (.bool false), (.bool false), (.bool false), (.bool false), (.bool false), (.bool false), (.bool false), (.bool false), (.bool false), (.bool false), (.bool false), (.bool false), (.bool false), (.bool false), (.bool false), (.bool false), (.bool false), (.bool false), (.bool false), (.bool false), (.bool false), (.bool false), (.bool false), (.bool false), (.bool false), (.bool false), (.bool false), (.bool false), (.bool false), (.bool false), (.bool false), (.bool false), (.bool false), (.bool false), (.bool false), (.bool false), (.bool false), (.bool false), (.bool false), (.bool false), (.bool false), (.bool false), (.bool false), (.bool false), (.bool false), (.bool false), (.bool false), (.bool false), (.bool false), (.bool false), (.bool false), (.bool false), (.bool false), (.bool false), (.bool false), (.bool false), (.bool false), (.bool false), (.bool false), (.bool false), (.bool false), (.bool false), (.bool false), (.bool false), (.bool false), (.bool false), (.bool false), (.bool false), (.bool false), (.bool false), (.bool false), (.bool false), (.bool false), (.bool false), (.bool false), (.bool false), (.bool false), (.bool false), (.bool false), (.bool false), (.bool false), (.bool false), (.bool false), (.bool false), (.bool false), (.bool false), (.bool false), (.bool false), (.bool false), (.bool false), (.bool false), (.bool false), (.bool false), (.bool false), (.bool false), (.bool false), (.bool false), (.bool false), (.bool false), (.bool false), (.bool false), (.bool false), (.bool false), (.bool false), (.bool false), (.bool false), (.bool false), (.bool false), (.bool false), (.bool false), (.bool false), (.bool false), (.bool false), (.bool false), (.bool false), (.bool false), (.bool false), (.bool false), (.bool false), (.bool false), (.bool false), (.bool false), (.bool false), (.bool false), (.bool false), (.bool false), (.bool false), (.bool false), (.bool false), (.bool false), (.bool false), (.bool false), (.bool false), (.bool false), (.bool false), (.bool false), (.bool false), (.bool false)]])) fun r2_1 =>
  j84_l1 p0 r2_1.1 (.int .i64 0) r2_1.2
theorem ec84 (p0 : AV) (H : Hp) : c84 p0 H = bc84 (j84_l1 H) p0 H := (callw_cxm (C := cfg) (fn := Tryz.f84) (c := bodyOf Tryz.f84) (n := 21) [3, 4, 7, 8] Tryz.func84 (by kernel_rfl) (by kernel_rfl) [p0] (by kernel_rfl) H).trans (by kernel_rfl)
theorem mc84 {j84_l1 dj84_l1 : A3} (hj84_l1 : L3 j84_l1 dj84_l1) : L1 (bc84 j84_l1) (bc84 dj84_l1) := fun _ _ =>
  bR fun _ => hj84_l1 _ _ _ _
noncomputable def rc84 : A1 := fun p0 H => bc84 (rj84_l1 100000) p0 H
theorem sc84 : L1 rc84 c84 := fun _ H => le_eq (mc84 (sj84_l1 H 100000) _ _) (ec84 _ _)

/-! strings_asciiSet_contains -/
noncomputable def c105 (p0 p1 : AV) (H : Hp) : Res := callw cfg 105 [p0, p1] H
noncomputable def bc105 (p0 p1 : AV) (H : Hp) : Res :=
  bnd (anil p0) fun t7_1 =>
  bnd (aindexA 256 1 t7_1 p1) fun t8_2 =>
  bnd (aload false 1 t8_2 H) fun t9_3 =>
  some (t9_3, H)
theorem ec105 (p0 p1 : AV) (H : Hp) : c105 p0 p1 H = bc105 p0 p1 H := (callw_cxm (C := cfg) (fn := Tryz.f105) (c := bodyOf Tryz.f105) (n := 10) [] Tryz.func105 (by kernel_rfl) (by kernel_rfl) [p0, p1] (by kernel_rfl) H).trans (by kernel_rfl)
theorem mc105 : L2 (bc105) (bc105) := fun _ _ _ =>
  bR fun _ => bR fun _ => bR fun _ => le_refl _
noncomputable def rc105 : A2 := fun p0 p1 H => bc105 p0 p1 H
theorem sc105 : L2 rc105 c105 := fun _ _ H => le_eq (mc105 _ _ _) (ec105 _ _ _)

/-! strings_trimLeftASCII -/
noncomputable def c85 (p0 p1 : AV) (H : Hp) : Res := callw cfg 85 [p0, p1] H
noncomputable def j85_1 (H0 : Hp) (x0 : AV) (H : Hp) : Res := CXf 85 16 (sub (bodyOf Tryz.f85) [1, 1]) (retL cfg 16 85 Tryz.f85 H0) [(0, x0)] H
noncomputable def k85_1 (H0 : Hp) : KL := seqL (fun k al H => CXf 85 16 (sub (bodyOf Tryz.f85) [1, 1]) k (trimL (cfg.keep 85) (sub (bodyOf Tryz.f85) [1, 1]) al) H) (retL cfg 16 85 Tryz.f85 H0)
theorem k85_1_tame (H0 : Hp) : Tame 16 (k85_1 H0) := tame_seq (C := cfg) (kp := cfg.keep 85) (sub (bodyOf Tryz.f85) [1, 1]) (tame_ret 85 Tryz.f85 H0)
noncomputable def j85_3 (H0 : Hp) (x0 x1 : AV) (H : Hp) : Res := CXf 85 16 (sub (bodyOf Tryz.f85) [1, 0, 0, 0, 1, 0, 1]) (blockL 1 (seqL (fun k al H => LPf 85 16 (sub (bodyOf Tryz.f85) [1, 0, 0, 0]) k (trimL (cfg.keep 85) (sub (bodyOf Tryz.f85) [1, 0, 0, 0]) al) H) (blockL 0 (k85_1 H0)))) [(0, x0), (1, x1)] H
noncomputable def j85_2 (H0 : Hp) (x0 x1 : AV) (H : Hp) : Res := CXf 85 16 (sub (bodyOf Tryz.f85) [1, 0, 0, 0, 1]) (seqL (fun k al H => LPf 85 16 (sub (bodyOf Tryz.f85) [1, 0, 0, 0]) k (trimL (cfg.keep 85) (sub (bodyOf Tryz.f85) [1, 0, 0, 0]) al) H) (blockL 0 (k85_1 H0))) [(0, x0), (1, x1)] H
noncomputable def j85_l1 (H0 : Hp) (x0 x1 : AV) (H : Hp) : Res := LPf 85 16 (sub (bodyOf Tryz.f85) [1, 0, 0, 0]) (blockL 0 (k85_1 H0)) [(0, x0), (1, x1)] H
noncomputable def b85_1 (x0 : AV) (H : Hp) : Res :=
  some (x0, H)
theorem e85_1 (H0 : Hp) (x0 : AV) (H : Hp) : j85_1 H0 x0 H = b85_1 x0 H := (CXM_eq [2, 3, 4] _ _ _ _).trans (by kernel_rfl)
theorem m85_1 : L1 (b85_1) (b85_1) := fun _ _ =>
  le_refl _
noncomputable def b85_3 (j85_l1 : A2) (x0 x1 : AV) (H : Hp) : Res :=
  bnd (asliceS x0 (some (.int .i64 1)) none none) fun t14_1 =>
  j85_l1 t14_1 x1 H
theorem e85_3 (H0 : Hp) (x0 x1 : AV) (H : Hp) : j85_3 H0 x0 x1 H = b85_3 (j85_l1 H0) x0 x1 H := (CXM_eq [2, 3, 4] _ _ _ _).trans (by kernel_rfl)
theorem m85_3 {j85_l1 dj85_l1 : A2} (hj85_l1 : L2 j85_l1 dj85_l1) : L2 (b85_3 j85_l1) (b85_3 dj85_l1) := fun _ _ _ =>
  bR fun _ => hj85_l1 _ _ _
noncomputable def b85_2 (c105 : A2) (j85_1 : A1) (j85_3 : A2) (x0 x1 : AV) (H : Hp) : Res :=
  bnd (aindexStr x0 (.int .i64 0)) fun t10_2 =>
  bnd (c105 x1 t10_2 H) fun r11_3 =>
  bnd (aun .not r11_3.1) fun t12_4 =>
  cnd t12_4
    (j85_1 x0 r11_3.2)
    (j85_3 x0 x1 r11_3.2)
theorem e85_2 (H0 : Hp) (x0 x1 : AV) (H : Hp) : j85_2 H0 x0 x1 H = b85_2 c105 (j85_1 H0) (j85_3 H0) x0 x1 H := (CXM_eq [2, 3, 4] _ _ _ _).trans (by kernel_rfl)
theorem m85_2 {c105 dc105 : A2} (hc105 : L2 c105 dc105) {j85_1 dj85_1 : A1} (hj85_1 : L1 j85_1 dj85_1) {j85_3 dj85_3 : A2} (hj85_3 : L2 j85_3 dj85_3) : L2 (b85_2 c105 j85_1 j85_3) (b85_2 dc105 dj85_1 dj85_3) := fun _ _ _ =>
  bR fun _ => bC (hc105 _ _ _) fun _ => bR fun _ => bK (hj85_1 _ _) (hj85_3 _ _ _)
noncomputable def b85_l1 (j85_1 : A1) (j85_2 : A2) (x0 x1 : AV) (H : Hp) : Res :=
  bnd (alenD .string x0) fun t6_5 =>
  bnd (ibin .gtr t6_5 (.int .i64 0)) fun t7_6 =>
  cnd t7_6
    (j85_2 x0 x1 H)
    (j85_1 x0 H)
theorem e85_l1 (H0 : Hp) (x0 x1 : AV) (H : Hp) : j85_l1 H0 x0 x1 H = b85_l1 (j85_1 H0) (j85_2 H0) x0 x1 H := (LPL_eqm (C := cfg) [2, 3, 4] (tame_block 0 (k85_1_tame H0)) _ _).trans (by kernel_rfl)
theorem m85_l1 {j85_1 dj85_1 : A1} (hj85_1 : L1 j85_1 dj85_1) {j85_2 dj85_2 : A2} (hj85_2 : L2 j85_2 dj85_2) : L2 (b85_l1 j85_1 j85_2) (b85_l1 dj85_1 dj85_2) := fun _ _ _ =>
  bR fun _ => bR fun _ => bK (hj85_2 _ _ _) (hj85_1 _ _)
noncomputable def rj85_1 : A1 := b85_1
theorem sj85_1 (H0 : Hp) : L1 (rj85_1) (j85_1 H0) := fun _ _ => le_eq (m85_1 _ _) (e85_1 H0 _ _)
noncomputable def rj85_3 (j85_l1 : A2) : A2 := b85_3 j85_l1
theorem sj85_3 (H0 : Hp) {yj85_l1 : A2} (hj85_l1 : L2 yj85_l1 (j85_l1 H0)) : L2 (rj85_3 yj85_l1) (j85_3 H0) := fun _ _ _ => le_eq (m85_3 hj85_l1 _ _ _) (e85_3 H0 _ _ _)
noncomputable def rj85_2 (j85_l1 : A2) : A2 := b85_2 rc105 (rj85_1) (rj85_3 j85_l1)
theorem sj85_2 (H0 : Hp) {yj85_l1 : A2} (hj85_l1 : L2 yj85_l1 (j85_l1 H0)) : L2 (rj85_2 yj85_l1) (j85_2 H0) := fun _ _ _ => le_eq (m85_2 sc105 (sj85_1 H0) (sj85_3 H0 hj85_l1) _ _ _) (e85_2 H0 _ _ _)
noncomputable def rj85_l1 (n : Nat) : A2 := @Nat.rec (fun _ => A2) (fun _ _ _ => none) (fun _ j85_l1 => b85_l1 (rj85_1) (rj85_2 j85_l1)) n
theorem sj85_l1 (H0 : Hp) (n : Nat) : L2 (rj85_l1 n) (j85_l1 H0) := by
  induction n with
  | zero => exact fun _ _ _ => le_none _
  | succ n hj85_l1 => exact fun _ _ _ => le_eq (m85_l1 (sj85_1 H0) (sj85_2 H0 hj85_l1) _ _ _) (e85_l1 H0 _ _ _)
noncomputable def bc85 (j85_l1 : A2) (p0 p1 : AV) (H : Hp) : Res :=
  j85_l1 p0 p1 H
theorem ec85 (p0 p1 : AV) (H : Hp) : c85 p0 p1 H = bc85 (j85_l1 H) p0 p1 H := (callw_cxm (C := cfg) (fn := Tryz.f85) (c := bodyOf Tryz.f85) (n := 16) [2, 3, 4] Tryz.func85 (by kernel_rfl) (by kernel_rfl) [p0, p1] (by kernel_rfl) H).trans (by kernel_rfl)
theorem mc85 {j85_l1 dj85_l1 : A2} (hj85_l1 : L2 j85_l1 dj85_l1) : L2 (bc85 j85_l1) (bc85 dj85_l1) := fun _ _ _ =>
  hj85_l1 _ _ _
noncomputable def rc85 : A2 := fun p0 p1 H => bc85 (rj85_l1 100000) p0 p1 H
theorem sc85 : L2 rc85 c85 := fun _ _ H => le_eq (mc85 (sj85_l1 H 100000) _ _ _) (ec85 _ _ _)

/-! unicode_utf8_decodeRuneInStringSlow -/
noncomputable def c125 (p0 : AV) (H : Hp) : Res := callw cfg 125 [p0] H
noncomputable def j125_8 (H0 : Hp) (x5 x10 x11 x12 : AV) (H : Hp) : Res := CXf 125 117 (sub (bodyOf Tryz.f125) [1, 1, 1, 1, 1, 1, 1, 1, 1, 1, 1, 1, 1, 1, 1, 1, 1]) (retL cfg 117 125 Tryz.f125 H0) [(5, x5), (10, x10), (11, x11), (12, x12)] H
noncomputable def j125_7 (H0 : Hp) (x0 x5 x10 x11 : AV) (H : Hp) : Res := CXf 125 117 (sub (bodyOf Tryz.f125) [1, 1, 1, 1, 1, 1, 1, 1, 1, 1, 1, 1, 1, 1, 1]) (retL cfg 117 125 Tryz.f125 H0) [(0, x0), (5, x5), (10, x10), (11, x11)] H
noncomputable def j125_6 (H0 : Hp) (x0 x5 x8 x10 x11 : AV) (H : Hp) : Res := CXf 125 117 (sub (bodyOf Tryz.f125) [1, 1, 1, 1, 1, 1, 1, 1, 1, 1, 1, 1, 1, 1]) (retL cfg 117 125 Tryz.f125 H0) [(0, x0), (5, x5), (8, x8), (10, x10), (11, x11)] H
noncomputable def j125_5 (H0 : Hp) (x0 x5 x8 x10 : AV) (H : Hp) : Res := CXf 125 117 (sub (bodyOf Tryz.f125) [1, 1, 1, 1, 1, 1, 1, 1, 1, 1, 1, 1]) (retL cfg 117 125 Tryz.f125 H0) [(0, x0), (5, x5), (8, x8), (10, x10)] H
noncomputable def j125_4 (H0 : Hp) (x0 x5 x8 x10 : AV) (H : Hp) : Res := CXf 125 117 (sub (bodyOf Tryz.f125) [1, 1, 1, 1, 1, 1, 1, 1, 1, 1, 1]) (retL cfg 117 125 Tryz.f125 H0) [(0, x0), (5, x5), (8, x8), (10, x10)] H
noncomputable def j125_3 (H0 : Hp) (x0 x5 x8 x9 : AV) (H : Hp) : Res := CXf 125 117 (sub (bodyOf Tryz.f125) [1, 1, 1, 1, 1, 1, 1, 1, 1]) (retL cfg 117 125 Tryz.f125 H0) [(0, x0), (5, x5), (8, x8), (9, x9)] H
noncomputable def j125_2 (H0 : Hp) (x0 x4 x5 x6 : AV) (H : Hp) : Res := CXf 125 117 (sub (bodyOf Tryz.f125) [1, 1, 1, 1, 1, 1]) (retL cfg 117 125 Tryz.f125 H0) [(0, x0), (4, x4), (5, x5), (6, x6)] H
noncomputable def j125_1 (H0 : Hp) (x0 x4 : AV) (H : Hp) : Res := CXf 125 117 (sub (bodyOf Tryz.f125) [1, 1, 1]) (retL cfg 117 125 Tryz.f125 H0) [(0, x0), (4, x4)] H
noncomputable def b125_8 (x5 x10 x11 x12 : AV) (H : Hp) : Res :=
  bnd (ibin .and x5 (.int .u8 7)) fun t100_15 =>
  bnd (cvInt .i32 t100_15) fun t101_16 =>
  bnd (ibin .shl t101_16 (.int .u64 18)) fun t102_17 =>
  bnd (ibin .and x10 (.int .u8 63)) fun t104_18 =>
  bnd (cvInt .i32 t104_18) fun t105_19 =>
  bnd (ibin .shl t105_19 (.int .u64 12)) fun t106_20 =>
  bnd (ibin .or t102_17 t106_20) fun t107_21 =>
  bnd (ibin .and x11 (.int .u8 63)) fun t109_22 =>
  bnd (cvInt .i32 t109_22) fun t110_23 =>
  bnd (ibin .shl t110_23 (.int .u64 6)) fun t111_24 =>
  bnd (ibin .or t107_21 t111_24) fun t112_25 =>
  bnd (ibin .and x12 (.int .u8 63)) fun t114_26 =>
  bnd (cvInt .i32 t114_26) fun t115_27 =>
  bnd (ibin .or t112_25 t115_27) fun t116_28 =>
  some ((.tuple [t116_28, (.int .i64 4)]), H)
theorem e125_8 (H0 : Hp) (x5 x10 x11 x12 : AV) (H : Hp) : j125_8 H0 x5 x10 x11 x12 H = b125_8 x5 x10 x11 x12 H := (CXM_eq [4, 9, 13, 16, 18, 21, 23, 26] _ _ _ _).trans (by kernel_rfl)
theorem m125_8 : L4 (b125_8) (b125_8) := fun _ _ _ _ _ =>
  bR fun _ => bR fun _ => bR fun _ => bR fun _ => bR fun _ => bR fun _ => bR fun _ => bR fun _ => bR fun _ => bR fun _ => bR fun _ => bR fun _ => bR fun _ => bR fun _ => le_refl _
noncomputable def b125_7 (j125_8 : A4) (x0 x5 x10 x11 : AV) (H : Hp) : Res :=
  bnd (aindexStr x0 (.int .i64 3)) fun t92_14 =>
  bnd (ibin .lss t92_14 (.int .u8 128)) fun t94_29 =>
  bnd (gdv t94_29 false (.tuple []) (some t92_14)) fun t96_30 =>
  bnd (gdv t94_29 false (.tuple []) (ibin .lss (.int .u8 191) t96_30)) fun t97_31 =>
  bnd (apick t94_29 (.bool true) t97_31) fun t98_32 =>
  cnd t98_32
    (some ((.tuple [(.int .i32 65533), (.int .i64 1)]), H))
    (j125_8 x5 x10 x11 t92_14 H)
theorem e125_7 (H0 : Hp) (x0 x5 x10 x11 : AV) (H : Hp) : j125_7 H0 x0 x5 x10 x11 H = b125_7 (j125_8 H0) x0 x5 x10 x11 H := (CXM_eq [4, 9, 13, 16, 18, 21, 23, 26] _ _ _ _).trans (by kernel_rfl)
theorem m125_7 {j125_8 dj125_8 : A4} (hj125_8 : L4 j125_8 dj125_8) : L4 (b125_7 j125_8) (b125_7 dj125_8) := fun _ _ _ _ _ =>
  bR fun _ => bR fun _ => bR fun _ => bR fun _ => bR fun _ => bK (le_refl _) (hj125_8 _ _ _ _ _)
noncomputable def b125_6 (j125_7 : A4) (x0 x5 x8 x10 x11 : AV) (H : Hp) : Res :=
  bnd (ibin .leq x8 (.int .i64 3)) fun t77_33 =>
  cnd t77_33
    (bnd (ibin .and x5 (.int .u8 15)) fun t79_34 =>
    bnd (cvInt .i32 t79_34) fun t80_35 =>
    bnd (ibin .shl t80_35 (.int .u64 12)) fun t81_36 =>
    bnd (ibin .and x10 (.int .u8 63)) fun t83_37 =>
    bnd (cvInt .i32 t83_37) fun t84_38 =>
    bnd (ibin .shl t84_38 (.int .u64 6)) fun t85_39 =>
    bnd (ibin .or t81_36 t85_39) fun t86_40 =>
    bnd (ibin .and x11 (.int .u8 63)) fun t88_41 =>
    bnd (cvInt .i32 t88_41) fun t89_42 =>
    bnd (ibin .or t86_40 t89_42) fun t90_43 =>
    some ((.tuple [t90_43, (.int .i64 3)]), H))
    (j125_7 x0 x5 x10 x11 H)
theorem e125_6 (H0 : Hp) (x0 x5 x8 x10 x11 : AV) (H : Hp) : j125_6 H0 x0 x5 x8 x10 x11 H = b125_6 (j125_7 H0) x0 x5 x8 x10 x11 H := (CXM_eq [4, 9, 13, 16, 18, 21, 23, 26] _ _ _ _).trans (by kernel_rfl)
theorem m125_6 {j125_7 dj125_7 : A4} (hj125_7 : L4 j125_7 dj125_7) : L5 (b125_6 j125_7) (b125_6 dj125_7) := fun _ _ _ _ _ _ =>
  bR fun _ => bK (bR fun _ => bR fun _ => bR fun _ => bR fun _ => bR fun _ => bR fun _ => bR fun _ => bR fun _ => bR fun _ => bR fun _ => le_refl _) (hj125_7 _ _ _ _ _)
noncomputable def b125_5 (j125_6 : A5) (x0 x5 x8 x10 : AV) (H : Hp) : Res :=
  bnd (aindexStr x0 (.int .i64 2)) fun t69_13 =>
  bnd (ibin .lss t69_13 (.int .u8 128)) fun t71_44 =>
  bnd (gdv t71_44 false (.tuple []) (some t69_13)) fun t73_45 =>
  bnd (gdv t71_44 false (.tuple []) (ibin .lss (.int .u8 191) t73_45)) fun t74_46 =>
  bnd (apick t71_44 (.bool true) t74_46) fun t75_47 =>
  cnd t75_47
    (some ((.tuple [(.int .i32 65533), (.int .i64 1)]), H))
    (j125_6 x0 x5 x8 x10 t69_13 H)
theorem e125_5 (H0 : Hp) (x0 x5 x8 x10 : AV) (H : Hp) : j125_5 H0 x0 x5 x8 x10 H = b125_5 (j125_6 H0) x0 x5 x8 x10 H := (CXM_eq [4, 9, 13, 16, 18, 21, 23, 26] _ _ _ _).trans (by kernel_rfl)
theorem m125_5 {j125_6 dj125_6 : A5} (hj125_6 : L5 j125_6 dj125_6) : L4 (b125_5 j125_6) (b125_5 dj125_6) := fun _ _ _ _ _ =>
  bR fun _ => bR fun _ => bR fun _ => bR fun _ => bR fun _ => bK (le_refl _) (hj125_6 _ _ _ _ _ _)
noncomputable def b125_4 (j125_5 : A4) (x0 x5 x8 x10 : AV) (H : Hp) : Res :=
  bnd (ibin .leq x8 (.int .i64 2)) fun t59_48 =>
  cnd t59_48
    (bnd (ibin .and x5 (.int .u8 31)) fun t61_49 =>
    bnd (cvInt .i32 t61_49) fun t62_50 =>
    bnd (ibin .shl t62_50 (.int .u64 6)) fun t63_51 =>
    bnd (ibin .and x10 (.int .u8 63)) fun t65_52 =>
    bnd (cvInt .i32 t65_52) fun t66_53 =>
    bnd (ibin .or t63_51 t66_53) fun t67_54 =>
    some ((.tuple [t67_54, (.int .i64 2)]), H))
    (j125_5 x0 x5 x8 x10 H)
theorem e125_4 (H0 : Hp) (x0 x5 x8 x10 : AV) (H : Hp) : j125_4 H0 x0 x5 x8 x10 H = b125_4 (j125_5 H0) x0 x5 x8 x10 H := (CXM_eq [4, 9, 13, 16, 18, 21, 23, 26] _ _ _ _).trans (by kernel_rfl)
theorem m125_4 {j125_5 dj125_5 : A4} (hj125_5 : L4 j125_5 dj125_5) : L4 (b125_4 j125_5) (b125_4 dj125_5) := fun _ _ _ _ _ =>
  bR fun _ => bK (bR fun _ => bR fun _ => bR fun _ => bR fun _ => bR fun _ => bR fun _ => le_refl _) (hj125_5 _ _ _ _ _)
noncomputable def b125_3 (j125_4 : A4) (x0 x5 x8 x9 : AV) (H : Hp) : Res :=
  bnd (aindexStr x0 (.int .i64 1)) fun t47_12 =>
  bnd (afield 0 x9) fun t49_55 =>
  bnd (aload false 1 t49_55 H) fun t50_56 =>
  bnd (ibin .lss t47_12 t50_56) fun t51_57 =>
  bnd (gdv t51_57 false (.tuple []) (afield 1 x9)) fun t53_58 =>
  bnd (gdv t51_57 false (.tuple []) (aload false 1 t53_58 H)) fun t54_59 =>
  bnd (gdv t51_57 false (.tuple []) (some t47_12)) fun t55_60 =>
  bnd (gdv t51_57 false (.tuple []) (ibin .lss t54_59 t55_60)) fun t56_61 =>
  bnd (apick t51_57 (.bool true) t56_61) fun t57_62 =>
  cnd t57_62
    (some ((.tuple [(.int .i32 65533), (.int .i64 1)]), H))
    (j125_4 x0 x5 x8 t47_12 H)
theorem e125_3 (H0 : Hp) (x0 x5 x8 x9 : AV) (H : Hp) : j125_3 H0 x0 x5 x8 x9 H = b125_3 (j125_4 H0) x0 x5 x8 x9 H := (CXM_eq [4, 9, 13, 16, 18, 21, 23, 26] _ _ _ _).trans (by kernel_rfl)
theorem m125_3 {j125_4 dj125_4 : A4} (hj125_4 : L4 j125_4 dj125_4) : L4 (b125_3 j125_4) (b125_3 dj125_4) := fun _ _ _ _ _ =>
  bR fun _ => bR fun _ => bR fun _ => bR fun _ => bR fun _ => bR fun _ => bR fun _ => bR fun _ => bR fun _ => bK (le_refl _) (hj125_4 _ _ _ _ _)
noncomputable def b125_2 (j125_3 : A4) (x0 x4 x5 x6 : AV) (H : Hp) : Res :=
  bnd (ibin .and x6 (.int .u8 7)) fun t37_5 =>
  bnd (cvInt .i64 t37_5) fun t38_6 =>
  bnd (ibin .shr x6 (.int .u64 4)) fun t40_7 =>
  bnd (aindexA 16 2 .undef t40_7) fun t41_8 =>
  bnd (aload true 2 t41_8 H) fun t42_9 =>
  bnd (some ((.ptr H.length 0), H ++ [.cells [(.int .u8 0), (.int .u8 0)]])) fun r9_10 =>
  bnd (astoreU 2 r9_10.1 t42_9 r9_10.2) fun r_11 =>
  bnd (ibin .lss x4 t38_6) fun t45_63 =>
  cnd t45_63
    (some ((.tuple [(.int .i32 65533), (.int .i64 1)]), r_11.2))
    (j125_3 x0 x5 t38_6 r9_10.1 r_11.2)
theorem e125_2 (H0 : Hp) (x0 x4 x5 x6 : AV) (H : Hp) : j125_2 H0 x0 x4 x5 x6 H = b125_2 (j125_3 H0) x0 x4 x5 x6 H := (CXM_eq [4, 9, 13, 16, 18, 21, 23, 26] _ _ _ _).trans (by kernel_rfl)
theorem m125_2 {j125_3 dj125_3 : A4} (hj125_3 : L4 j125_3 dj125_3) : L4 (b125_2 j125_3) (b125_2 dj125_3) := fun _ _ _ _ _ =>
  bR fun _ => bR fun _ => bR fun _ => bR fun _ => bR fun _ => bR fun _ => bR fun _ => bR fun _ => bK (le_refl _) (hj125_3 _ _ _ _ _)
noncomputable def b125_1 (j125_2 : A4) (x0 x4 : AV) (H : Hp) : Res :=
  bnd (aindexStr x0 (.int .i64 0)) fun t18_2 =>
  bnd (aindexA 256 1 .undef t18_2) fun t20_3 =>
  bnd (aload false 1 t20_3 H) fun t21_4 =>
  bnd (ibin .geq t21_4 (.int .u8 240)) fun t23_64 =>
  cnd t23_64
    (bnd (cvInt .i32 t21_4) fun t25_65 =>
    bnd (ibin .shl t25_65 (.int .u64 31)) fun t26_66 =>
    bnd (ibin .shr t26_66 (.int .u64 31)) fun t27_67 =>
    bnd (aindexStr x0 (.int .i64 0)) fun t29_68 =>
    bnd (cvInt .i32 t29_68) fun t30_69 =>
    bnd (ibin .andNot t30_69 t27_67) fun t32_70 =>
    bnd (ibin .and (.int .i32 65533) t27_67) fun t34_71 =>
    bnd (ibin .or t32_70 t34_71) fun t35_72 =>
    some ((.tuple [t35_72, (.int .i64 1)]), H))
    (j125_2 x0 x4 t18_2 t21_4 H)
theorem e125_1 (H0 : Hp) (x0 x4 : AV) (H : Hp) : j125_1 H0 x0 x4 H = b125_1 (j125_2 H0) x0 x4 H := (CXM_eq [4, 9, 13, 16, 18, 21, 23, 26] _ _ _ _).trans (by kernel_rfl)
theorem m125_1 {j125_2 dj125_2 : A4} (hj125_2 : L4 j125_2 dj125_2) : L2 (b125_1 j125_2) (b125_1 dj125_2) := fun _ _ _ =>
  bR fun _ => bR fun _ => bR fun _ => bR fun _ => bK (bR fun _ => bR fun _ => bR fun _ => bR fun _ => bR fun _ => bR fun _ => bR fun _ => bR fun _ => le_refl _) (hj125_2 _ _ _ _ _)
noncomputable def rj125_8 : A4 := b125_8
theorem sj125_8 (H0 : Hp) : L4 (rj125_8) (j125_8 H0) := fun _ _ _ _ _ => le_eq (m125_8 _ _ _ _ _) (e125_8 H0 _ _ _ _ _)
noncomputable def rj125_7 : A4 := b125_7 (rj125_8)
theorem sj125_7 (H0 : Hp) : L4 (rj125_7) (j125_7 H0) := fun _ _ _ _ _ => le_eq (m125_7 (sj125_8 H0) _ _ _ _ _) (e125_7 H0 _ _ _ _ _)
noncomputable def rj125_6 : A5 := b125_6 (rj125_7)
theorem sj125_6 (H0 : Hp) : L5 (rj125_6) (j125_6 H0) := fun _ _ _ _ _ _ => le_eq (m125_6 (sj125_7 H0) _ _ _ _ _ _) (e125_6 H0 _ _ _ _ _ _)
noncomputable def rj125_5 : A4 := b125_5 (rj125_6)
theorem sj125_5 (H0 : Hp) : L4 (rj125_5) (j125_5 H0) := fun _ _ _ _ _ => le_eq (m125_5 (sj125_6 H0) _ _ _ _ _) (e125_5 H0 _ _ _ _ _)
noncomputable def rj125_4 : A4 := b125_4 (rj125_5)
theorem sj125_4 (H0 : Hp) : L4 (rj125_4) (j125_4 H0) := fun _ _ _ _ _ => le_eq (m125_4 (sj125_5 H0) _ _ _ _ _) (e125_4 H0 _ _ _ _ _)
noncomputable def rj125_3 : A4 := b125_3 (rj125_4)
theorem sj125_3 (H0 : Hp) : L4 (rj125_3) (j125_3 H0) := fun _ _ _ _ _ => le_eq (m125_3 (sj125_4 H0) _ _ _ _ _) (e125_3 H0 _ _ _ _ _)
noncomputable def rj125_2 : A4 := b125_2 (rj125_3)
theorem sj125_2 (H0 : Hp) : L4 (rj125_2) (j125_2 H0) := fun _ _ _ _ _ => le_eq (m125_2 (sj125_3 H0) _ _ _ _ _) (e125_2 H0 _ _ _ _ _)
noncomputable def rj125_1 : A2 := b125_1 (rj125_2)
theorem sj125_1 (H0 : Hp) : L2 (rj125_1) (j125_1 H0) := fun _ _ _ => le_eq (m125_1 (sj125_2 H0) _ _ _) (e125_1 H0 _ _ _)
noncomputable def bc125 (j125_1 : A2) (p0 : AV) (H : Hp) : Res :=
  bnd (alenD .string p0) fun t14_1 =>
  bnd (ibin .lss t14_1 (.int .i64 1)) fun t16_73 =>
  cnd t16_73
    (some ((.tuple [(.int .i32 65533), (.int .i64 0)]), H))
    (j125_1 p0 t14_1 H)
theorem ec125 (p0 : AV) (H : Hp) : c125 p0 H = bc125 (j125_1 H) p0 H := (callw_cxm (C := cfg) (fn := Tryz.f125) (c := bodyOf Tryz.f125) (n := 117) [4, 9, 13, 16, 18, 21, 23, 26] Tryz.func125 (by kernel_rfl) (by kernel_rfl) [p0] (by kernel_rfl) H).trans (by kernel_rfl)
theorem mc125 {j125_1 dj125_1 : A2} (hj125_1 : L2 j125_1 dj125_1) : L1 (bc125 j125_1) (bc125 dj125_1) := fun _ _ =>
  bR fun _ => bR fun _ => bK (le_refl _) (hj125_1 _ _ _)
noncomputable def rc125 : A1 := fun p0 H => bc125 (rj125_1) p0 H
theorem sc125 : L1 rc125 c125 := fun _ H => le_eq (mc125 (sj125_1 H) _ _) (ec125 _ _)

/-! unicode_utf8_DecodeRuneInString -/
noncomputable def c106 (p0 : AV) (H : Hp) : Res := callw cfg 106 [p0] H
noncomputable def bc106 (c125 : A1) (p0 : AV) (H : Hp) : Res :=
  bnd (sbin .neq p0 (.str [])) fun t5_1 =>
  bnd (gdv t5_1 true (.tuple []) (some p0)) fun t7_2 =>
  bnd (gdv t5_1 true (.tuple []) (aindexStr t7_2 (.int .i64 0))) fun t8_3 =>
  bnd (gdv t5_1 true (.tuple []) (ibin .lss t8_3 (.int .u8 128))) fun t9_4 =>
  bnd (apick t5_1 t9_4 (.bool false)) fun t10_5 =>
  cnd t10_5
    (bnd (aindexStr p0 (.int .i64 0)) fun t12_6 =>
    bnd (cvInt .i32 t12_6) fun t13_7 =>
    some ((.tuple [t13_7, (.int .i64 1)]), H))
    (bnd (c125 p0 H) fun r16_8 =>
    bnd (aext r16_8.1 0) fun t17_9 =>
    bnd (aext r16_8.1 1) fun t18_10 =>
    some ((.tuple [t17_9, t18_10]), r16_8.2))
theorem ec106 (p0 : AV) (H : Hp) : c106 p0 H = bc106 c125 p0 H := (callw_cxm (C := cfg) (fn := Tryz.f106) (c := bodyOf Tryz.f106) (n := 19) [] Tryz.func106 (by kernel_rfl) (by kernel_rfl) [p0] (by kernel_rfl) H).trans (by kernel_rfl)
theorem mc106 {c125 dc125 : A1} (hc125 : L1 c125 dc125) : L1 (bc106 c125) (bc106 dc125) := fun _ _ =>
  bR fun _ => bR fun _ => bR fun _ => bR fun _ => bR fun _ => bK (bR fun _ => bR fun _ => le_refl _) (bC (hc125 _ _) fun _ => bR fun _ => bR fun _ => le_refl _)
noncomputable def rc106 : A1 := fun p0 H => bc106 rc125 p0 H
theorem sc106 : L1 rc106 c106 := fun _ H => le_eq (mc106 sc125 _ _) (ec106 _ _)

/-! unicode_utf8_ValidRune -/
noncomputable def c133 (p0 : AV) (H : Hp) : Res := callw cfg 133 [p0] H
noncomputable def j133_1 (H0 : Hp) (H : Hp) : Res := CXf 133 17 (sub (bodyOf Tryz.f133) [1, 1]) (retL cfg 17 133 Tryz.f133 H0) [] H
noncomputable def b133_1 (H : Hp) : Res :=
  some ((.bool false), H)
theorem e133_1 (H0 : Hp) (H : Hp) : j133_1 H0 H = b133_1 H := (CXM_eq [5] _ _ _ _).trans (by kernel_rfl)
theorem m133_1 : L0 (b133_1) (b133_1) := fun _ =>
  le_refl _
noncomputable def rj133_1 : A0 := b133_1
theorem sj133_1 (H0 : Hp) : L0 (rj133_1) (j133_1 H0) := fun _ => le_eq (m133_1 _) (e133_1 H0 _)
noncomputable def bc133 (j133_1 : A0) (p0 : AV) (H : Hp) : Res :=
  bnd (ibin .leq (.int .i32 0) p0) fun t5_1 =>
  bnd (gdv t5_1 true (.tuple []) (some p0)) fun t7_2 =>
  bnd (gdv t5_1 true (.tuple []) (ibin .lss t7_2 (.int .i32 55296))) fun t8_3 =>
  bnd (apick t5_1 t8_3 (.bool false)) fun t9_4 =>
  cnd t9_4
    (some ((.bool true), H))
    (bnd (ibin .lss (.int .i32 57343) p0) fun t12_5 =>
    bnd (gdv t12_5 true (.tuple []) (some p0)) fun t14_6 =>
    bnd (gdv t12_5 true (.tuple []) (ibin .leq t14_6 (.int .i32 1114111))) fun t15_7 =>
    bnd (apick t12_5 t15_7 (.bool false)) fun t16_8 =>
    cnd t16_8
      (some ((.bool true), H))
      (j133_1 H))
theorem ec133 (p0 : AV) (H : Hp) : c133 p0 H = bc133 (j133_1 H) p0 H := (callw_cxm (C := cfg) (fn := Tryz.f133) (c := bodyOf Tryz.f133) (n := 17) [5] Tryz.func133 (by kernel_rfl) (by kernel_rfl) [p0] (by kernel_rfl) H).trans (by kernel_rfl)
theorem mc133 {j133_1 dj133_1 : A0} (hj133_1 : L0 j133_1 dj133_1) : L1 (bc133 j133_1) (bc133 dj133_1) := fun _ _ =>
  bR fun _ => bR fun _ => bR fun _ => bR fun _ => bK (le_refl _) (bR fun _ => bR fun _ => bR fun _ => bR fun _ => bK (le_refl _) (hj133_1 _))
noncomputable def rc133 : A1 := fun p0 H => bc133 (rj133_1) p0 H
theorem sc133 : L1 rc133 c133 := fun _ H => le_eq (mc133 (sj133_1 H) _ _) (ec133 _ _)

/-! strings_IndexRune -/
noncomputable def c126 (p0 p1 : AV) (H : Hp) : Res := callw cfg 126 [p0, p1] H
noncomputable def j126_1 (H0 : Hp) (H : Hp) : Res := CXf 126 187 (sub (bodyOf Tryz.f126) [1, 0, 1, 1, 1, 0, 1]) (blockL 0 (retL cfg 187 126 Tryz.f126 H0)) [] H
noncomputable def k126_1 (H0 : Hp) : KL := seqL (fun k al H => CXf 126 187 (sub (bodyOf Tryz.f126) [1, 0, 1, 1, 1, 0, 1]) k (trimL (cfg.keep 126) (sub (bodyOf Tryz.f126) [1, 0, 1, 1, 1, 0, 1]) al) H) (blockL 0 (retL cfg 187 126 Tryz.f126 H0))
theorem k126_1_tame (H0 : Hp) : Tame 187 (k126_1 H0) := tame_seq (C := cfg) (kp := cfg.keep 126) (sub (bodyOf Tryz.f126) [1, 0, 1, 1, 1, 0, 1]) (tame_block 0 (tame_ret 126 Tryz.f126 H0))
noncomputable def j126_2 (H0 : Hp) (x175 x176 x177 : AV) (H : Hp) : Res := CXf 126 187 (sub (bodyOf Tryz.f126) [1, 0, 1, 1, 1, 0, 0, 1, 0, 0, 1, 1]) (seqL (fun k al H => LPf 126 187 (sub (bodyOf Tryz.f126) [1, 0, 1, 1, 1, 0, 0, 1, 0, 0]) k (trimL (cfg.keep 126) (sub (bodyOf Tryz.f126) [1, 0, 1, 1, 1, 0, 0, 1, 0, 0]) al) H) (blockL 9 (k126_1 H0))) [(175, x175), (176, x176), (177, x177)] H
noncomputable def j126_l1 (H0 : Hp) (x175 : AV) (H : Hp) : Res := LPf 126 187 (sub (bodyOf Tryz.f126) [1, 0, 1, 1, 1, 0, 0, 1, 0, 0]) (blockL 9 (k126_1 H0)) [(175, x175)] H
noncomputable def b126_1 (H : Hp) : Res :=
  some ((.int .i64 (-1)), H)
theorem e126_1 (H0 : Hp) (H : Hp) : j126_1 H0 H = b126_1 H := (CXM_eq [39, 42] _ _ _ _).trans (by kernel_rfl)
theorem m126_1 : L0 (b126_1) (b126_1) := fun _ =>
  le_refl _
noncomputable def b126_2 (j126_l1 : A1) (x175 x176 x177 : AV) (H : Hp) : Res :=
  bnd (aext x176 1) fun t178_11 =>
  bnd (aext x176 2) fun t179_12 =>
  bnd (ibin .eql t179_12 (.int .i32 65533)) fun t181_13 =>
  cnd t181_13
    (some (t178_11, H))
    (j126_l1 x175 H)
theorem e126_2 (H0 : Hp) (x175 x176 x177 : AV) (H : Hp) : j126_2 H0 x175 x176 x177 H = b126_2 (j126_l1 H0) x175 x176 x177 H := (CXM_eq [39, 42] _ _ _ _).trans (by kernel_rfl)
theorem m126_2 {j126_l1 dj126_l1 : A1} (hj126_l1 : L1 j126_l1 dj126_l1) : L3 (b126_2 j126_l1) (b126_2 dj126_l1) := fun _ _ _ _ =>
  bR fun _ => bR fun _ => bR fun _ => bK (le_refl _) (hj126_l1 _ _)
noncomputable def b126_l1 (j126_1 : A0) (j126_2 : A3) (x175 : AV) (H : Hp) : Res :=
  bnd ((none : Option AV)) fun t176_9 =>
  bnd (aext t176_9 0) fun t177_10 =>
  cnd t177_10
    (j126_2 x175 t176_9 t177_10 H)
    (j126_1 H)
theorem e126_l1 (H0 : Hp) (x175 : AV) (H : Hp) : j126_l1 H0 x175 H = b126_l1 (j126_1 H0) (j126_2 H0) x175 H := (LPL_eqm (C := cfg) [39, 42] (tame_block 9 (k126_1_tame H0)) _ _).trans (by kernel_rfl)
theorem m126_l1 {j126_1 dj126_1 : A0} (hj126_1 : L0 j126_1 dj126_1) {j126_2 dj126_2 : A3} (hj126_2 : L3 j126_2 dj126_2) : L1 (b126_l1 j126_1 j126_2) (b126_l1 dj126_1 dj126_2) := fun _ _ =>
  bR fun _ => bR fun _ => bK (hj126_2 _ _ _ _) (hj126_1 _)
noncomputable def rj126_1 : A0 := b126_1
theorem sj126_1 (H0 : Hp) : L0 (rj126_1) (j126_1 H0) := fun _ => le_eq (m126_1 _) (e126_1 H0 _)
noncomputable def rj126_2 (j126_l1 : A1) : A3 := b126_2 j126_l1
theorem sj126_2 (H0 : Hp) {yj126_l1 : A1} (hj126_l1 : L1 yj126_l1 (j126_l1 H0)) : L3 (rj126_2 yj126_l1) (j126_2 H0) := fun _ _ _ _ => le_eq (m126_2 hj126_l1 _ _ _ _) (e126_2 H0 _ _ _ _)
noncomputable def rj126_l1 (n : Nat) : A1 := @Nat.rec (fun _ => A1) (fun _ _ => none) (fun _ j126_l1 => b126_l1 (rj126_1) (rj126_2 j126_l1)) n
theorem sj126_l1 (H0 : Hp) (n : Nat) : L1 (rj126_l1 n) (j126_l1 H0) := by
  induction n with
  | zero => exact fun _ _ => le_none _
  | succ n hj126_l1 => exact fun _ _ => le_eq (m126_l1 (sj126_1 H0) (sj126_2 H0 hj126_l1) _ _) (e126_l1 H0 _ _)
noncomputable def bc126 (c133 : A1) (c52 : A2) (j126_l1 : A1) (p0 p1 : AV) (H : Hp) : Res :=
  bnd (ibin .leq (.int .i32 0) p1) fun t162_1 =>
  bnd (gdv t162_1 true (.tuple []) (some p1)) fun t164_2 =>
  bnd (gdv t162_1 true (.tuple []) (ibin .lss t164_2 (.int .i32 128))) fun t165_3 =>
  bnd (apick t162_1 t165_3 (.bool false)) fun t166_4 =>
  cnd t166_4
    (bnd (cvInt .u8 p1) fun t169_5 =>
    bnd (c52 p0 t169_5 H) fun r170_6 =>
    some (r170_6.1, r170_6.2))
    (bnd (ibin .eql p1 (.int .i32 65533)) fun t173_7 =>
    cnd t173_7
      (bnd ((none : Option AV)) fun t175_8 =>
      j126_l1 t175_8 H)
      (bnd (c133 p1 H) fun r185_14 =>
      bnd (aun .not r185_14.1) fun t186_15 =>
      cnd t186_15
        (some ((.int .i64 (-1)), r185_14.2))
        (none)))
theorem ec126 (p0 p1 : AV) (H : Hp) : c126 p0 p1 H = bc126 c133 c52 (j126_l1 H) p0 p1 H := (callw_cxm (C := cfg) (fn := Tryz.f126) (c := bodyOf Tryz.f126) (n := 187) [39, 42] Tryz.func126 (by kernel_rfl) (by kernel_rfl) [p0, p1] (by kernel_rfl) H).trans (by kernel_rfl)
theorem mc126 {c133 dc133 : A1} (hc133 : L1 c133 dc133) {c52 dc52 : A2} (hc52 : L2 c52 dc52) {j126_l1 dj126_l1 : A1} (hj126_l1 : L1 j126_l1 dj126_l1) : L2 (bc126 c133 c52 j126_l1) (bc126 dc133 dc52 dj126_l1) := fun _ _ _ =>
  bR fun _ => bR fun _ => bR fun _ => bR fun _ => bK (bR fun _ => bC (hc52 _ _ _) fun _ => le_refl _) (bR fun _ => bK (bR fun _ => hj126_l1 _ _) (bC (hc133 _ _) fun _ => bR fun _ => bK (le_refl _) (le_refl _)))
noncomputable def rc126 : A2 := fun p0 p1 H => bc126 rc133 rc52 (rj126_l1 100000) p0 p1 H
theorem sc126 : L2 rc126 c126 := fun _ _ H => le_eq (mc126 sc133 sc52 (sj126_l1 H 100000) _ _ _) (ec126 _ _ _)

/-! strings_ContainsRune -/
noncomputable def c107 (p0 p1 : AV) (H : Hp) : Res := callw cfg 107 [p0, p1] H
noncomputable def bc107 (c126 : A2) (p0 p1 : AV) (H : Hp) : Res :=
  bnd (c126 p0 p1 H) fun r7_1 =>
  bnd (ibin .geq r7_1.1 (.int .i64 0)) fun t8_2 =>
  some (t8_2, r7_1.2)
theorem ec107 (p0 p1 : AV) (H : Hp) : c107 p0 p1 H = bc107 c126 p0 p1 H := (callw_cxm (C := cfg) (fn := Tryz.f107) (c := bodyOf Tryz.f107) (n := 9) [] Tryz.func107 (by kernel_rfl) (by kernel_rfl) [p0, p1] (by kernel_rfl) H).trans (by kernel_rfl)
theorem mc107 {c126 dc126 : A2} (hc126 : L2 c126 dc126) : L2 (bc107 c126) (bc107 dc126) := fun _ _ _ =>
  bC (hc126 _ _ _) fun _ => bR fun _ => le_refl _
noncomputable def rc107 : A2 := fun p0 p1 H => bc107 rc126 p0 p1 H
theorem sc107 : L2 rc107 c107 := fun _ _ H => le_eq (mc107 sc126 _ _ _) (ec107 _ _ _)

/-! strings_trimLeftUnicode -/
noncomputable def c86 (p0 p1 : AV) (H : Hp) : Res := callw cfg 86 [p0, p1] H
noncomputable def j86_1 (H0 : Hp) (x0 : AV) (H : Hp) : Res := CXf 86 23 (sub (bodyOf Tryz.f86) [1, 1]) (retL cfg 23 86 Tryz.f86 H0) [(0, x0)] H
noncomputable def k86_1 (H0 : Hp) : KL := seqL (fun k al H => CXf 86 23 (sub (bodyOf Tryz.f86) [1, 1]) k (trimL (cfg.keep 86) (sub (bodyOf Tryz.f86) [1, 1]) al) H) (retL cfg 23 86 Tryz.f86 H0)
theorem k86_1_tame (H0 : Hp) : Tame 23 (k86_1 H0) := tame_seq (C := cfg) (kp := cfg.keep 86) (sub (bodyOf Tryz.f86) [1, 1]) (tame_ret 86 Tryz.f86 H0)
noncomputable def j86_3 (H0 : Hp) (x0 x1 x6 : AV) (H : Hp) : Res := CXf 86 23 (sub (bodyOf Tryz.f86) [1, 0, 0, 0, 1, 0, 1, 1]) (blockL 1 (seqL (fun k al H => LPf 86 23 (sub (bodyOf Tryz.f86) [1, 0, 0, 0]) k (trimL (cfg.keep 86) (sub (bodyOf Tryz.f86) [1, 0, 0, 0]) al) H) (blockL 0 (k86_1 H0)))) [(0, x0), (1, x1), (6, x6)] H
noncomputable def j86_2 (H0 : Hp) (x0 x1 : AV) (H : Hp) : Res := CXf 86 23 (sub (bodyOf Tryz.f86) [1, 0, 0, 0, 1]) (seqL (fun k al H => LPf 86 23 (sub (bodyOf Tryz.f86) [1, 0, 0, 0]) k (trimL (cfg.keep 86) (sub (bodyOf Tryz.f86) [1, 0, 0, 0]) al) H) (blockL 0 (k86_1 H0))) [(0, x0), (1, x1)] H
noncomputable def j86_l1 (H0 : Hp) (x0 x1 : AV) (H : Hp) : Res := LPf 86 23 (sub (bodyOf Tryz.f86) [1, 0, 0, 0]) (blockL 0 (k86_1 H0)) [(0, x0), (1, x1)] H
noncomputable def b86_1 (x0 : AV) (H : Hp) : Res :=
  some (x0, H)
theorem e86_1 (H0 : Hp) (x0 : AV) (H : Hp) : j86_1 H0 x0 H = b86_1 x0 H := (CXM_eq [2, 4, 5] _ _ _ _).trans (by kernel_rfl)
theorem m86_1 : L1 (b86_1) (b86_1) := fun _ _ =>
  le_refl _
noncomputable def b86_3 (j86_l1 : A2) (x0 x1 x6 : AV) (H : Hp) : Res :=
  bnd (asliceS x0 (some x6) none none) fun t21_4 =>
  j86_l1 t21_4 x1 H
theorem e86_3 (H0 : Hp) (x0 x1 x6 : AV) (H : Hp) : j86_3 H0 x0 x1 x6 H = b86_3 (j86_l1 H0) x0 x1 x6 H := (CXM_eq [2, 4, 5] _ _ _ _).trans (by kernel_rfl)
theorem m86_3 {j86_l1 dj86_l1 : A2} (hj86_l1 : L2 j86_l1 dj86_l1) : L3 (b86_3 j86_l1) (b86_3 dj86_l1) := fun _ _ _ _ =>
  bR fun _ => hj86_l1 _ _ _
noncomputable def b86_2 (c106 : A1) (c107 : A2) (j86_1 : A1) (j86_3 : A3) (x0 x1 : AV) (H : Hp) : Res :=
  bnd (c106 x0 H) fun r12_1 =>
  bnd (aext r12_1.1 0) fun t13_2 =>
  bnd (aext r12_1.1 1) fun t14_3 =>
  bnd (c107 x1 t13_2 r12_1.2) fun r17_5 =>
  bnd (aun .not r17_5.1) fun t18_6 =>
  cnd t18_6
    (j86_1 x0 r17_5.2)
    (j86_3 x0 x1 t14_3 r17_5.2)
theorem e86_2 (H0 : Hp) (x0 x1 : AV) (H : Hp) : j86_2 H0 x0 x1 H = b86_2 c106 c107 (j86_1 H0) (j86_3 H0) x0 x1 H := (CXM_eq [2, 4, 5] _ _ _ _).trans (by kernel_rfl)
theorem m86_2 {c106 dc106 : A1} (hc106 : L1 c106 dc106) {c107 dc107 : A2} (hc107 : L2 c107 dc107) {j86_1 dj86_1 : A1} (hj86_1 : L1 j86_1 dj86_1) {j86_3 dj86_3 : A3} (hj86_3 : L3 j86_3 dj86_3) : L2 (b86_2 c106 c107 j86_1 j86_3) (b86_2 dc106 dc107 dj86_1 dj86_3) := fun _ _ _ =>
  bC (hc106 _ _) fun _ => bR fun _ => bR fun _ => bC (hc107 _ _ _) fun _ => bR fun _ => bK (hj86_1 _ _) (hj86_3 _ _ _ _)
noncomputable def b86_l1 (j86_1 : A1) (j86_2 : A2) (x0 x1 : AV) (H : Hp) : Res :=
  bnd (alenD .string x0) fun t8_7 =>
  bnd (ibin .gtr t8_7 (.int .i64 0)) fun t9_8 =>
  cnd t9_8
    (j86_2 x0 x1 H)
    (j86_1 x0 H)
theorem e86_l1 (H0 : Hp) (x0 x1 : AV) (H : Hp) : j86_l1 H0 x0 x1 H = b86_l1 (j86_1 H0) (j86_2 H0) x0 x1 H := (LPL_eqm (C := cfg) [2, 4, 5] (tame_block 0 (k86_1_tame H0)) _ _).trans (by kernel_rfl)
theorem m86_l1 {j86_1 dj86_1 : A1} (hj86_1 : L1 j86_1 dj86_1) {j86_2 dj86_2 : A2} (hj86_2 : L2 j86_2 dj86_2) : L2 (b86_l1 j86_1 j86_2) (b86_l1 dj86_1 dj86_2) := fun _ _ _ =>
  bR fun _ => bR fun _ => bK (hj86_2 _ _ _) (hj86_1 _ _)
noncomputable def rj86_1 : A1 := b86_1
theorem sj86_1 (H0 : Hp) : L1 (rj86_1) (j86_1 H0) := fun _ _ => le_eq (m86_1 _ _) (e86_1 H0 _ _)
noncomputable def rj86_3 (j86_l1 : A2) : A3 := b86_3 j86_l1
theorem sj86_3 (H0 : Hp) {yj86_l1 : A2} (hj86_l1 : L2 yj86_l1 (j86_l1 H0)) : L3 (rj86_3 yj86_l1) (j86_3 H0) := fun _ _ _ _ => le_eq (m86_3 hj86_l1 _ _ _ _) (e86_3 H0 _ _ _ _)
noncomputable def rj86_2 (j86_l1 : A2) : A2 := b86_2 rc106 rc107 (rj86_1) (rj86_3 j86_l1)
theorem sj86_2 (H0 : Hp) {yj86_l1 : A2} (hj86_l1 : L2 yj86_l1 (j86_l1 H0)) : L2 (rj86_2 yj86_l1) (j86_2 H0) := fun _ _ _ => le_eq (m86_2 sc106 sc107 (sj86_1 H0) (sj86_3 H0 hj86_l1) _ _ _) (e86_2 H0 _ _ _)
noncomputable def rj86_l1 (n : Nat) : A2 := @Nat.rec (fun _ => A2) (fun _ _ _ => none) (fun _ j86_l1 => b86_l1 (rj86_1) (rj86_2 j86_l1)) n
theorem sj86_l1 (H0 : Hp) (n : Nat) : L2 (rj86_l1 n) (j86_l1 H0) := by
  induction n with
  | zero => exact fun _ _ _ => le_none _
  | succ n hj86_l1 => exact fun _ _ _ => le_eq (m86_l1 (sj86_1 H0) (sj86_2 H0 hj86_l1) _ _ _) (e86_l1 H0 _ _ _)
noncomputable def bc86 (j86_l1 : A2) (p0 p1 : AV) (H : Hp) : Res :=
  j86_l1 p0 p1 H
theorem ec86 (p0 p1 : AV) (H : Hp) : c86 p0 p1 H = bc86 (j86_l1 H) p0 p1 H := (callw_cxm (C := cfg) (fn := Tryz.f86) (c := bodyOf Tryz.f86) (n := 23) [2, 4, 5] Tryz.func86 (by kernel_rfl) (by kernel_rfl) [p0, p1] (by kernel_rfl) H).trans (by kernel_rfl)
theorem mc86 {j86_l1 dj86_l1 : A2} (hj86_l1 : L2 j86_l1 dj86_l1) : L2 (bc86 j86_l1) (bc86 dj86_l1) := fun _ _ _ =>
  hj86_l1 _ _ _
noncomputable def rc86 : A2 := fun p0 p1 H => bc86 (rj86_l1 100000) p0 p1 H
theorem sc86 : L2 rc86 c86 := fun _ _ H => le_eq (mc86 (sj86_l1 H 100000) _ _ _) (ec86 _ _ _)

/-! strings_TrimLeft -/
noncomputable def c59 (p0 p1 : AV) (H : Hp) : Res := callw cfg 59 [p0, p1] H
noncomputable def j59_3 (H0 : Hp) (x0 x1 : AV) (H : Hp) : Res := CXf 59 37 (sub (bodyOf Tryz.f59) [1, 1, 1, 1]) (retL cfg 37 59 Tryz.f59 H0) [(0, x0), (1, x1)] H
noncomputable def j59_2 (H0 : Hp) (x0 x1 : AV) (H : Hp) : Res := CXf 59 37 (sub (bodyOf Tryz.f59) [1, 1, 1]) (retL cfg 37 59 Tryz.f59 H0) [(0, x0), (1, x1)] H
noncomputable def j59_1 (H0 : Hp) (x0 x1 : AV) (H : Hp) : Res := CXf 59 37 (sub (bodyOf Tryz.f59) [1, 1]) (retL cfg 37 59 Tryz.f59 H0) [(0, x0), (1, x1)] H
noncomputable def b59_3 (c86 : A2) (x0 x1 : AV) (H : Hp) : Res :=
  bnd (c86 x0 x1 H) fun r36_1 =>
  some (r36_1.1, r36_1.2)
theorem e59_3 (H0 : Hp) (x0 x1 : AV) (H : Hp) : j59_3 H0 x0 x1 H = b59_3 c86 x0 x1 H := (CXM_eq [3, 5, 8] _ _ _ _).trans (by kernel_rfl)
theorem m59_3 {c86 dc86 : A2} (hc86 : L2 c86 dc86) : L2 (b59_3 c86) (b59_3 dc86) := fun _ _ _ =>
  bC (hc86 _ _ _) fun _ => le_refl _
noncomputable def b59_2 (c84 : A1) (c85 : A2) (j59_3 : A2) (x0 x1 : AV) (H : Hp) : Res :=
  bnd (c84 x1 H) fun r28_2 =>
  bnd (aext r28_2.1 0) fun t29_3 =>
  bnd (aext r28_2.1 1) fun t30_4 =>
  bnd (some ((.ptr r28_2.2.length 0), r28_2.2 ++ [.cells [(.bool false), (.bool false), (.bool false), (.bool false), (.bool false), (.bool false), (.bool false), (.bool false), (.bool false), (.bool false), (.bool false), (.bool false), (.bool false), (.bool false), (.bool false), (.bool false), (.bool false), (.bool false), (.bool false), (.bool false), (.bool false), (.bool false), (.bool false), (.bool false), (.bool false), (.bool false), (.bool false), (.bool false), (.bool false), (.bool false), (.bool false), (.bool false), (.bool false), (.bool false), (.bool false), (.bool false), (.bool false), (.bool false), (.bool false), (.bool false), (.bool false), (.bool false), (.bool false), (.bool false), (.bool false), (.bool false), (.bool false), (.bool false), (.bool false), (.bool false), (.bool false), (.bool false), (.bool false), (.bool false), (.bool false), (.bool false), (.bool false), (.bool false), (.bool false), (.bool false), (.bool false), (.bool false), (.bool false), (.bool false), (.bool false), (.bool false), (.bool false), (.bool false), (.bool false), (.bool false), (.bool false), (.bool false), (.bool false), (.bool false), (.bool false), (.bool false), (.bool false), (.bool false), (.bool false), (.bool false), (.bool false), (.bool false), (.bool false), (.bool false), (.bool false), (.bool false), (.bool false), (.bool false), (.bool false), (.bool false), (.bool false), (.bool false), (.bool false), (.bool false), (.bool false), (.bool false), (.bool false), (.bool false), (.bool false), (.bool false), (.bool false), (.bool false), (.bool false), (.bool false), (.bool false), (.bool false), (.bool false), (.bool false), (.bool false), (.bool false), (.bool false), (.bool false), (.bool false), (.bool false), (.bool false), (.bool false), (.bool false), (.bool false), (.bool false), (.bool false), (.bool false), (.bool false), (.bool false), (.bool false), (.bool false), (.bool false), (.bool false), (.bool false), (.bool false), (.bool false), (.bool false), (.bool false), (.bool false), (.bool false), (.bool false), (.bool false), (.bool false), (.bool false), (.bool false), (.bool false), (.bool false), (.bool false), (.bool false), (.bool false), (.bool false), (.bool false), (.bool false), (.bool false), (.bool false), (.bool false), (.bool false), (.bool false), (.bool false), (.bool false), (.bool false), (.bool false), (.bool false), (.bool false), (.bool false), (.bool false), (.bool false), (.bool false), (.bool false), (.bool false), (.bool false), (.bool false), (.bool false), (.bool false), (.bool false), (.bool false), (.bool false), (.bool false), (.bool false), (.bool false), (.bool false), (.bool false), (.bool false), (.bool false), (.bool false), (.bool false), (.bool false), (.bool false), (.bool false), (.bool false), (.bool false), (.bool false), (.bool false), (.bool false), (.bool false), (.bool false), (.bool false), (.bool false), (.bool false), (.bool false), (.bool false), (.bool false), (.bool false), (.bool false), (.bool false), (.bool false), (.bool false), (.bool false), (.bool false), (.bool false), (.bool false), (.bool false), (.bool false), (.bool false), (.bool false), (.bool false), (.bool false), (.bool false), (.bool false), (.bool false), (.bool false), (.bool false), (.bool false), (.bool false), (.bool false), (.bool false), (.bool false), (.bool false), (.bool false), (.bool false), (.bool false), (.bool false), (.bool false), (.bool false), (.bool false), (.bool false), (.bool false), (.bool false), (.bool false), (.bool false), (.bool false), (.bool false), (.bool false), (.bool false), (.bool false), (.bool false), (.bool false), (.bool false), (.bool false), (.bool false), (.bool false), (.bool false), (.bool false), (.bool false), (.bool false), (.bool false), (.bool false), (.bool false), (.bool false), (.bool false), (.bool false), (.bool false)]])) fun r5_5 =>
  bnd (astoreU 256 r5_5.1 t29_3 r5_5.2) fun r_6 =>
  cnd t30_4
    (bnd (c85 x0 r5_5.1 r_6.2) fun r33_7 =>
    some (r33_7.1, r33_7.2))
    (j59_3 x0 x1 r_6.2)
theorem e59_2 (H0 : Hp) (x0 x1 : AV) (H : Hp) : j59_2 H0 x0 x1 H = b59_2 c84 c85 (j59_3 H0) x0 x1 H := (CXM_eq [3, 5, 8] _ _ _ _).trans (by kernel_rfl)
theorem m59_2 {c84 dc84 : A1} (hc84 : L1 c84 dc84) {c85 dc85 : A2} (hc85 : L2 c85 dc85) {j59_3 dj59_3 : A2} (hj59_3 : L2 j59_3 dj59_3) : L2 (b59_2 c84 c85 j59_3) (b59_2 dc84 dc85 dj59_3) := fun _ _ _ =>
  bC (hc84 _ _) fun _ => bR fun _ => bR fun _ => bR fun _ => bR fun _ => bK (bC (hc85 _ _ _) fun _ => le_refl _) (hj59_3 _ _ _)
noncomputable def b59_1 (c83 : A2) (j59_2 : A2) (x0 x1 : AV) (H : Hp) : Res :=
  bnd (alenD .string x1) fun t15_8 =>
  bnd (ibin .eql t15_8 (.int .i64 1)) fun t16_9 =>
  bnd (gdv t16_9 true (.tuple []) (some x1)) fun t18_10 =>
  bnd (gdv t16_9 true (.tuple []) (aindexStr t18_10 (.int .i64 0))) fun t19_11 =>
  bnd (gdv t16_9 true (.tuple []) (ibin .lss t19_11 (.int .u8 128))) fun t20_12 =>
  bnd (apick t16_9 t20_12 (.bool false)) fun t21_13 =>
  cnd t21_13
    (bnd (aindexStr x1 (.int .i64 0)) fun t24_14 =>
    bnd (c83 x0 t24_14 H) fun r25_15 =>
    some (r25_15.1, r25_15.2))
    (j59_2 x0 x1 H)
theorem e59_1 (H0 : Hp) (x0 x1 : AV) (H : Hp) : j59_1 H0 x0 x1 H = b59_1 c83 (j59_2 H0) x0 x1 H := (CXM_eq [3, 5, 8] _ _ _ _).trans (by kernel_rfl)
theorem m59_1 {c83 dc83 : A2} (hc83 : L2 c83 dc83) {j59_2 dj59_2 : A2} (hj59_2 : L2 j59_2 dj59_2) : L2 (b59_1 c83 j59_2) (b59_1 dc83 dj59_2) := fun _ _ _ =>
  bR fun _ => bR fun _ => bR fun _ => bR fun _ => bR fun _ => bR fun _ => bK (bR fun _ => bC (hc83 _ _ _) fun _ => le_refl _) (hj59_2 _ _ _)
noncomputable def rj59_3 : A2 := b59_3 rc86
theorem sj59_3 (H0 : Hp) : L2 (rj59_3) (j59_3 H0) := fun _ _ _ => le_eq (m59_3 sc86 _ _ _) (e59_3 H0 _ _ _)
noncomputable def rj59_2 : A2 := b59_2 rc84 rc85 (rj59_3)
theorem sj59_2 (H0 : Hp) : L2 (rj59_2) (j59_2 H0) := fun _ _ _ => le_eq (m59_2 sc84 sc85 (sj59_3 H0) _ _ _) (e59_2 H0 _ _ _)
noncomputable def rj59_1 : A2 := b59_1 rc83 (rj59_2)
theorem sj59_1 (H0 : Hp) : L2 (rj59_1) (j59_1 H0) := fun _ _ _ => le_eq (m59_1 sc83 (sj59_2 H0) _ _ _) (e59_1 H0 _ _ _)
noncomputable def bc59 (j59_1 : A2) (p0 p1 : AV) (H : Hp) : Res :=
  bnd (sbin .eql p0 (.str [])) fun t8_16 =>
  bnd (gdv t8_16 false (.tuple []) (some p1)) fun t10_17 =>
  bnd (gdv t8_16 false (.tuple []) (sbin .eql t10_17 (.str []))) fun t11_18 =>
  bnd (apick t8_16 (.bool true) t11_18) fun t12_19 =>
  cnd t12_19
    (some (p0, H))
    (j59_1 p0 p1 H)
theorem ec59 (p0 p1 : AV) (H : Hp) : c59 p0 p1 H = bc59 (j59_1 H) p0 p1 H := (callw_cxm (C := cfg) (fn := Tryz.f59) (c := bodyOf Tryz.f59) (n := 37) [3, 5, 8] Tryz.func59 (by kernel_rfl) (by kernel_rfl) [p0, p1] (by kernel_rfl) H).trans (by kernel_rfl)
theorem mc59 {j59_1 dj59_1 : A2} (hj59_1 : L2 j59_1 dj59_1) : L2 (bc59 j59_1) (bc59 dj59_1) := fun _ _ _ =>
  bR fun _ => bR fun _ => bR fun _ => bR fun _ => bK (le_refl _) (hj59_1 _ _ _)
noncomputable def rc59 : A2 := fun p0 p1 H => bc59 (rj59_1) p0 p1 H
theorem sc59 : L2 rc59 c59 := fun _ _ H => le_eq (mc59 (sj59_1 H) _ _ _) (ec59 _ _ _)

/-! sortkey_parts_2 -/
noncomputable def c58 (p0 : AV) (H : Hp) : Res := callw cfg 58 [p0] H
noncomputable def bc58 (c59 : A2) (p0 : AV) (H : Hp) : Res :=
  bnd (c59 p0 (.str [32, 9]) H) fun r4_1 =>
  some (r4_1.1, r4_1.2)
theorem ec58 (p0 : AV) (H : Hp) : c58 p0 H = bc58 c59 p0 H := (callw_cxm (C := cfg) (fn := Tryz.f58) (c := bodyOf Tryz.f58) (n := 5) [] Tryz.func58 (by kernel_rfl) (by kernel_rfl) [p0] (by kernel_rfl) H).trans (by kernel_rfl)
theorem mc58 {c59 dc59 : A2} (hc59 : L2 c59 dc59) : L1 (bc58 c59) (bc58 dc59) := fun _ _ =>
  bC (hc59 _ _ _) fun _ => le_refl _
noncomputable def rc58 : A1 := fun p0 H => bc58 rc59 p0 H
theorem sc58 : L1 rc58 c58 := fun _ H => le_eq (mc58 sc59 _ _) (ec58 _ _)

/-! strings_Builder_copyCheck -/
noncomputable def c108 (p0 : AV) (H : Hp) : Res := callw cfg 108 [p0] H
noncomputable def bc108 (p0 : AV) (H : Hp) : Res :=
  bnd (anil p0) fun t3_1 =>
  bnd (afield 0 t3_1) fun t4_2 =>
  bnd (aload false 1 t4_2 H) fun t5_3 =>
  bnd (ebin (.pointer 111) .eql t5_3 .nilp) fun t6_4 =>
  cnd t6_4
    (bnd ((none : Option AV)) fun t9_5 =>
    bnd (extC .same [t9_5] H) fun r10_6 =>
    bnd ((none : Option AV)) fun t11_7 =>
    bnd (anil p0) fun t12_8 =>
    bnd (afield 0 t12_8) fun t13_9 =>
    bnd (astoreU 1 t13_9 t11_7 r10_6.2) fun r_10 =>
    some ((.tuple []), r_10.2))
    (bnd (anil p0) fun t15_11 =>
    bnd (afield 0 t15_11) fun t16_12 =>
    bnd (aload false 1 t16_12 H) fun t17_13 =>
    bnd (ebin (.pointer 111) .neq t17_13 p0) fun t19_14 =>
    cnd t19_14
      (none)
      (some ((.tuple []), H)))
theorem ec108 (p0 : AV) (H : Hp) : c108 p0 H = bc108 p0 H := (callw_cxm (C := cfg) (fn := Tryz.f108) (c := bodyOf Tryz.f108) (n := 20) [] Tryz.func108 (by kernel_rfl) (by kernel_rfl) [p0] (by kernel_rfl) H).trans (by kernel_rfl)
theorem mc108 : L1 (bc108) (bc108) := fun _ _ =>
  bR fun _ => bR fun _ => bR fun _ => bR fun _ => bK (bR fun _ => bR fun _ => bR fun _ => bR fun _ => bR fun _ => bR fun _ => le_refl _) (bR fun _ => bR fun _ => bR fun _ => bR fun _ => bK (le_refl _) (le_refl _))
noncomputable def rc108 : A1 := fun p0 H => bc108 p0 H
theorem sc108 : L1 rc108 c108 := fun _ H => le_eq (mc108 _ _) (ec108 _ _)

/-! strings_Builder_WriteByte -/
noncomputable def c87 (p0 p1 : AV) (H : Hp) : Res := callw cfg 87 [p0, p1] H
noncomputable def bc87 (c108 : A1) (p0 p1 : AV) (H : Hp) : Res :=
  bnd (c108 p0 H) fun r6_1 =>
  bnd (anil p0) fun t9_2 =>
  bnd (afield 1 t9_2) fun t10_3 =>
  bnd (aload false 1 t10_3 r6_1.2) fun t11_4 =>
  bnd ((setElems 1 [(0, p1)] [(.int .u8 0)]).map (.vs 1 .clip)) fun t13_5 =>
  bnd (aappE 1 1 t11_4 t13_5 r6_1.2) fun r14_6 =>
  bnd (anil p0) fun t15_7 =>
  bnd (afield 1 t15_7) fun t16_8 =>
  bnd (astoreU 1 t16_8 r14_6.1 r14_6.2) fun r_9 =>
  some (.nili, r_9.2)
theorem ec87 (p0 p1 : AV) (H : Hp) : c87 p0 p1 H = bc87 c108 p0 p1 H := (callw_cxm (C := cfg) (fn := Tryz.f87) (c := bodyOf Tryz.f87) (n := 17) [] Tryz.func87 (by kernel_rfl) (by kernel_rfl) [p0, p1] (by kernel_rfl) H).trans (by kernel_rfl)
theorem mc87 {c108 dc108 : A1} (hc108 : L1 c108 dc108) : L2 (bc87 c108) (bc87 dc108) := fun _ _ _ =>
  bC (hc108 _ _) fun _ => bR fun _ => bR fun _ => bR fun _ => bR fun _ => bR fun _ => bR fun _ => bR fun _ => bR fun _ => le_refl _
noncomputable def rc87 : A2 := fun p0 p1 H => bc87 rc108 p0 p1 H
theorem sc87 : L2 rc87 c87 := fun _ _ H => le_eq (mc87 sc108 _ _ _) (ec87 _ _ _)

/-! strings_Builder_String -/
noncomputable def c88 (p0 : AV) (H : Hp) : Res := callw cfg 88 [p0] H
noncomputable def bc88 (p0 : AV) (H : Hp) : Res :=
  bnd (anil p0) fun t4_1 =>
  bnd (afield 1 t4_1) fun t5_2 =>
  bnd (aload false 1 t5_2 H) fun t6_3 =>
  bnd ((none : Option AV)) fun t7_4 =>
  bnd (anil p0) fun t9_5 =>
  bnd (afield 1 t9_5) fun t10_6 =>
  bnd (aloadv false 1 t10_6) fun t11_7 =>
  bnd (alenD (.slice 5) t11_7) fun t12_8 =>
  bnd ((none : Option AV)) fun t13_9 =>
  some (t13_9, H)
theorem ec88 (p0 : AV) (H : Hp) : c88 p0 H = bc88 p0 H := (callw_cxm (C := cfg) (fn := Tryz.f88) (c := bodyOf Tryz.f88) (n := 14) [] Tryz.func88 (by kernel_rfl) (by kernel_rfl) [p0] (by kernel_rfl) H).trans (by kernel_rfl)
theorem mc88 : L1 (bc88) (bc88) := fun _ _ =>
  bR fun _ => bR fun _ => bR fun _ => bR fun _ => bR fun _ => bR fun _ => bR fun _ => bR fun _ => bR fun _ => le_refl _
noncomputable def rc88 : A1 := fun p0 H => bc88 p0 H
theorem sc88 : L1 rc88 c88 := fun _ H => le_eq (mc88 _ _) (ec88 _ _)

/-! sortkey_dict -/
noncomputable def c60 (p0 : AV) (H : Hp) : Res := callw cfg 60 [p0] H
noncomputable def j60_1 (H0 : Hp) (x3 : AV) (H : Hp) : Res := CXf 60 44 (sub (bodyOf Tryz.f60) [1, 1, 1]) (retL cfg 44 60 Tryz.f60 H0) [(3, x3)] H
noncomputable def k60_1 (H0 : Hp) : KL := seqL (fun k al H => CXf 60 44 (sub (bodyOf Tryz.f60) [1, 1, 1]) k (trimL (cfg.keep 60) (sub (bodyOf Tryz.f60) [1, 1, 1]) al) H) (retL cfg 44 60 Tryz.f60 H0)
theorem k60_1_tame (H0 : Hp) : Tame 44 (k60_1 H0) := tame_seq (C := cfg) (kp := cfg.keep 60) (sub (bodyOf Tryz.f60) [1, 1, 1]) (tame_ret 60 Tryz.f60 H0)
noncomputable def j60_3 (H0 : Hp) (x0 x3 x7 x8 : AV) (H : Hp) : Res := CXf 60 44 (sub (bodyOf Tryz.f60) [1, 1, 0, 1, 0, 0, 1, 1, 1]) (seqL (fun k al H => LPf 60 44 (sub (bodyOf Tryz.f60) [1, 1, 0, 1, 0, 0]) k (trimL (cfg.keep 60) (sub (bodyOf Tryz.f60) [1, 1, 0, 1, 0, 0]) al) H) (blockL 0 (k60_1 H0))) [(0, x0), (3, x3), (7, x7), (8, x8)] H
noncomputable def j60_2 (H0 : Hp) (x0 x3 x7 x8 x9 : AV) (H : Hp) : Res := CXf 60 44 (sub (bodyOf Tryz.f60) [1, 1, 0, 1, 0, 0, 1, 1]) (seqL (fun k al H => LPf 60 44 (sub (bodyOf Tryz.f60) [1, 1, 0, 1, 0, 0]) k (trimL (cfg.keep 60) (sub (bodyOf Tryz.f60) [1, 1, 0, 1, 0, 0]) al) H) (blockL 0 (k60_1 H0))) [(0, x0), (3, x3), (7, x7), (8, x8), (9, x9)] H
noncomputable def j60_l1 (H0 : Hp) (x0 x3 x7 x8 : AV) (H : Hp) : Res := LPf 60 44 (sub (bodyOf Tryz.f60) [1, 1, 0, 1, 0, 0]) (blockL 0 (k60_1 H0)) [(0, x0), (3, x3), (7, x7), (8, x8)] H
noncomputable def b60_1 (c88 : A1) (x3 : AV) (H : Hp) : Res :=
  bnd (c88 x3 H) fun r43_2 =>
  some (r43_2.1, r43_2.2)
theorem e60_1 (H0 : Hp) (x3 : AV) (H : Hp) : j60_1 H0 x3 H = b60_1 c88 x3 H := (CXM_eq [4, 8, 9] _ _ _ _).trans (by kernel_rfl)
theorem m60_1 {c88 dc88 : A1} (hc88 : L1 c88 dc88) : L1 (b60_1 c88) (b60_1 dc88) := fun _ _ =>
  bC (hc88 _ _) fun _ => le_refl _
noncomputable def b60_3 (j60_l1 : A4) (x0 x3 x7 x8 : AV) (H : Hp) : Res :=
  bnd (ibin .add x8 (.int .i64 1)) fun t42_5 =>
  j60_l1 x0 x3 x7 t42_5 H
theorem e60_3 (H0 : Hp) (x0 x3 x7 x8 : AV) (H : Hp) : j60_3 H0 x0 x3 x7 x8 H = b60_3 (j60_l1 H0) x0 x3 x7 x8 H := (CXM_eq [4, 8, 9] _ _ _ _).trans (by kernel_rfl)
theorem m60_3 {j60_l1 dj60_l1 : A4} (hj60_l1 : L4 j60_l1 dj60_l1) : L4 (b60_3 j60_l1) (b60_3 dj60_l1) := fun _ _ _ _ _ =>
  bR fun _ => hj60_l1 _ _ _ _ _
noncomputable def b60_2 (c53 : A1) (c87 : A2) (j60_3 : A4) (x0 x3 x7 x8 x9 : AV) (H : Hp) : Res :=
  bnd (aindexStr x0 x8) fun t13_6 =>
  bnd (c53 t13_6 H) fun r15_7 =>
  bnd (gdv r15_7.1 false (.tuple []) (some t13_6)) fun t17_8 =>
  bnd (gdv r15_7.1 false (.tuple []) (ibin .geq t17_8 (.int .u8 97))) fun t18_9 =>
  bnd (gdv r15_7.1 false (.tuple []) (some t18_9)) fun t19_10 =>
  bnd (gdv t19_10 true (.tuple []) (some t13_6)) fun t20_11 =>
  bnd (gdv t19_10 true (.tuple []) (ibin .leq t20_11 (.int .u8 122))) fun t21_12 =>
  bnd (gdv r15_7.1 false (.tuple []) (apick t19_10 t21_12 (.bool false))) fun t22_13 =>
  bnd (apick r15_7.1 (.bool true) t22_13) fun t23_14 =>
  bnd (gdv t23_14 false (.tuple []) (some t13_6)) fun t25_15 =>
  bnd (gdv t23_14 false (.tuple []) (ibin .geq t25_15 (.int .u8 65))) fun t26_16 =>
  bnd (gdv t23_14 false (.tuple []) (some t26_16)) fun t27_17 =>
  bnd (gdv t27_17 true (.tuple []) (some t13_6)) fun t28_18 =>
  bnd (gdv t27_17 true (.tuple []) (ibin .leq t28_18 (.int .u8 90))) fun t29_19 =>
  bnd (gdv t23_14 false (.tuple []) (apick t27_17 t29_19 (.bool false))) fun t30_20 =>
  bnd (apick t23_14 (.bool true) t30_20) fun t31_21 =>
  bnd (gdv t31_21 false (.tuple []) (some t13_6)) fun t33_22 =>
  bnd (gdv t31_21 false (.tuple []) (ibin .geq t33_22 (.int .u8 48))) fun t34_23 =>
  bnd (gdv t31_21 false (.tuple []) (some t34_23)) fun t35_24 =>
  bnd (gdv t35_24 true (.tuple []) (some t13_6)) fun t36_25 =>
  bnd (gdv t35_24 true (.tuple []) (ibin .leq t36_25 (.int .u8 57))) fun t37_26 =>
  bnd (gdv t31_21 false (.tuple []) (apick t35_24 t37_26 (.bool false))) fun t38_27 =>
  bnd (apick t31_21 (.bool true) t38_27) fun t39_28 =>
  cnd t39_28
    (bnd (c87 x3 t13_6 r15_7.2) fun r41_29 =>
    j60_3 x0 x3 x7 x8 r41_29.2)
    (j60_3 x0 x3 x7 x8 r15_7.2)
theorem e60_2 (H0 : Hp) (x0 x3 x7 x8 x9 : AV) (H : Hp) : j60_2 H0 x0 x3 x7 x8 x9 H = b60_2 c53 c87 (j60_3 H0) x0 x3 x7 x8 x9 H := (CXM_eq [4, 8, 9] _ _ _ _).trans (by kernel_rfl)
theorem m60_2 {c53 dc53 : A1} (hc53 : L1 c53 dc53) {c87 dc87 : A2} (hc87 : L2 c87 dc87) {j60_3 dj60_3 : A4} (hj60_3 : L4 j60_3 dj60_3) : L5 (b60_2 c53 c87 j60_3) (b60_2 dc53 dc87 dj60_3) := fun _ _ _ _ _ _ =>
  bR fun _ => bC (hc53 _ _) fun _ => bR fun _ => bR fun _ => bR fun _ => bR fun _ => bR fun _ => bR fun _ => bR fun _ => bR fun _ => bR fun _ => bR fun _ => bR fun _ => bR fun _ => bR fun _ => bR fun _ => bR fun _ => bR fun _ => bR fun _ => bR fun _ => bR fun _ => bR fun _ => bR fun _ => bK (bC (hc87 _ _ _) fun _ => hj60_3 _ _ _ _ _) (hj60_3 _ _ _ _ _)
noncomputable def b60_l1 (j60_1 : A1) (j60_2 : A5) (x0 x3 x7 x8 : AV) (H : Hp) : Res :=
  bnd (ibin .lss x8 x7) fun t9_4 =>
  cnd t9_4
    (j60_2 x0 x3 x7 x8 t9_4 H)
    (j60_1 x3 H)
theorem e60_l1 (H0 : Hp) (x0 x3 x7 x8 : AV) (H : Hp) : j60_l1 H0 x0 x3 x7 x8 H = b60_l1 (j60_1 H0) (j60_2 H0) x0 x3 x7 x8 H := (LPL_eqm (C := cfg) [4, 8, 9] (tame_block 0 (k60_1_tame H0)) _ _).trans (by kernel_rfl)
theorem m60_l1 {j60_1 dj60_1 : A1} (hj60_1 : L1 j60_1 dj60_1) {j60_2 dj60_2 : A5} (hj60_2 : L5 j60_2 dj60_2) : L4 (b60_l1 j60_1 j60_2) (b60_l1 dj60_1 dj60_2) := fun _ _ _ _ _ =>
  bR fun _ => bK (hj60_2 _ _ _ _ _ _) (hj60_1 _ _)
noncomputable def rj60_1 : A1 := b60_1 rc88
theorem sj60_1 (H0 : Hp) : L1 (rj60_1) (j60_1 H0) := fun _ _ => le_eq (m60_1 sc88 _ _) (e60_1 H0 _ _)
noncomputable def rj60_3 (j60_l1 : A4) : A4 := b60_3 j60_l1
theorem sj60_3 (H0 : Hp) {yj60_l1 : A4} (hj60_l1 : L4 yj60_l1 (j60_l1 H0)) : L4 (rj60_3 yj60_l1) (j60_3 H0) := fun _ _ _ _ _ => le_eq (m60_3 hj60_l1 _ _ _ _ _) (e60_3 H0 _ _ _ _ _)
noncomputable def rj60_2 (j60_l1 : A4) : A5 := b60_2 rc53 rc87 (rj60_3 j60_l1)
theorem sj60_2 (H0 : Hp) {yj60_l1 : A4} (hj60_l1 : L4 yj60_l1 (j60_l1 H0)) : L5 (rj60_2 yj60_l1) (j60_2 H0) := fun _ _ _ _ _ _ => le_eq (m60_2 sc53 sc87 (sj60_3 H0 hj60_l1) _ _ _ _ _ _) (e60_2 H0 _ _ _ _ _ _)
noncomputable def rj60_l1 (n : Nat) : A4 := @Nat.rec (fun _ => A4) (fun _ _ _ _ _ => none) (fun _ j60_l1 => b60_l1 (rj60_1) (rj60_2 j60_l1)) n
theorem sj60_l1 (H0 : Hp) (n : Nat) : L4 (rj60_l1 n) (j60_l1 H0) := by
  induction n with
  | zero => exact fun _ _ _ _ _ => le_none _
  | succ n hj60_l1 => exact fun _ _ _ _ _ => le_eq (m60_l1 (sj60_1 H0) (sj60_2 H0 hj60_l1) _ _ _ _ _) (e60_l1 H0 _ _ _ _ _)
noncomputable def bc60 (j60_l1 : A4) (p0 : AV) (H : Hp) : Res :=
  bnd (some ((.ptr H.length 0), H ++ [.cells [.nilp, .nils]])) fun r3_1 =>
  bnd (alenD .string p0) fun t7_3 =>
  j60_l1 p0 r3_1.1 t7_3 (.int .i64 0) r3_1.2
theorem ec60 (p0 : AV) (H : Hp) : c60 p0 H = bc60 (j60_l1 H) p0 H := (callw_cxm (C := cfg) (fn := Tryz.f60) (c := bodyOf Tryz.f60) (n := 44) [4, 8, 9] Tryz.func60 (by kernel_rfl) (by kernel_rfl) [p0] (by kernel_rfl) H).trans (by kernel_rfl)
theorem mc60 {j60_l1 dj60_l1 : A4} (hj60_l1 : L4 j60_l1 dj60_l1) : L1 (bc60 j60_l1) (bc60 dj60_l1) := fun _ _ =>
  bR fun _ => bR fun _ => hj60_l1 _ _ _ _ _
noncomputable def rc60 : A1 := fun p0 H => bc60 (rj60_l1 100000) p0 H
theorem sc60 : L1 rc60 c60 := fun _ H => le_eq (mc60 (sj60_l1 H 100000) _ _) (ec60 _ _)

/-! locale_mapped -/
noncomputable def c89 (p0 p1 : AV) (H : Hp) : Res := callw cfg 89 [p0, p1] H
noncomputable def j89_1 (H0 : Hp) (x5 : AV) (H : Hp) : Res := CXf 89 26 (sub (bodyOf Tryz.f89) [1, 1, 1]) (retL cfg 26 89 Tryz.f89 H0) [(5, x5)] H
noncomputable def k89_1 (H0 : Hp) : KL := seqL (fun k al H => CXf 89 26 (sub (bodyOf Tryz.f89) [1, 1, 1]) k (trimL (cfg.keep 89) (sub (bodyOf Tryz.f89) [1, 1, 1]) al) H) (retL cfg 26 89 Tryz.f89 H0)
theorem k89_1_tame (H0 : Hp) : Tame 26 (k89_1 H0) := tame_seq (C := cfg) (kp := cfg.keep 89) (sub (bodyOf Tryz.f89) [1, 1, 1]) (tame_ret 89 Tryz.f89 H0)
noncomputable def j89_3 (H0 : Hp) (x0 x5 x10 x11 : AV) (H : Hp) : Res := CXf 89 26 (sub (bodyOf Tryz.f89) [1, 1, 0, 1, 0, 0, 1, 1, 1]) (seqL (fun k al H => LPf 89 26 (sub (bodyOf Tryz.f89) [1, 1, 0, 1, 0, 0]) k (trimL (cfg.keep 89) (sub (bodyOf Tryz.f89) [1, 1, 0, 1, 0, 0]) al) H) (blockL 0 (k89_1 H0))) [(0, x0), (5, x5), (10, x10), (11, x11)] H
noncomputable def j89_2 (H0 : Hp) (x0 x5 x10 x11 x12 : AV) (H : Hp) : Res := CXf 89 26 (sub (bodyOf Tryz.f89) [1, 1, 0, 1, 0, 0, 1, 1]) (seqL (fun k al H => LPf 89 26 (sub (bodyOf Tryz.f89) [1, 1, 0, 1, 0, 0]) k (trimL (cfg.keep 89) (sub (bodyOf Tryz.f89) [1, 1, 0, 1, 0, 0]) al) H) (blockL 0 (k89_1 H0))) [(0, x0), (5, x5), (10, x10), (11, x11), (12, x12)] H
noncomputable def j89_l1 (H0 : Hp) (x0 x5 x10 x11 : AV) (H : Hp) : Res := LPf 89 26 (sub (bodyOf Tryz.f89) [1, 1, 0, 1, 0, 0]) (blockL 0 (k89_1 H0)) [(0, x0), (5, x5), (10, x10), (11, x11)] H
noncomputable def b89_1 (x5 : AV) (H : Hp) : Res :=
  bnd (cvOfBytes x5) fun t25_2 =>
  some (t25_2, H)
theorem e89_1 (H0 : Hp) (x5 : AV) (H : Hp) : j89_1 H0 x5 H = b89_1 x5 H := (CXM_eq [4, 6, 7] _ _ _ _).trans (by kernel_rfl)
theorem m89_1 : L1 (b89_1) (b89_1) := fun _ _ =>
  bR fun _ => le_refl _
noncomputable def b89_3 (j89_l1 : A4) (x0 x5 x10 x11 : AV) (H : Hp) : Res :=
  bnd (ibin .add x11 (.int .i64 1)) fun t23_5 =>
  j89_l1 x0 x5 x10 t23_5 H
theorem e89_3 (H0 : Hp) (x0 x5 x10 x11 : AV) (H : Hp) : j89_3 H0 x0 x5 x10 x11 H = b89_3 (j89_l1 H0) x0 x5 x10 x11 H := (CXM_eq [4, 6, 7] _ _ _ _).trans (by kernel_rfl)
theorem m89_3 {j89_l1 dj89_l1 : A4} (hj89_l1 : L4 j89_l1 dj89_l1) : L4 (b89_3 j89_l1) (b89_3 dj89_l1) := fun _ _ _ _ _ =>
  bR fun _ => hj89_l1 _ _ _ _ _
noncomputable def b89_2 (j89_3 : A4) (x0 x5 x10 x11 x12 : AV) (H : Hp) : Res :=
  bnd (aindexS 1 x5 x11) fun t19_6 =>
  bnd (aload false 1 t19_6 H) fun t20_7 =>
  bnd (aindexStr x0 t20_7) fun t21_8 =>
  bnd (aindexS 1 x5 x11) fun t22_9 =>
  bnd (astoreU 1 t22_9 t21_8 H) fun r_10 =>
  j89_3 x0 x5 x10 x11 r_10.2
theorem e89_2 (H0 : Hp) (x0 x5 x10 x11 x12 : AV) (H : Hp) : j89_2 H0 x0 x5 x10 x11 x12 H = b89_2 (j89_3 H0) x0 x5 x10 x11 x12 H := (CXM_eq [4, 6, 7] _ _ _ _).trans (by kernel_rfl)
theorem m89_2 {j89_3 dj89_3 : A4} (hj89_3 : L4 j89_3 dj89_3) : L5 (b89_2 j89_3) (b89_2 dj89_3) := fun _ _ _ _ _ _ =>
  bR fun _ => bR fun _ => bR fun _ => bR fun _ => bR fun _ => hj89_3 _ _ _ _ _
noncomputable def b89_l1 (j89_1 : A1) (j89_2 : A5) (x0 x5 x10 x11 : AV) (H : Hp) : Res :=
  bnd (ibin .lss x11 x10) fun t12_4 =>
  cnd t12_4
    (j89_2 x0 x5 x10 x11 t12_4 H)
    (j89_1 x5 H)
theorem e89_l1 (H0 : Hp) (x0 x5 x10 x11 : AV) (H : Hp) : j89_l1 H0 x0 x5 x10 x11 H = b89_l1 (j89_1 H0) (j89_2 H0) x0 x5 x10 x11 H := (LPL_eqm (C := cfg) [4, 6, 7] (tame_block 0 (k89_1_tame H0)) _ _).trans (by kernel_rfl)
theorem m89_l1 {j89_1 dj89_1 : A1} (hj89_1 : L1 j89_1 dj89_1) {j89_2 dj89_2 : A5} (hj89_2 : L5 j89_2 dj89_2) : L4 (b89_l1 j89_1 j89_2) (b89_l1 dj89_1 dj89_2) := fun _ _ _ _ _ =>
  bR fun _ => bK (hj89_2 _ _ _ _ _ _) (hj89_1 _ _)
noncomputable def rj89_1 : A1 := b89_1
theorem sj89_1 (H0 : Hp) : L1 (rj89_1) (j89_1 H0) := fun _ _ => le_eq (m89_1 _ _) (e89_1 H0 _ _)
noncomputable def rj89_3 (j89_l1 : A4) : A4 := b89_3 j89_l1
theorem sj89_3 (H0 : Hp) {yj89_l1 : A4} (hj89_l1 : L4 yj89_l1 (j89_l1 H0)) : L4 (rj89_3 yj89_l1) (j89_3 H0) := fun _ _ _ _ _ => le_eq (m89_3 hj89_l1 _ _ _ _ _) (e89_3 H0 _ _ _ _ _)
noncomputable def rj89_2 (j89_l1 : A4) : A5 := b89_2 (rj89_3 j89_l1)
theorem sj89_2 (H0 : Hp) {yj89_l1 : A4} (hj89_l1 : L4 yj89_l1 (j89_l1 H0)) : L5 (rj89_2 yj89_l1) (j89_2 H0) := fun _ _ _ _ _ _ => le_eq (m89_2 (sj89_3 H0 hj89_l1) _ _ _ _ _ _) (e89_2 H0 _ _ _ _ _ _)
noncomputable def rj89_l1 (n : Nat) : A4 := @Nat.rec (fun _ => A4) (fun _ _ _ _ _ => none) (fun _ j89_l1 => b89_l1 (rj89_1) (rj89_2 j89_l1)) n
theorem sj89_l1 (H0 : Hp) (n : Nat) : L4 (rj89_l1 n) (j89_l1 H0) := by
  induction n with
  | zero => exact fun _ _ _ _ _ => le_none _
  | succ n hj89_l1 => exact fun _ _ _ _ _ => le_eq (m89_l1 (sj89_1 H0) (sj89_2 H0 hj89_l1) _ _ _ _ _) (e89_l1 H0 _ _ _ _ _)
noncomputable def bc89 (j89_l1 : A4) (p0 p1 : AV) (H : Hp) : Res :=
  bnd (cvToBytes p1) fun t8_1 =>
  bnd (alenD (.slice 5) t8_1) fun t10_3 =>
  j89_l1 p0 t8_1 t10_3 (.int .i64 0) H
theorem ec89 (p0 p1 : AV) (H : Hp) : c89 p0 p1 H = bc89 (j89_l1 H) p0 p1 H := (callw_cxm (C := cfg) (fn := Tryz.f89) (c := bodyOf Tryz.f89) (n := 26) [4, 6, 7] Tryz.func89 (by kernel_rfl) (by kernel_rfl) [p0, p1] (by kernel_rfl) H).trans (by kernel_rfl)
theorem mc89 {j89_l1 dj89_l1 : A4} (hj89_l1 : L4 j89_l1 dj89_l1) : L2 (bc89 j89_l1) (bc89 dj89_l1) := fun _ _ _ =>
  bR fun _ => bR fun _ => hj89_l1 _ _ _ _ _
noncomputable def rc89 : A2 := fun p0 p1 H => bc89 (rj89_l1 100000) p0 p1 H
theorem sc89 : L2 rc89 c89 := fun _ _ H => le_eq (mc89 (sj89_l1 H 100000) _ _ _) (ec89 _ _ _)

/-! locale_Upper -/
noncomputable def c62 (p0 p1 : AV) (H : Hp) : Res := callw cfg 62 [p0, p1] H
noncomputable def bc62 (c65 : A1) (c89 : A2) (p0 p1 : AV) (H : Hp) : Res :=
  bnd (abox p0 H) fun r2_1 =>
  bnd (aload true 6 r2_1.1 r2_1.2) fun t5_2 =>
  bnd (c65 t5_2 r2_1.2) fun r6_3 =>
  bnd (afieldV false 1 3 r6_3.1) fun t7_4 =>
  bnd (c89 t7_4 p1 r6_3.2) fun r9_5 =>
  some (r9_5.1, r9_5.2)
theorem ec62 (p0 p1 : AV) (H : Hp) : c62 p0 p1 H = bc62 c65 c89 p0 p1 H := (callw_cxm (C := cfg) (fn := Tryz.f62) (c := bodyOf Tryz.f62) (n := 10) [] Tryz.func62 (by kernel_rfl) (by kernel_rfl) [p0, p1] (by kernel_rfl) H).trans (by kernel_rfl)
theorem mc62 {c65 dc65 : A1} (hc65 : L1 c65 dc65) {c89 dc89 : A2} (hc89 : L2 c89 dc89) : L2 (bc62 c65 c89) (bc62 dc65 dc89) := fun _ _ _ =>
  bR fun _ => bR fun _ => bC (hc65 _ _) fun _ => bR fun _ => bC (hc89 _ _ _) fun _ => le_refl _
noncomputable def rc62 : A2 := fun p0 p1 H => bc62 rc65 rc89 p0 p1 H
theorem sc62 : L2 rc62 c62 := fun _ _ H => le_eq (mc62 sc65 sc89 _ _ _) (ec62 _ _ _)

/-! sortkey_parts_3 -/
noncomputable def c61 (p0 p1 : AV) (H : Hp) : Res := callw cfg 61 [p0, p1] H
noncomputable def bc61 (c62 : A2) (p0 p1 : AV) (H : Hp) : Res :=
  bnd (aload true 6 p1 H) fun t4_1 =>
  bnd (c62 t4_1 p0 H) fun r6_2 =>
  some (r6_2.1, r6_2.2)
theorem ec61 (p0 p1 : AV) (H : Hp) : c61 p0 p1 H = bc61 c62 p0 p1 H := (callw_cxm (C := cfg) (fn := Tryz.f61) (c := bodyOf Tryz.f61) (n := 7) [] Tryz.func61 (by kernel_rfl) (by kernel_rfl) [p0, p1] (by kernel_rfl) H).trans (by kernel_rfl)
theorem mc61 {c62 dc62 : A2} (hc62 : L2 c62 dc62) : L2 (bc61 c62) (bc61 dc62) := fun _ _ _ =>
  bR fun _ => bC (hc62 _ _ _) fun _ => le_refl _
noncomputable def rc61 : A2 := fun p0 p1 H => bc61 rc62 p0 p1 H
theorem sc61 : L2 rc61 c61 := fun _ _ H => le_eq (mc61 sc62 _ _ _) (ec61 _ _ _)

end Go.Am
