/-
  Functions of the translation that are worked out at given arguments: written by program (wip/gen.py).
-/
import Derived.Test.YtehanadfidoodaaGreatDoorNkGx
import Derived.Test.YtehanadfidoodaaGreatDoorEmWx
namespace Go.Am
open Go.Proofs
set_option maxRecDepth 100000
set_option linter.unusedVariables false
noncomputable section

noncomputable abbrev CXf (f n:Nat):=CXL cfg (callw cfg) (LPL cfg (cfg.keep f) n) (cfg.keep f) n seqL blockL
noncomputable abbrev LPf (f n:Nat):=LPL cfg (cfg.keep f) n
def c31 (H:Hp):Res:=callw cfg 31 [] H
def j31_1 (H0:Hp) (x0 x1 x2 x3:AV) (H:Hp):Res:=CXf 31 55 (sub (bodyOf Tryz.f31) [1,1,1,1]) (retL cfg 55 31 Tryz.f31 H0) [(0,x0),(1,x1),(2,x2),(3,x3)] H
def k31_1 (H0:Hp):KL:=seqL (fun k al H=>CXf 31 55 (sub (bodyOf Tryz.f31) [1,1,1,1]) k (trimL (cfg.keep 31) (sub (bodyOf Tryz.f31) [1,1,1,1]) al) H) (retL cfg 55 31 Tryz.f31 H0)
theorem k31_1_tame (H0:Hp):Tame 55 (k31_1 H0):=tame_seq (C:=cfg) (kp:=cfg.keep 31) (sub (bodyOf Tryz.f31) [1,1,1,1]) (tame_ret 31 Tryz.f31 H0)
def j31_3 (H0:Hp) (x0 x1 x2 x3 x4:AV) (H:Hp):Res:=CXf 31 55 (sub (bodyOf Tryz.f31) [1,1,1,0,1,0,0,1,1]) (seqL (fun k al H=>LPf 31 55 (sub (bodyOf Tryz.f31) [1,1,1,0,1,0,0]) k (trimL (cfg.keep 31) (sub (bodyOf Tryz.f31) [1,1,1,0,1,0,0]) al) H) (blockL 0 (k31_1 H0))) [(0,x0),(1,x1),(2,x2),(3,x3),(4,x4)] H
def k31_2 (H0:Hp):KL:=seqL (fun k al H=>CXf 31 55 (sub (bodyOf Tryz.f31) [1,1,1,0,1,0,0,1,1]) k (trimL (cfg.keep 31) (sub (bodyOf Tryz.f31) [1,1,1,0,1,0,0,1,1]) al) H) (seqL (fun k al H=>LPf 31 55 (sub (bodyOf Tryz.f31) [1,1,1,0,1,0,0]) k (trimL (cfg.keep 31) (sub (bodyOf Tryz.f31) [1,1,1,0,1,0,0]) al) H) (blockL 0 (k31_1 H0)))
def j31_5 (H0:Hp) (x0 x1 x2 x3 x4 x5 x6:AV) (H:Hp):Res:=CXf 31 55 (sub (bodyOf Tryz.f31) [1,1,1,0,1,0,0,1,0,0,1,1,1]) (blockL 1 (k31_2 H0)) [(0,x0),(1,x1),(2,x2),(3,x3),(4,x4),(5,x5),(6,x6)] H
def j31_4 (H0:Hp) (x0 x1 x2 x3 x4 x5 x6:AV) (H:Hp):Res:=CXf 31 55 (sub (bodyOf Tryz.f31) [1,1,1,0,1,0,0,1,0,0,1,1]) (blockL 1 (k31_2 H0)) [(0,x0),(1,x1),(2,x2),(3,x3),(4,x4),(5,x5),(6,x6)] H
def j31_2 (H0:Hp) (x0 x1 x2 x3 x4:AV) (H:Hp):Res:=CXf 31 55 (sub (bodyOf Tryz.f31) [1,1,1,0,1,0,0,1]) (seqL (fun k al H=>LPf 31 55 (sub (bodyOf Tryz.f31) [1,1,1,0,1,0,0]) k (trimL (cfg.keep 31) (sub (bodyOf Tryz.f31) [1,1,1,0,1,0,0]) al) H) (blockL 0 (k31_1 H0))) [(0,x0),(1,x1),(2,x2),(3,x3),(4,x4)] H
def j31_l1 (H0:Hp) (x0 x1 x2 x3 x4:AV) (H:Hp):Res:=LPf 31 55 (sub (bodyOf Tryz.f31) [1,1,1,0,1,0,0]) (blockL 0 (k31_1 H0)) [(0,x0),(1,x1),(2,x2),(3,x3),(4,x4)] H
def b31_1 (x0 x1 x2 x3:AV) (H:Hp):Res:=
  bnd (cvRd x2 H) fun t49=>
  bnd (afield 2 x1) fun t50=>
  bnd (astoreU 1 t50 t49 H) fun r_7=>
  bnd (cvRd x3 r_7.2) fun t52=>
  bnd (afield 3 x1) fun t53=>
  bnd (astoreU 1 t53 t52 r_7.2) fun r_10=>
  bnd (aload true 6 x1 r_10.2) fun t54=>
  bnd (astoreU 6 x0 t54 r_10.2) fun r_12=>
  bnd (aload true 6 x0 r_12.2) fun v0=>
  some (v0,r_12.2)
theorem e31_1 (H0:Hp) (x0 x1 x2 x3:AV) (H:Hp):j31_1 H0 x0 x1 x2 x3 H = b31_1 x0 x1 x2 x3 H:=(CXM_eq [5,6,9,11,14] _ _ _ _).trans (by kernel_rfl)
theorem m31_1:L4 (b31_1) (b31_1):=fun _ _ _ _ _=>
  bR fun _=>bR fun _=>bR fun _=>bR fun _=>bR fun _=>bR fun _=>bR fun _=>bR fun _=>bR fun _=>le_refl _
def b31_3 (j31_l1:A5) (x0 x1 x2 x3 x4:AV) (H:Hp):Res:=
  bnd (ibin .add x4 (.int .i64 1)) fun t11=>
  j31_l1 x0 x1 x2 x3 t11 H
theorem e31_3 (H0:Hp) (x0 x1 x2 x3 x4:AV) (H:Hp):j31_3 H0 x0 x1 x2 x3 x4 H = b31_3 (j31_l1 H0) x0 x1 x2 x3 x4 H:=(CXM_eq [5,6,9,11,14] _ _ _ _).trans (by kernel_rfl)
theorem m31_3 {j31_l1 dj31_l1:A5} (hj31_l1:L5 j31_l1 dj31_l1):L5 (b31_3 j31_l1) (b31_3 dj31_l1):=fun _ _ _ _ _ _=>
  bR fun _=>hj31_l1 _ _ _ _ _ _
def b31_5 (j31_3:A5) (x0 x1 x2 x3 x4 x5 x6:AV) (H:Hp):Res:=
  bnd (afield 1 x1) fun t34=>
  bnd (aload false 1 t34 H) fun t35=>
  bnd ((setElems 1 [(0,x4)] [(.int .i64 0)]).map (.vs 1 .clip)) fun t37=>
  bnd (aappE 1 8 t35 t37 H) fun r38=>
  bnd (afield 1 x1) fun t39=>
  bnd (astoreU 1 t39 r38.1 r38.2) fun r_22=>
  bnd ((setElems 1 [(0,x5)] [(.int .u8 0)]).map (.vs 1 .clip)) fun t42=>
  bnd (aappE 1 1 x2 t42 r_22.2) fun r43=>
  bnd ((setElems 1 [(0,x6)] [(.int .u8 0)]).map (.vs 1 .clip)) fun t46=>
  bnd (aappE 1 1 x3 t46 r43.2) fun r47=>
  j31_3 x0 x1 r43.1 r47.1 x4 r47.2
theorem e31_5 (H0:Hp) (x0 x1 x2 x3 x4 x5 x6:AV) (H:Hp):j31_5 H0 x0 x1 x2 x3 x4 x5 x6 H = b31_5 (j31_3 H0) x0 x1 x2 x3 x4 x5 x6 H:=(CXM_eq [5,6,9,11,14] _ _ _ _).trans (by kernel_rfl)
theorem m31_5 {j31_3 dj31_3:A5} (hj31_3:L5 j31_3 dj31_3):L7 (b31_5 j31_3) (b31_5 dj31_3):=fun _ _ _ _ _ _ _ _=>
  bR fun _=>bR fun _=>bR fun _=>bR fun _=>bR fun _=>bR fun _=>bR fun _=>bR fun _=>bR fun _=>bR fun _=>hj31_3 _ _ _ _ _ _
def b31_4 (j31_5:A7) (x0 x1 x2 x3 x4 x5 x6:AV) (H:Hp):Res:=
  bnd (ibin .geq x4 (.int .i64 97)) fun t26=>
  bnd (gdv t26 true (.tuple []) (some x4)) fun t28=>
  bnd (gdv t26 true (.tuple []) (ibin .leq t28 (.int .i64 122))) fun t29=>
  bnd (apick t26 t29 (.bool false)) fun t30=>
  cnd t30
    (bnd (ibin .sub x4 (.int .i64 32)) fun t32=>
    bnd (cvInt .u8 t32) fun t33=>
    j31_5 x0 x1 x2 x3 x4 x5 t33 H)
    (j31_5 x0 x1 x2 x3 x4 x5 x6 H)
theorem e31_4 (H0:Hp) (x0 x1 x2 x3 x4 x5 x6:AV) (H:Hp):j31_4 H0 x0 x1 x2 x3 x4 x5 x6 H = b31_4 (j31_5 H0) x0 x1 x2 x3 x4 x5 x6 H:=(CXM_eq [5,6,9,11,14] _ _ _ _).trans (by kernel_rfl)
theorem m31_4 {j31_5 dj31_5:A7} (hj31_5:L7 j31_5 dj31_5):L7 (b31_4 j31_5) (b31_4 dj31_5):=fun _ _ _ _ _ _ _ _=>
  bR fun _=>bR fun _=>bR fun _=>bR fun _=>bK (bR fun _=>bR fun _=>hj31_5 _ _ _ _ _ _ _ _) (hj31_5 _ _ _ _ _ _ _ _)
def b31_2 (j31_4:A7) (x0 x1 x2 x3 x4:AV) (H:Hp):Res:=
  bnd (cvInt .u8 x4) fun t13=>
  bnd (cvInt .u8 x4) fun t15=>
  bnd (ibin .geq x4 (.int .i64 65)) fun t17=>
  bnd (gdv t17 true (.tuple []) (some x4)) fun t19=>
  bnd (gdv t17 true (.tuple []) (ibin .leq t19 (.int .i64 90))) fun t20=>
  bnd (apick t17 t20 (.bool false)) fun t21=>
  cnd t21
    (bnd (ibin .add x4 (.int .i64 32)) fun t23=>
    bnd (cvInt .u8 t23) fun t24=>
    j31_4 x0 x1 x2 x3 x4 t24 t15 H)
    (j31_4 x0 x1 x2 x3 x4 t13 t15 H)
theorem e31_2 (H0:Hp) (x0 x1 x2 x3 x4:AV) (H:Hp):j31_2 H0 x0 x1 x2 x3 x4 H = b31_2 (j31_4 H0) x0 x1 x2 x3 x4 H:=(CXM_eq [5,6,9,11,14] _ _ _ _).trans (by kernel_rfl)
theorem m31_2 {j31_4 dj31_4:A7} (hj31_4:L7 j31_4 dj31_4):L5 (b31_2 j31_4) (b31_2 dj31_4):=fun _ _ _ _ _ _=>
  bR fun _=>bR fun _=>bR fun _=>bR fun _=>bR fun _=>bR fun _=>bK (bR fun _=>bR fun _=>hj31_4 _ _ _ _ _ _ _ _) (hj31_4 _ _ _ _ _ _ _ _)
def b31_l1 (j31_1:A4) (j31_2:A5) (x0 x1 x2 x3 x4:AV) (H:Hp):Res:=
  bnd (ibin .lss x4 (.int .i64 256)) fun t9=>
  cnd t9
    (j31_2 x0 x1 x2 x3 x4 H)
    (j31_1 x0 x1 x2 x3 H)
theorem e31_l1 (H0:Hp) (x0 x1 x2 x3 x4:AV) (H:Hp):j31_l1 H0 x0 x1 x2 x3 x4 H = b31_l1 (j31_1 H0) (j31_2 H0) x0 x1 x2 x3 x4 H:=(LPL_eqm (C:=cfg) [5,6,9,11,14] (tame_block 0 (k31_1_tame H0)) _ _).trans (by kernel_rfl)
theorem m31_l1 {j31_1 dj31_1:A4} (hj31_1:L4 j31_1 dj31_1) {j31_2 dj31_2:A5} (hj31_2:L5 j31_2 dj31_2):L5 (b31_l1 j31_1 j31_2) (b31_l1 dj31_1 dj31_2):=fun _ _ _ _ _ _=>
  bR fun _=>bK (hj31_2 _ _ _ _ _ _) (hj31_1 _ _ _ _ _)
def rj31_1:A4:=b31_1
theorem sj31_1 (H0:Hp):L4 (rj31_1) (j31_1 H0):=fun _ _ _ _ _=>le_eq (m31_1 _ _ _ _ _) (e31_1 H0 _ _ _ _ _)
def rj31_3 (j31_l1:A5):A5:=b31_3 j31_l1
theorem sj31_3 (H0:Hp) {yj31_l1:A5} (hj31_l1:L5 yj31_l1 (j31_l1 H0)):L5 (rj31_3 yj31_l1) (j31_3 H0):=fun _ _ _ _ _ _=>le_eq (m31_3 hj31_l1 _ _ _ _ _ _) (e31_3 H0 _ _ _ _ _ _)
def rj31_5 (j31_l1:A5):A7:=b31_5 (rj31_3 j31_l1)
theorem sj31_5 (H0:Hp) {yj31_l1:A5} (hj31_l1:L5 yj31_l1 (j31_l1 H0)):L7 (rj31_5 yj31_l1) (j31_5 H0):=fun _ _ _ _ _ _ _ _=>le_eq (m31_5 (sj31_3 H0 hj31_l1) _ _ _ _ _ _ _ _) (e31_5 H0 _ _ _ _ _ _ _ _)
def rj31_4 (j31_l1:A5):A7:=b31_4 (rj31_5 j31_l1)
theorem sj31_4 (H0:Hp) {yj31_l1:A5} (hj31_l1:L5 yj31_l1 (j31_l1 H0)):L7 (rj31_4 yj31_l1) (j31_4 H0):=fun _ _ _ _ _ _ _ _=>le_eq (m31_4 (sj31_5 H0 hj31_l1) _ _ _ _ _ _ _ _) (e31_4 H0 _ _ _ _ _ _ _ _)
def rj31_2 (j31_l1:A5):A5:=b31_2 (rj31_4 j31_l1)
theorem sj31_2 (H0:Hp) {yj31_l1:A5} (hj31_l1:L5 yj31_l1 (j31_l1 H0)):L5 (rj31_2 yj31_l1) (j31_2 H0):=fun _ _ _ _ _ _=>le_eq (m31_2 (sj31_4 H0 hj31_l1) _ _ _ _ _ _) (e31_2 H0 _ _ _ _ _ _)
def rj31_l1 (n:Nat):A5:=@Nat.rec (fun _=>A5) (fun _ _ _ _ _ _=>none) (fun _ j31_l1=>b31_l1 (rj31_1) (rj31_2 j31_l1)) n
theorem sj31_l1 (H0:Hp) (n:Nat):L5 (rj31_l1 n) (j31_l1 H0):=by
  induction n with
  | zero=>exact fun _ _ _ _ _ _=>le_none _
  | succ n hj31_l1=>exact fun _ _ _ _ _ _=>le_eq (m31_l1 (sj31_1 H0) (sj31_2 H0 hj31_l1) _ _ _ _ _ _) (e31_l1 H0 _ _ _ _ _ _)
def bc31 (j31_l1:A5) (H:Hp):Res:=
  bnd (some ((.ptr H.length 0),H ++ [.cells [(.str []),.nils,(.str []),(.str []),.nils,.nils]])) fun r0=>
  bnd ((afill [(0,1,(.str [112,111,115,105,120]))] [(.str []),.nils,(.str []),(.str []),.nils,.nils]).map .agg) fun t7=>
  bnd (some ((.ptr r0.2.length 0),r0.2 ++ [.cells [(.str []),.nils,(.str []),(.str []),.nils,.nils]])) fun r1=>
  bnd (astoreU 6 r1.1 t7 r1.2) fun r_4=>
  j31_l1 r0.1 r1.1 .nils .nils (.int .i64 0) r_4.2
theorem ec31 (H:Hp):c31 H = bc31 (j31_l1 H) H:=(callw_cxm (C:=cfg) (fn:=Tryz.f31) (c:=bodyOf Tryz.f31) (n:=55) [5,6,9,11,14] Tryz.func31 (by kernel_rfl) (by kernel_rfl) [] (by kernel_rfl) H).trans (by kernel_rfl)
theorem mc31 {j31_l1 dj31_l1:A5} (hj31_l1:L5 j31_l1 dj31_l1):L0 (bc31 j31_l1) (bc31 dj31_l1):=fun _=>
  bR fun _=>bR fun _=>bR fun _=>bR fun _=>hj31_l1 _ _ _ _ _ _
def rc31:A0:=fun H=>bc31 (rj31_l1 100000) H
theorem sc31:L0 rc31 c31:=fun H=>le_eq (mc31 (sj31_l1 H 100000) _) (ec31 _)
def c224 (p0 p1 p2:AV) (H:Hp):Res:=callw cfg 224 [p0,p1,p2] H
def j224_1 (H0:Hp) (x7:AV) (H:Hp):Res:=CXf 224 40 (sub (bodyOf Tryz.f224) [1,1,1]) (retL cfg 40 224 Tryz.f224 H0) [(7,x7)] H
def k224_1 (H0:Hp):KL:=seqL (fun k al H=>CXf 224 40 (sub (bodyOf Tryz.f224) [1,1,1]) k (trimL (cfg.keep 224) (sub (bodyOf Tryz.f224) [1,1,1]) al) H) (retL cfg 40 224 Tryz.f224 H0)
theorem k224_1_tame (H0:Hp):Tame 40 (k224_1 H0):=tame_seq (C:=cfg) (kp:=cfg.keep 224) (sub (bodyOf Tryz.f224) [1,1,1]) (tame_ret 224 Tryz.f224 H0)
def j224_3 (H0:Hp) (x0 x1 x2 x7 x11 x12:AV) (H:Hp):Res:=CXf 224 40 (sub (bodyOf Tryz.f224) [1,1,0,1,0,0,1,1,1]) (seqL (fun k al H=>LPf 224 40 (sub (bodyOf Tryz.f224) [1,1,0,1,0,0]) k (trimL (cfg.keep 224) (sub (bodyOf Tryz.f224) [1,1,0,1,0,0]) al) H) (blockL 0 (k224_1 H0))) [(0,x0),(1,x1),(2,x2),(7,x7),(11,x11),(12,x12)] H
def j224_2 (H0:Hp) (x0 x1 x2 x7 x11 x12 x13:AV) (H:Hp):Res:=CXf 224 40 (sub (bodyOf Tryz.f224) [1,1,0,1,0,0,1,1]) (seqL (fun k al H=>LPf 224 40 (sub (bodyOf Tryz.f224) [1,1,0,1,0,0]) k (trimL (cfg.keep 224) (sub (bodyOf Tryz.f224) [1,1,0,1,0,0]) al) H) (blockL 0 (k224_1 H0))) [(0,x0),(1,x1),(2,x2),(7,x7),(11,x11),(12,x12),(13,x13)] H
def j224_l1 (H0:Hp) (x0 x1 x2 x7 x11 x12:AV) (H:Hp):Res:=LPf 224 40 (sub (bodyOf Tryz.f224) [1,1,0,1,0,0]) (blockL 0 (k224_1 H0)) [(0,x0),(1,x1),(2,x2),(7,x7),(11,x11),(12,x12)] H
def b224_1 (x7:AV) (H:Hp):Res:=
  bnd (cvRd x7 H) fun t39=>
  some (t39,H)
theorem e224_1 (H0:Hp) (x7:AV) (H:Hp):j224_1 H0 x7 H = b224_1 x7 H:=(CXM_eq [4,8,9] _ _ _ _).trans (by kernel_rfl)
theorem m224_1:L1 (b224_1) (b224_1):=fun _ _=>
  bR fun _=>le_refl _
def b224_3 (j224_l1:A6) (x0 x1 x2 x7 x11 x12:AV) (H:Hp):Res:=
  bnd (ibin .add x12 (.int .i64 1)) fun t37=>
  j224_l1 x0 x1 x2 x7 x11 t37 H
theorem e224_3 (H0:Hp) (x0 x1 x2 x7 x11 x12:AV) (H:Hp):j224_3 H0 x0 x1 x2 x7 x11 x12 H = b224_3 (j224_l1 H0) x0 x1 x2 x7 x11 x12 H:=(CXM_eq [4,8,9] _ _ _ _).trans (by kernel_rfl)
theorem m224_3 {j224_l1 dj224_l1:A6} (hj224_l1:L6 j224_l1 dj224_l1):L6 (b224_3 j224_l1) (b224_3 dj224_l1):=fun _ _ _ _ _ _ _=>
  bR fun _=>hj224_l1 _ _ _ _ _ _ _
def b224_2 (j224_3:A6) (x0 x1 x2 x7 x11 x12 x13:AV) (H:Hp):Res:=
  bnd (cvInt .u8 x12) fun t18=>
  bnd (aindexS 1 x7 x12) fun t19=>
  bnd (astoreU 1 t19 t18 H) fun r_8=>
  bnd (cvInt .u8 x12) fun t21=>
  bnd (ibin .geq t21 x0) fun t23=>
  bnd (gdv t23 true (.tuple []) (some x12)) fun t25=>
  bnd (gdv t23 true (.tuple []) (cvInt .u8 t25)) fun t26=>
  bnd (gdv t23 true (.tuple []) (some x1)) fun t27=>
  bnd (gdv t23 true (.tuple []) (ibin .leq t26 t27)) fun t28=>
  bnd (apick t23 t28 (.bool false)) fun t29=>
  cnd t29
    (bnd (ibin .add x12 x2) fun t34=>
    bnd (cvInt .u8 t34) fun t35=>
    bnd (aindexS 1 x7 x12) fun t36=>
    bnd (astoreU 1 t36 t35 r_8.2) fun r_19=>
    j224_3 x0 x1 x2 x7 x11 x12 r_19.2)
    (j224_3 x0 x1 x2 x7 x11 x12 r_8.2)
theorem e224_2 (H0:Hp) (x0 x1 x2 x7 x11 x12 x13:AV) (H:Hp):j224_2 H0 x0 x1 x2 x7 x11 x12 x13 H = b224_2 (j224_3 H0) x0 x1 x2 x7 x11 x12 x13 H:=(CXM_eq [4,8,9] _ _ _ _).trans (by kernel_rfl)
theorem m224_2 {j224_3 dj224_3:A6} (hj224_3:L6 j224_3 dj224_3):L7 (b224_2 j224_3) (b224_2 dj224_3):=fun _ _ _ _ _ _ _ _=>
  bR fun _=>bR fun _=>bR fun _=>bR fun _=>bR fun _=>bR fun _=>bR fun _=>bR fun _=>bR fun _=>bR fun _=>bK (bR fun _=>bR fun _=>bR fun _=>bR fun _=>hj224_3 _ _ _ _ _ _ _) (hj224_3 _ _ _ _ _ _ _)
def b224_l1 (j224_1:A1) (j224_2:A7) (x0 x1 x2 x7 x11 x12:AV) (H:Hp):Res:=
  bnd (ibin .lss x12 x11) fun t13=>
  cnd t13
    (j224_2 x0 x1 x2 x7 x11 x12 t13 H)
    (j224_1 x7 H)
theorem e224_l1 (H0:Hp) (x0 x1 x2 x7 x11 x12:AV) (H:Hp):j224_l1 H0 x0 x1 x2 x7 x11 x12 H = b224_l1 (j224_1 H0) (j224_2 H0) x0 x1 x2 x7 x11 x12 H:=(LPL_eqm (C:=cfg) [4,8,9] (tame_block 0 (k224_1_tame H0)) _ _).trans (by kernel_rfl)
theorem m224_l1 {j224_1 dj224_1:A1} (hj224_1:L1 j224_1 dj224_1) {j224_2 dj224_2:A7} (hj224_2:L7 j224_2 dj224_2):L6 (b224_l1 j224_1 j224_2) (b224_l1 dj224_1 dj224_2):=fun _ _ _ _ _ _ _=>
  bR fun _=>bK (hj224_2 _ _ _ _ _ _ _ _) (hj224_1 _ _)
def rj224_1:A1:=b224_1
theorem sj224_1 (H0:Hp):L1 (rj224_1) (j224_1 H0):=fun _ _=>le_eq (m224_1 _ _) (e224_1 H0 _ _)
def rj224_3 (j224_l1:A6):A6:=b224_3 j224_l1
theorem sj224_3 (H0:Hp) {yj224_l1:A6} (hj224_l1:L6 yj224_l1 (j224_l1 H0)):L6 (rj224_3 yj224_l1) (j224_3 H0):=fun _ _ _ _ _ _ _=>le_eq (m224_3 hj224_l1 _ _ _ _ _ _ _) (e224_3 H0 _ _ _ _ _ _ _)
def rj224_2 (j224_l1:A6):A7:=b224_2 (rj224_3 j224_l1)
theorem sj224_2 (H0:Hp) {yj224_l1:A6} (hj224_l1:L6 yj224_l1 (j224_l1 H0)):L7 (rj224_2 yj224_l1) (j224_2 H0):=fun _ _ _ _ _ _ _ _=>le_eq (m224_2 (sj224_3 H0 hj224_l1) _ _ _ _ _ _ _ _) (e224_2 H0 _ _ _ _ _ _ _ _)
def rj224_l1 (n:Nat):A6:=@Nat.rec (fun _=>A6) (fun _ _ _ _ _ _ _=>none) (fun _ j224_l1=>b224_l1 (rj224_1) (rj224_2 j224_l1)) n
theorem sj224_l1 (H0:Hp) (n:Nat):L6 (rj224_l1 n) (j224_l1 H0):=by
  induction n with
  | zero=>exact fun _ _ _ _ _ _ _=>le_none _
  | succ n hj224_l1=>exact fun _ _ _ _ _ _ _=>le_eq (m224_l1 (sj224_1 H0) (sj224_2 H0 hj224_l1) _ _ _ _ _ _ _) (e224_l1 H0 _ _ _ _ _ _ _)
def bc224 (j224_l1:A6) (p0 p1 p2:AV) (H:Hp):Res:=
  bnd (amake 1 1 false (.int .u8 0) (.int .i64 256) (.int .i64 256) H) fun r9=>
  bnd (alenD (.slice 5) r9.1) fun t11=>
  j224_l1 p0 p1 p2 r9.1 t11 (.int .i64 0) r9.2
theorem ec224 (p0 p1 p2:AV) (H:Hp):c224 p0 p1 p2 H = bc224 (j224_l1 H) p0 p1 p2 H:=(callw_cxm (C:=cfg) (fn:=Tryz.f224) (c:=bodyOf Tryz.f224) (n:=40) [4,8,9] Tryz.func224 (by kernel_rfl) (by kernel_rfl) [p0,p1,p2] (by kernel_rfl) H).trans (by kernel_rfl)
theorem mc224 {j224_l1 dj224_l1:A6} (hj224_l1:L6 j224_l1 dj224_l1):L3 (bc224 j224_l1) (bc224 dj224_l1):=fun _ _ _ _=>
  bR fun _=>bR fun _=>hj224_l1 _ _ _ _ _ _ _
def rc224:A3:=fun p0 p1 p2 H=>bc224 (rj224_l1 100000) p0 p1 p2 H
theorem sc224:L3 rc224 c224:=fun _ _ _ H=>le_eq (mc224 (sj224_l1 H 100000) _ _ _ _) (ec224 _ _ _ _)
def q224:A3:=fun p0 p1 p2 H=>flatC (callw cfg 224) [p0,p1,p2] H
def rq224:A3:=fun p0 p1 p2 H=>flatC (ofL3 (rc224)) [p0,p1,p2] H
theorem sq224:L3 rq224 q224:=fun _ _ _ _=>flat_le (ofL3_le (sc224)) _ _

def c187 (H:Hp):Res:=callw cfg 187 [] H
def j187_1 (H0:Hp) (x0 x1:AV) (H:Hp):Res:=CXf 187 18 (sub (bodyOf Tryz.f187) [1,1,1]) (retL cfg 18 187 Tryz.f187 H0) [(0,x0),(1,x1)] H
def k187_1 (H0:Hp):KL:=seqL (fun k al H=>CXf 187 18 (sub (bodyOf Tryz.f187) [1,1,1]) k (trimL (cfg.keep 187) (sub (bodyOf Tryz.f187) [1,1,1]) al) H) (retL cfg 18 187 Tryz.f187 H0)
theorem k187_1_tame (H0:Hp):Tame 18 (k187_1 H0):=tame_seq (C:=cfg) (kp:=cfg.keep 187) (sub (bodyOf Tryz.f187) [1,1,1]) (tame_ret 187 Tryz.f187 H0)
def j187_3 (H0:Hp) (x0 x1 x5 x6:AV) (H:Hp):Res:=CXf 187 18 (sub (bodyOf Tryz.f187) [1,1,0,1,0,0,1,1,1]) (seqL (fun k al H=>LPf 187 18 (sub (bodyOf Tryz.f187) [1,1,0,1,0,0]) k (trimL (cfg.keep 187) (sub (bodyOf Tryz.f187) [1,1,0,1,0,0]) al) H) (blockL 0 (k187_1 H0))) [(0,x0),(1,x1),(5,x5),(6,x6)] H
def j187_2 (H0:Hp) (x0 x1 x5 x6 x7:AV) (H:Hp):Res:=CXf 187 18 (sub (bodyOf Tryz.f187) [1,1,0,1,0,0,1,1]) (seqL (fun k al H=>LPf 187 18 (sub (bodyOf Tryz.f187) [1,1,0,1,0,0]) k (trimL (cfg.keep 187) (sub (bodyOf Tryz.f187) [1,1,0,1,0,0]) al) H) (blockL 0 (k187_1 H0))) [(0,x0),(1,x1),(5,x5),(6,x6),(7,x7)] H
def j187_l1 (H0:Hp) (x0 x1 x5 x6:AV) (H:Hp):Res:=LPf 187 18 (sub (bodyOf Tryz.f187) [1,1,0,1,0,0]) (blockL 0 (k187_1 H0)) [(0,x0),(1,x1),(5,x5),(6,x6)] H
def b187_1 (q224:A3) (x0 x1:AV) (H:Hp):Res:=
  bnd (q224 (.int .u8 65) (.int .u8 90) (.int .i64 32) H) fun r15=>
  bnd (q224 (.int .u8 97) (.int .u8 122) (.int .i64 (-32)) r15.2) fun r16=>
  bnd ((afill [(0,1,(.str [112,111,115,105,120])),(1,1,x1),(2,1,r15.1),(3,1,r16.1)] [(.str []),.nils,(.str []),(.str []),.nils,.nils]).map .agg) fun t17=>
  bnd (astoreU 6 x0 t17 r16.2) fun r_6=>
  bnd (aload true 6 x0 r_6.2) fun v0=>
  some (v0,r_6.2)
theorem e187_1 (H0:Hp) (x0 x1:AV) (H:Hp):j187_1 H0 x0 x1 H = b187_1 q224 x0 x1 H:=(CXM_eq [4,6,7] _ _ _ _).trans (by kernel_rfl)
theorem m187_1 {q224 dq224:A3} (hq224:L3 q224 dq224):L2 (b187_1 q224) (b187_1 dq224):=fun _ _ _=>
  bC (hq224 _ _ _ _) fun _=>bC (hq224 _ _ _ _) fun _=>bR fun _=>bR fun _=>bR fun _=>le_refl _
def b187_3 (j187_l1:A4) (x0 x1 x5 x6:AV) (H:Hp):Res:=
  bnd (ibin .add x6 (.int .i64 1)) fun t13=>
  j187_l1 x0 x1 x5 t13 H
theorem e187_3 (H0:Hp) (x0 x1 x5 x6:AV) (H:Hp):j187_3 H0 x0 x1 x5 x6 H = b187_3 (j187_l1 H0) x0 x1 x5 x6 H:=(CXM_eq [4,6,7] _ _ _ _).trans (by kernel_rfl)
theorem m187_3 {j187_l1 dj187_l1:A4} (hj187_l1:L4 j187_l1 dj187_l1):L4 (b187_3 j187_l1) (b187_3 dj187_l1):=fun _ _ _ _ _=>
  bR fun _=>hj187_l1 _ _ _ _ _
def b187_2 (j187_3:A4) (x0 x1 x5 x6 x7:AV) (H:Hp):Res:=
  bnd (aindexS 1 x1 x6) fun t12=>
  bnd (astoreU 1 t12 x6 H) fun r_12=>
  j187_3 x0 x1 x5 x6 r_12.2
theorem e187_2 (H0:Hp) (x0 x1 x5 x6 x7:AV) (H:Hp):j187_2 H0 x0 x1 x5 x6 x7 H = b187_2 (j187_3 H0) x0 x1 x5 x6 x7 H:=(CXM_eq [4,6,7] _ _ _ _).trans (by kernel_rfl)
theorem m187_2 {j187_3 dj187_3:A4} (hj187_3:L4 j187_3 dj187_3):L5 (b187_2 j187_3) (b187_2 dj187_3):=fun _ _ _ _ _ _=>
  bR fun _=>bR fun _=>hj187_3 _ _ _ _ _
def b187_l1 (j187_1:A2) (j187_2:A5) (x0 x1 x5 x6:AV) (H:Hp):Res:=
  bnd (ibin .lss x6 x5) fun t7=>
  cnd t7
    (j187_2 x0 x1 x5 x6 t7 H)
    (j187_1 x0 x1 H)
theorem e187_l1 (H0:Hp) (x0 x1 x5 x6:AV) (H:Hp):j187_l1 H0 x0 x1 x5 x6 H = b187_l1 (j187_1 H0) (j187_2 H0) x0 x1 x5 x6 H:=(LPL_eqm (C:=cfg) [4,6,7] (tame_block 0 (k187_1_tame H0)) _ _).trans (by kernel_rfl)
theorem m187_l1 {j187_1 dj187_1:A2} (hj187_1:L2 j187_1 dj187_1) {j187_2 dj187_2:A5} (hj187_2:L5 j187_2 dj187_2):L4 (b187_l1 j187_1 j187_2) (b187_l1 dj187_1 dj187_2):=fun _ _ _ _ _=>
  bR fun _=>bK (hj187_2 _ _ _ _ _ _) (hj187_1 _ _ _)
def rj187_1:A2:=b187_1 rq224
theorem sj187_1 (H0:Hp):L2 (rj187_1) (j187_1 H0):=fun _ _ _=>le_eq (m187_1 sq224 _ _ _) (e187_1 H0 _ _ _)
def rj187_3 (j187_l1:A4):A4:=b187_3 j187_l1
theorem sj187_3 (H0:Hp) {yj187_l1:A4} (hj187_l1:L4 yj187_l1 (j187_l1 H0)):L4 (rj187_3 yj187_l1) (j187_3 H0):=fun _ _ _ _ _=>le_eq (m187_3 hj187_l1 _ _ _ _ _) (e187_3 H0 _ _ _ _ _)
def rj187_2 (j187_l1:A4):A5:=b187_2 (rj187_3 j187_l1)
theorem sj187_2 (H0:Hp) {yj187_l1:A4} (hj187_l1:L4 yj187_l1 (j187_l1 H0)):L5 (rj187_2 yj187_l1) (j187_2 H0):=fun _ _ _ _ _ _=>le_eq (m187_2 (sj187_3 H0 hj187_l1) _ _ _ _ _ _) (e187_2 H0 _ _ _ _ _ _)
def rj187_l1 (n:Nat):A4:=@Nat.rec (fun _=>A4) (fun _ _ _ _ _=>none) (fun _ j187_l1=>b187_l1 (rj187_1) (rj187_2 j187_l1)) n
theorem sj187_l1 (H0:Hp) (n:Nat):L4 (rj187_l1 n) (j187_l1 H0):=by
  induction n with
  | zero=>exact fun _ _ _ _ _=>le_none _
  | succ n hj187_l1=>exact fun _ _ _ _ _=>le_eq (m187_l1 (sj187_1 H0) (sj187_2 H0 hj187_l1) _ _ _ _ _) (e187_l1 H0 _ _ _ _ _)
def bc187 (j187_l1:A4) (H:Hp):Res:=
  bnd (some ((.ptr H.length 0),H ++ [.cells [(.str []),.nils,(.str []),(.str []),.nils,.nils]])) fun r0=>
  bnd (amake 1 8 false (.int .i64 0) (.int .i64 256) (.int .i64 256) r0.2) fun r3=>
  bnd (alenD (.slice 3) r3.1) fun t5=>
  j187_l1 r0.1 r3.1 t5 (.int .i64 0) r3.2
theorem ec187 (H:Hp):c187 H = bc187 (j187_l1 H) H:=(callw_cxm (C:=cfg) (fn:=Tryz.f187) (c:=bodyOf Tryz.f187) (n:=18) [4,6,7] Tryz.func187 (by kernel_rfl) (by kernel_rfl) [] (by kernel_rfl) H).trans (by kernel_rfl)
theorem mc187 {j187_l1 dj187_l1:A4} (hj187_l1:L4 j187_l1 dj187_l1):L0 (bc187 j187_l1) (bc187 dj187_l1):=fun _=>
  bR fun _=>bR fun _=>bR fun _=>hj187_l1 _ _ _ _ _
def rc187:A0:=fun H=>bc187 (rj187_l1 100000) H
theorem sc187:L0 rc187 c187:=fun H=>le_eq (mc187 (sj187_l1 H 100000) _) (ec187 _)
end
end Go.Am
