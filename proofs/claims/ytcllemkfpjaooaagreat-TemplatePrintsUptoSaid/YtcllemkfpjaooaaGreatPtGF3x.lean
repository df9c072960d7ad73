/-
  Functions of the translation that are worked out at given arguments: written by program (wip/gen.py).
-/
import Derived.Test.YtcllemkfpjaooaaGreatPtGF2x
import Derived.Test.YtcllemkfpjaooaaGreatHmWx
namespace Go.Am
open Go.Proofs
set_option maxRecDepth 100000
set_option linter.unusedVariables false
noncomputable section

def c79 (p0 p1 p2:AV) (H:Hp):Res:=callw cfg 79 [p0,p1,p2] H
def j79_4 (H0:Hp) (x6 x7:AV) (H:Hp):Res:=CXf 79 63 (sub (bodyOf Tryz.f79) [1,1,1,1,1,1]) (retL cfg 63 79 Tryz.f79 H0) [(6,x6),(7,x7)] H
def k79_1 (H0:Hp):KL:=seqL (fun k al H=>CXf 79 63 (sub (bodyOf Tryz.f79) [1,1,1,1,1,1]) k (trimL (cfg.keep 79) (sub (bodyOf Tryz.f79) [1,1,1,1,1,1]) al) H) (retL cfg 63 79 Tryz.f79 H0)
theorem k79_1_tame (H0:Hp):Tame 63 (k79_1 H0):=tame_seq (C:=cfg) (kp:=cfg.keep 79) (sub (bodyOf Tryz.f79) [1,1,1,1,1,1]) (tame_ret 79 Tryz.f79 H0)
def j79_6 (H0:Hp) (x2 x3 x6 x7 x9:AV) (H:Hp):Res:=CXf 79 63 (sub (bodyOf Tryz.f79) [1,1,1,1,1,0,1,0,0,1,1]) (seqL (fun k al H=>LPf 79 63 (sub (bodyOf Tryz.f79) [1,1,1,1,1,0,1,0,0]) k (trimL (cfg.keep 79) (sub (bodyOf Tryz.f79) [1,1,1,1,1,0,1,0,0]) al) H) (blockL 2 (k79_1 H0))) [(2,x2),(3,x3),(6,x6),(7,x7),(9,x9)] H
def j79_5 (H0:Hp) (x2 x3 x6 x7 x9:AV) (H:Hp):Res:=CXf 79 63 (sub (bodyOf Tryz.f79) [1,1,1,1,1,0,1,0,0,1]) (seqL (fun k al H=>LPf 79 63 (sub (bodyOf Tryz.f79) [1,1,1,1,1,0,1,0,0]) k (trimL (cfg.keep 79) (sub (bodyOf Tryz.f79) [1,1,1,1,1,0,1,0,0]) al) H) (blockL 2 (k79_1 H0))) [(2,x2),(3,x3),(6,x6),(7,x7),(9,x9)] H
def j79_l1 (H0:Hp) (x2 x3 x6 x7 x9:AV) (H:Hp):Res:=LPf 79 63 (sub (bodyOf Tryz.f79) [1,1,1,1,1,0,1,0,0]) (blockL 2 (k79_1 H0)) [(2,x2),(3,x3),(6,x6),(7,x7),(9,x9)] H
def j79_3 (H0:Hp) (x1 x2 x3 x6 x7:AV) (H:Hp):Res:=CXf 79 63 (sub (bodyOf Tryz.f79) [1,1,1,1,1]) (retL cfg 63 79 Tryz.f79 H0) [(1,x1),(2,x2),(3,x3),(6,x6),(7,x7)] H
def k79_2 (H0:Hp):KL:=seqL (fun k al H=>CXf 79 63 (sub (bodyOf Tryz.f79) [1,1,1,1,1]) k (trimL (cfg.keep 79) (sub (bodyOf Tryz.f79) [1,1,1,1,1]) al) H) (retL cfg 63 79 Tryz.f79 H0)
theorem k79_2_tame (H0:Hp):Tame 63 (k79_2 H0):=tame_seq (C:=cfg) (kp:=cfg.keep 79) (sub (bodyOf Tryz.f79) [1,1,1,1,1]) (tame_ret 79 Tryz.f79 H0)
def j79_8 (H0:Hp) (x1 x2 x3 x6 x7 x8:AV) (H:Hp):Res:=CXf 79 63 (sub (bodyOf Tryz.f79) [1,1,1,1,0,1,0,0,1,1]) (seqL (fun k al H=>LPf 79 63 (sub (bodyOf Tryz.f79) [1,1,1,1,0,1,0,0]) k (trimL (cfg.keep 79) (sub (bodyOf Tryz.f79) [1,1,1,1,0,1,0,0]) al) H) (blockL 0 (k79_2 H0))) [(1,x1),(2,x2),(3,x3),(6,x6),(7,x7),(8,x8)] H
def j79_7 (H0:Hp) (x1 x2 x3 x6 x7 x8:AV) (H:Hp):Res:=CXf 79 63 (sub (bodyOf Tryz.f79) [1,1,1,1,0,1,0,0,1]) (seqL (fun k al H=>LPf 79 63 (sub (bodyOf Tryz.f79) [1,1,1,1,0,1,0,0]) k (trimL (cfg.keep 79) (sub (bodyOf Tryz.f79) [1,1,1,1,0,1,0,0]) al) H) (blockL 0 (k79_2 H0))) [(1,x1),(2,x2),(3,x3),(6,x6),(7,x7),(8,x8)] H
def j79_l2 (H0:Hp) (x1 x2 x3 x6 x7 x8:AV) (H:Hp):Res:=LPf 79 63 (sub (bodyOf Tryz.f79) [1,1,1,1,0,1,0,0]) (blockL 0 (k79_2 H0)) [(1,x1),(2,x2),(3,x3),(6,x6),(7,x7),(8,x8)] H
def j79_2 (H0:Hp) (x1 x2 x3 x6:AV) (H:Hp):Res:=CXf 79 63 (sub (bodyOf Tryz.f79) [1,1,1]) (retL cfg 63 79 Tryz.f79 H0) [(1,x1),(2,x2),(3,x3),(6,x6)] H
def j79_1 (H0:Hp) (x1 x2 x3 x6:AV) (H:Hp):Res:=CXf 79 63 (sub (bodyOf Tryz.f79) [1,1]) (retL cfg 63 79 Tryz.f79 H0) [(1,x1),(2,x2),(3,x3),(6,x6)] H
def b79_4 (x6 x7:AV) (H:Hp):Res:=
 bnd (aload true 9 x7 H) fun t62=>
 bnd (astoreU 9 x6 t62 H) fun r_7=>
 bnd (aload true 9 x6 r_7.2) fun v6=>
 some (v6,r_7.2)
theorem e79_4 (H0:Hp) (x6 x7:AV) (H:Hp):j79_4 H0 x6 x7 H=b79_4 x6 x7 H:=(CXM_eq [3,5,8,9,12,14,15,16] _ _ _ _).trans (by kernel_rfl)
theorem m79_4:L2 (b79_4) (b79_4):=fun _ _ _=>
 bR fun _=>bR fun _=>bR fun _=>le_refl _
def b79_6 (j79_l1:A5) (x2 x3 x6 x7 x9:AV) (H:Hp):Res:=
 bnd (ibin .add x9 (.int .i64 1)) fun t53=>
 j79_l1 x2 x3 x6 x7 t53 H
theorem e79_6 (H0:Hp) (x2 x3 x6 x7 x9:AV) (H:Hp):j79_6 H0 x2 x3 x6 x7 x9 H=b79_6 (j79_l1 H0) x2 x3 x6 x7 x9 H:=(CXM_eq [3,5,8,9,12,14,15,16] _ _ _ _).trans (by kernel_rfl)
theorem m79_6 {j79_l1 dj79_l1:A5} (hj79_l1:L5 j79_l1 dj79_l1):L5 (b79_6 j79_l1) (b79_6 dj79_l1):=fun _ _ _ _ _ _=>
 bR fun _=>hj79_l1 _ _ _ _ _ _
def b79_5 (j79_6:A5) (x2 x3 x6 x7 x9:AV) (H:Hp):Res:=
 bnd (afield 8 x7) fun t54=>
 bnd (aload false 1 t54 H) fun t55=>
 bnd (aload true 9 x3 H) fun t56=>
 bnd ((setElems 9 [(0,t56)] [(.agg [(.int .i64 0),(.int .u64 0),(.int .u64 0),(.int .u64 0),(.int .u64 0),(.int .i64 0),(.int .i64 0),(.int .i64 0),.nils])]).map (.vs 9 .clip)) fun t57=>
 bnd ((afill [(0,1,(.int .i64 5)),(6,1,(.int .i64 1)),(8,1,t57)] [(.int .i64 0),(.int .u64 0),(.int .u64 0),(.int .u64 0),(.int .u64 0),(.int .i64 0),(.int .i64 0),(.int .i64 0),.nils]).map .agg) fun t58=>
 bnd ((setElems 9 [(0,t58)] [(.agg [(.int .i64 0),(.int .u64 0),(.int .u64 0),(.int .u64 0),(.int .u64 0),(.int .i64 0),(.int .i64 0),(.int .i64 0),.nils])]).map (.vs 9 .clip)) fun t59=>
 bnd (aappE 9 88 t55 t59 H) fun r60=>
 bnd (afield 8 x7) fun t61=>
 bnd (astoreU 1 t61 r60.1 r60.2) fun r_18=>
 j79_6 x2 x3 x6 x7 x9 r_18.2
theorem e79_5 (H0:Hp) (x2 x3 x6 x7 x9:AV) (H:Hp):j79_5 H0 x2 x3 x6 x7 x9 H=b79_5 (j79_6 H0) x2 x3 x6 x7 x9 H:=(CXM_eq [3,5,8,9,12,14,15,16] _ _ _ _).trans (by kernel_rfl)
theorem m79_5 {j79_6 dj79_6:A5} (hj79_6:L5 j79_6 dj79_6):L5 (b79_5 j79_6) (b79_5 dj79_6):=fun _ _ _ _ _ _=>
 bR fun _=>bR fun _=>bR fun _=>bR fun _=>bR fun _=>bR fun _=>bR fun _=>bR fun _=>bR fun _=>hj79_6 _ _ _ _ _ _
def b79_l1 (j79_4:A2) (j79_5:A5) (x2 x3 x6 x7 x9:AV) (H:Hp):Res:=
 bnd (ibin .lss x9 x2) fun t51=>
 cnd t51
  (j79_5 x2 x3 x6 x7 x9 H)
  (j79_4 x6 x7 H)
theorem e79_l1 (H0:Hp) (x2 x3 x6 x7 x9:AV) (H:Hp):j79_l1 H0 x2 x3 x6 x7 x9 H=b79_l1 (j79_4 H0) (j79_5 H0) x2 x3 x6 x7 x9 H:=(LPL_eqm (C:=cfg) [3,5,8,9,12,14,15,16] (tame_block 2 (k79_1_tame H0)) _ _).trans (by kernel_rfl)
theorem m79_l1 {j79_4 dj79_4:A2} (hj79_4:L2 j79_4 dj79_4) {j79_5 dj79_5:A5} (hj79_5:L5 j79_5 dj79_5):L5 (b79_l1 j79_4 j79_5) (b79_l1 dj79_4 dj79_5):=fun _ _ _ _ _ _=>
 bR fun _=>bK (hj79_5 _ _ _ _ _ _) (hj79_4 _ _ _)
def b79_3 (j79_l1:A5) (x1 x2 x3 x6 x7:AV) (H:Hp):Res:=
 j79_l1 x2 x3 x6 x7 x1 H
theorem e79_3 (H0:Hp) (x1 x2 x3 x6 x7:AV) (H:Hp):j79_3 H0 x1 x2 x3 x6 x7 H=b79_3 (j79_l1 H0) x1 x2 x3 x6 x7 H:=(CXM_eq [3,5,8,9,12,14,15,16] _ _ _ _).trans (by kernel_rfl)
theorem m79_3 {j79_l1 dj79_l1:A5} (hj79_l1:L5 j79_l1 dj79_l1):L5 (b79_3 j79_l1) (b79_3 dj79_l1):=fun _ _ _ _ _ _=>
 hj79_l1 _ _ _ _ _ _
def b79_8 (j79_l2:A6) (x1 x2 x3 x6 x7 x8:AV) (H:Hp):Res:=
 bnd (ibin .add x8 (.int .i64 1)) fun t25=>
 j79_l2 x1 x2 x3 x6 x7 t25 H
theorem e79_8 (H0:Hp) (x1 x2 x3 x6 x7 x8:AV) (H:Hp):j79_8 H0 x1 x2 x3 x6 x7 x8 H=b79_8 (j79_l2 H0) x1 x2 x3 x6 x7 x8 H:=(CXM_eq [3,5,8,9,12,14,15,16] _ _ _ _).trans (by kernel_rfl)
theorem m79_8 {j79_l2 dj79_l2:A6} (hj79_l2:L6 j79_l2 dj79_l2):L6 (b79_8 j79_l2) (b79_8 dj79_l2):=fun _ _ _ _ _ _ _=>
 bR fun _=>hj79_l2 _ _ _ _ _ _ _
def b79_7 (j79_8:A6) (x1 x2 x3 x6 x7 x8:AV) (H:Hp):Res:=
 bnd (ibin .eql x2 (.int .i64 (-1))) fun t27=>
 bnd (gdv t27 true (.tuple []) (some x8)) fun t29=>
 bnd (gdv t27 true (.tuple []) (some x1)) fun t30=>
 bnd (gdv t27 true (.tuple []) (ibin .sub t30 (.int .i64 1))) fun t31=>
 bnd (gdv t27 true (.tuple []) (ibin .eql t29 t31)) fun t32=>
 bnd (apick t27 t32 (.bool false)) fun t33=>
 cnd t33
  (bnd (afield 8 x7) fun t34=>
  bnd (aload false 1 t34 H) fun t35=>
  bnd (aload true 9 x3 H) fun t36=>
  bnd ((setElems 9 [(0,t36)] [(.agg [(.int .i64 0),(.int .u64 0),(.int .u64 0),(.int .u64 0),(.int .u64 0),(.int .i64 0),(.int .i64 0),(.int .i64 0),.nils])]).map (.vs 9 .clip)) fun t37=>
  bnd ((afill [(0,1,(.int .i64 5)),(5,1,(.int .i64 1)),(6,1,(.int .i64 (-1))),(8,1,t37)] [(.int .i64 0),(.int .u64 0),(.int .u64 0),(.int .u64 0),(.int .u64 0),(.int .i64 0),(.int .i64 0),(.int .i64 0),.nils]).map .agg) fun t38=>
  bnd ((setElems 9 [(0,t38)] [(.agg [(.int .i64 0),(.int .u64 0),(.int .u64 0),(.int .u64 0),(.int .u64 0),(.int .i64 0),(.int .i64 0),(.int .i64 0),.nils])]).map (.vs 9 .clip)) fun t39=>
  bnd (aappE 9 88 t35 t39 H) fun r40=>
  bnd (afield 8 x7) fun t41=>
  bnd (astoreU 1 t41 r40.1 r40.2) fun r_35=>
  j79_8 x1 x2 x3 x6 x7 x8 r_35.2)
  (bnd (afield 8 x7) fun t42=>
  bnd (aload false 1 t42 H) fun t43=>
  bnd (aload true 9 x3 H) fun t44=>
  bnd ((setElems 9 [(0,t44)] [(.agg [(.int .i64 0),(.int .u64 0),(.int .u64 0),(.int .u64 0),(.int .u64 0),(.int .i64 0),(.int .i64 0),(.int .i64 0),.nils])]).map (.vs 9 .clip)) fun t45=>
  bnd (aappE 9 88 t43 t45 H) fun r46=>
  bnd (afield 8 x7) fun t47=>
  bnd (astoreU 1 t47 r46.1 r46.2) fun r_42=>
  j79_8 x1 x2 x3 x6 x7 x8 r_42.2)
theorem e79_7 (H0:Hp) (x1 x2 x3 x6 x7 x8:AV) (H:Hp):j79_7 H0 x1 x2 x3 x6 x7 x8 H=b79_7 (j79_8 H0) x1 x2 x3 x6 x7 x8 H:=(CXM_eq [3,5,8,9,12,14,15,16] _ _ _ _).trans (by kernel_rfl)
theorem m79_7 {j79_8 dj79_8:A6} (hj79_8:L6 j79_8 dj79_8):L6 (b79_7 j79_8) (b79_7 dj79_8):=fun _ _ _ _ _ _ _=>
 bR fun _=>bR fun _=>bR fun _=>bR fun _=>bR fun _=>bR fun _=>bK (bR fun _=>bR fun _=>bR fun _=>bR fun _=>bR fun _=>bR fun _=>bR fun _=>bR fun _=>bR fun _=>hj79_8 _ _ _ _ _ _ _) (bR fun _=>bR fun _=>bR fun _=>bR fun _=>bR fun _=>bR fun _=>bR fun _=>hj79_8 _ _ _ _ _ _ _)
def b79_l2 (j79_3:A5) (j79_7:A6) (x1 x2 x3 x6 x7 x8:AV) (H:Hp):Res:=
 bnd (ibin .lss x8 x1) fun t23=>
 cnd t23
  (j79_7 x1 x2 x3 x6 x7 x8 H)
  (j79_3 x1 x2 x3 x6 x7 H)
theorem e79_l2 (H0:Hp) (x1 x2 x3 x6 x7 x8:AV) (H:Hp):j79_l2 H0 x1 x2 x3 x6 x7 x8 H=b79_l2 (j79_3 H0) (j79_7 H0) x1 x2 x3 x6 x7 x8 H:=(LPL_eqm (C:=cfg) [3,5,8,9,12,14,15,16] (tame_block 0 (k79_2_tame H0)) _ _).trans (by kernel_rfl)
theorem m79_l2 {j79_3 dj79_3:A5} (hj79_3:L5 j79_3 dj79_3) {j79_7 dj79_7:A6} (hj79_7:L6 j79_7 dj79_7):L6 (b79_l2 j79_3 j79_7) (b79_l2 dj79_3 dj79_7):=fun _ _ _ _ _ _ _=>
 bR fun _=>bK (hj79_7 _ _ _ _ _ _ _) (hj79_3 _ _ _ _ _ _)
def b79_2 (j79_l2:A6) (x1 x2 x3 x6:AV) (H:Hp):Res:=
 bnd ((afill [(0,1,(.int .i64 3))] [(.int .i64 0),(.int .u64 0),(.int .u64 0),(.int .u64 0),(.int .u64 0),(.int .i64 0),(.int .i64 0),(.int .i64 0),.nils]).map .agg) fun t20=>
 bnd (some ((.ptr H.length 0),H++[.cells [(.int .i64 0),(.int .u64 0),(.int .u64 0),(.int .u64 0),(.int .u64 0),(.int .i64 0),(.int .i64 0),(.int .i64 0),.nils]])) fun r7=>
 bnd (astoreU 9 r7.1 t20 r7.2) fun r_5=>
 j79_l2 x1 x2 x3 x6 r7.1 (.int .i64 0) r_5.2
theorem e79_2 (H0:Hp) (x1 x2 x3 x6:AV) (H:Hp):j79_2 H0 x1 x2 x3 x6 H=b79_2 (j79_l2 H0) x1 x2 x3 x6 H:=(CXM_eq [3,5,8,9,12,14,15,16] _ _ _ _).trans (by kernel_rfl)
theorem m79_2 {j79_l2 dj79_l2:A6} (hj79_l2:L6 j79_l2 dj79_l2):L4 (b79_2 j79_l2) (b79_2 dj79_l2):=fun _ _ _ _ _=>
 bR fun _=>bR fun _=>bR fun _=>hj79_l2 _ _ _ _ _ _ _
def b79_1 (j79_2:A4) (x1 x2 x3 x6:AV) (H:Hp):Res:=
 bnd (ibin .eql x1 (.int .i64 1)) fun t14=>
 bnd (gdv t14 true (.tuple []) (some x2)) fun t16=>
 bnd (gdv t14 true (.tuple []) (ibin .eql t16 (.int .i64 1))) fun t17=>
 bnd (apick t14 t17 (.bool false)) fun t18=>
 cnd t18
  (bnd (aload true 9 x3 H) fun t19=>
  bnd (astoreU 9 x6 t19 H) fun r_49=>
  bnd (aload true 9 x6 r_49.2) fun v6=>
  some (v6,r_49.2))
  (j79_2 x1 x2 x3 x6 H)
theorem e79_1 (H0:Hp) (x1 x2 x3 x6:AV) (H:Hp):j79_1 H0 x1 x2 x3 x6 H=b79_1 (j79_2 H0) x1 x2 x3 x6 H:=(CXM_eq [3,5,8,9,12,14,15,16] _ _ _ _).trans (by kernel_rfl)
theorem m79_1 {j79_2 dj79_2:A4} (hj79_2:L4 j79_2 dj79_2):L4 (b79_1 j79_2) (b79_1 dj79_2):=fun _ _ _ _ _=>
 bR fun _=>bR fun _=>bR fun _=>bR fun _=>bK (bR fun _=>bR fun _=>bR fun _=>le_refl _) (hj79_2 _ _ _ _ _)
def rj79_4:A2:=b79_4
theorem sj79_4 (H0:Hp):L2 (rj79_4) (j79_4 H0):=fun _ _ _=>le_eq (m79_4 _ _ _) (e79_4 H0 _ _ _)
def rj79_6 (j79_l1:A5):A5:=b79_6 j79_l1
theorem sj79_6 (H0:Hp) {yj79_l1:A5} (hj79_l1:L5 yj79_l1 (j79_l1 H0)):L5 (rj79_6 yj79_l1) (j79_6 H0):=fun _ _ _ _ _ _=>le_eq (m79_6 hj79_l1 _ _ _ _ _ _) (e79_6 H0 _ _ _ _ _ _)
def rj79_5 (j79_l1:A5):A5:=b79_5 (rj79_6 j79_l1)
theorem sj79_5 (H0:Hp) {yj79_l1:A5} (hj79_l1:L5 yj79_l1 (j79_l1 H0)):L5 (rj79_5 yj79_l1) (j79_5 H0):=fun _ _ _ _ _ _=>le_eq (m79_5 (sj79_6 H0 hj79_l1) _ _ _ _ _ _) (e79_5 H0 _ _ _ _ _ _)
def rj79_l1 (n:Nat):A5:=@Nat.rec (fun _=>A5) (fun _ _ _ _ _ _=>none) (fun _ j79_l1=>b79_l1 (rj79_4) (rj79_5 j79_l1)) n
theorem sj79_l1 (H0:Hp) (n:Nat):L5 (rj79_l1 n) (j79_l1 H0):=by
 induction n with
 | zero=>exact fun _ _ _ _ _ _=>le_none _
 | succ n hj79_l1=>exact fun _ _ _ _ _ _=>le_eq (m79_l1 (sj79_4 H0) (sj79_5 H0 hj79_l1) _ _ _ _ _ _) (e79_l1 H0 _ _ _ _ _ _)
def rj79_3:A5:=b79_3 (rj79_l1 100000)
theorem sj79_3 (H0:Hp):L5 (rj79_3) (j79_3 H0):=fun _ _ _ _ _ _=>le_eq (m79_3 (sj79_l1 H0 100000) _ _ _ _ _ _) (e79_3 H0 _ _ _ _ _ _)
def rj79_8 (j79_l2:A6):A6:=b79_8 j79_l2
theorem sj79_8 (H0:Hp) {yj79_l2:A6} (hj79_l2:L6 yj79_l2 (j79_l2 H0)):L6 (rj79_8 yj79_l2) (j79_8 H0):=fun _ _ _ _ _ _ _=>le_eq (m79_8 hj79_l2 _ _ _ _ _ _ _) (e79_8 H0 _ _ _ _ _ _ _)
def rj79_7 (j79_l2:A6):A6:=b79_7 (rj79_8 j79_l2)
theorem sj79_7 (H0:Hp) {yj79_l2:A6} (hj79_l2:L6 yj79_l2 (j79_l2 H0)):L6 (rj79_7 yj79_l2) (j79_7 H0):=fun _ _ _ _ _ _ _=>le_eq (m79_7 (sj79_8 H0 hj79_l2) _ _ _ _ _ _ _) (e79_7 H0 _ _ _ _ _ _ _)
def rj79_l2 (n:Nat):A6:=@Nat.rec (fun _=>A6) (fun _ _ _ _ _ _ _=>none) (fun _ j79_l2=>b79_l2 (rj79_3) (rj79_7 j79_l2)) n
theorem sj79_l2 (H0:Hp) (n:Nat):L6 (rj79_l2 n) (j79_l2 H0):=by
 induction n with
 | zero=>exact fun _ _ _ _ _ _ _=>le_none _
 | succ n hj79_l2=>exact fun _ _ _ _ _ _ _=>le_eq (m79_l2 (sj79_3 H0) (sj79_7 H0 hj79_l2) _ _ _ _ _ _ _) (e79_l2 H0 _ _ _ _ _ _ _)
def rj79_2:A4:=b79_2 (rj79_l2 100000)
theorem sj79_2 (H0:Hp):L4 (rj79_2) (j79_2 H0):=fun _ _ _ _ _=>le_eq (m79_2 (sj79_l2 H0 100000) _ _ _ _ _) (e79_2 H0 _ _ _ _ _)
def rj79_1:A4:=b79_1 (rj79_2)
theorem sj79_1 (H0:Hp):L4 (rj79_1) (j79_1 H0):=fun _ _ _ _ _=>le_eq (m79_1 (sj79_2 H0) _ _ _ _ _) (e79_1 H0 _ _ _ _ _)
def bc79 (j79_1:A4) (p0 p1 p2:AV) (H:Hp):Res:=
 bnd (abox p0 H) fun r3=>
 bnd (some ((.ptr r3.2.length 0),r3.2++[.cells [(.int .i64 0),(.int .u64 0),(.int .u64 0),(.int .u64 0),(.int .u64 0),(.int .i64 0),(.int .i64 0),(.int .i64 0),.nils]])) fun r6=>
 bnd (ibin .eql p2 (.int .i64 0)) fun t11=>
 cnd t11
  (bnd ((afill [(0,1,(.int .i64 1))] [(.int .i64 0),(.int .u64 0),(.int .u64 0),(.int .u64 0),(.int .u64 0),(.int .i64 0),(.int .i64 0),(.int .i64 0),.nils]).map .agg) fun t12=>
  bnd (astoreU 9 r6.1 t12 r6.2) fun r_53=>
  bnd (aload true 9 r6.1 r_53.2) fun v6=>
  some (v6,r_53.2))
  (j79_1 p1 p2 r3.1 r6.1 r6.2)
theorem ec79 (p0 p1 p2:AV) (H:Hp):c79 p0 p1 p2 H=bc79 (j79_1 H) p0 p1 p2 H:=(callw_cxm (C:=cfg) (fn:=Tryz.f79) (c:=bodyOf Tryz.f79) (n:=63) [3,5,8,9,12,14,15,16] Tryz.func79 (by kernel_rfl) (by kernel_rfl) [p0,p1,p2] (by kernel_rfl) H).trans (by kernel_rfl)
theorem mc79 {j79_1 dj79_1:A4} (hj79_1:L4 j79_1 dj79_1):L3 (bc79 j79_1) (bc79 dj79_1):=fun _ _ _ _=>
 bR fun _=>bR fun _=>bR fun _=>bK (bR fun _=>bR fun _=>bR fun _=>le_refl _) (hj79_1 _ _ _ _ _)
def rc79:A3:=fun p0 p1 p2 H=>bc79 (rj79_1) p0 p1 p2 H
theorem sc79:L3 rc79 c79:=fun _ _ _ H=>le_eq (mc79 (sj79_1 H) _ _ _ _) (ec79 _ _ _ _)

def c59 (p0:AV) (H:Hp):Res:=callw cfg 59 [p0] H
def j59_2 (H0:Hp) (x2 x3:AV) (H:Hp):Res:=CXf 59 43 (sub (bodyOf Tryz.f59) [1,1,1,1,1]) (retL cfg 43 59 Tryz.f59 H0) [(2,x2),(3,x3)] H
def j59_1 (H0:Hp) (x1 x2 x3:AV) (H:Hp):Res:=CXf 59 43 (sub (bodyOf Tryz.f59) [1,1,1,1]) (retL cfg 43 59 Tryz.f59 H0) [(1,x1),(2,x2),(3,x3)] H
def k59_1 (H0:Hp):KL:=seqL (fun k al H=>CXf 59 43 (sub (bodyOf Tryz.f59) [1,1,1,1]) k (trimL (cfg.keep 59) (sub (bodyOf Tryz.f59) [1,1,1,1]) al) H) (retL cfg 43 59 Tryz.f59 H0)
theorem k59_1_tame (H0:Hp):Tame 43 (k59_1 H0):=tame_seq (C:=cfg) (kp:=cfg.keep 59) (sub (bodyOf Tryz.f59) [1,1,1,1]) (tame_ret 59 Tryz.f59 H0)
def j59_4 (H0:Hp) (x1 x2 x3 x4:AV) (H:Hp):Res:=CXf 59 43 (sub (bodyOf Tryz.f59) [1,1,1,0,1,0,0,1,1]) (seqL (fun k al H=>LPf 59 43 (sub (bodyOf Tryz.f59) [1,1,1,0,1,0,0]) k (trimL (cfg.keep 59) (sub (bodyOf Tryz.f59) [1,1,1,0,1,0,0]) al) H) (blockL 0 (k59_1 H0))) [(1,x1),(2,x2),(3,x3),(4,x4)] H
def j59_3 (H0:Hp) (x1 x2 x3 x4:AV) (H:Hp):Res:=CXf 59 43 (sub (bodyOf Tryz.f59) [1,1,1,0,1,0,0,1]) (seqL (fun k al H=>LPf 59 43 (sub (bodyOf Tryz.f59) [1,1,1,0,1,0,0]) k (trimL (cfg.keep 59) (sub (bodyOf Tryz.f59) [1,1,1,0,1,0,0]) al) H) (blockL 0 (k59_1 H0))) [(1,x1),(2,x2),(3,x3),(4,x4)] H
def j59_l1 (H0:Hp) (x1 x2 x3 x4:AV) (H:Hp):Res:=LPf 59 43 (sub (bodyOf Tryz.f59) [1,1,1,0,1,0,0]) (blockL 0 (k59_1 H0)) [(1,x1),(2,x2),(3,x3),(4,x4)] H
def b59_2 (x2 x3:AV) (H:Hp):Res:=
 bnd (aload true 9 x3 H) fun t42=>
 bnd (astoreU 9 x2 t42 H) fun r_9=>
 bnd (aload true 9 x2 r_9.2) fun v2=>
 some (v2,r_9.2)
theorem e59_2 (H0:Hp) (x2 x3:AV) (H:Hp):j59_2 H0 x2 x3 H=b59_2 x2 x3 H:=(CXM_eq [5,6,7,9] _ _ _ _).trans (by kernel_rfl)
theorem m59_2:L2 (b59_2) (b59_2):=fun _ _ _=>
 bR fun _=>bR fun _=>bR fun _=>le_refl _
def b59_1 (c78:A1) (c79:A3) (j59_2:A2) (x1 x2 x3:AV) (H:Hp):Res:=
 bnd (afield 0 x1) fun t25=>
 bnd (aload false 1 t25 H) fun t26=>
 bnd (ibin .eql t26 (.int .i64 5)) fun t27=>
 bnd (gdv t27 true (.tuple []) (aload true 9 x1 H)) fun t29=>
 bnd (gdv t27 true ((.tuple []),H) (c78 t29 H)) fun r30=>
 bnd (gdv t27 true (.tuple []) (aun .not r30.1)) fun t31=>
 bnd (apick t27 t31 (.bool false)) fun t32=>
 cnd t32
  (bnd (afield 8 x3) fun t33=>
  bnd (aload false 1 t33 r30.2) fun t34=>
  bnd (aindexS 9 t34 (.int .i64 0)) fun t35=>
  bnd (aload true 9 t35 r30.2) fun t36=>
  bnd (afield 5 x1) fun t37=>
  bnd (aload false 1 t37 r30.2) fun t38=>
  bnd (afield 6 x1) fun t39=>
  bnd (aload false 1 t39 r30.2) fun t40=>
  bnd (c79 t36 t38 t40 r30.2) fun r41=>
  bnd (astoreU 9 x2 r41.1 r41.2) fun r_27=>
  bnd (aload true 9 x2 r_27.2) fun v2=>
  some (v2,r_27.2))
  (j59_2 x2 x3 r30.2)
theorem e59_1 (H0:Hp) (x1 x2 x3:AV) (H:Hp):j59_1 H0 x1 x2 x3 H=b59_1 c78 c79 (j59_2 H0) x1 x2 x3 H:=(CXM_eq [5,6,7,9] _ _ _ _).trans (by kernel_rfl)
theorem m59_1 {c78 dc78:A1} (hc78:L1 c78 dc78) {c79 dc79:A3} (hc79:L3 c79 dc79) {j59_2 dj59_2:A2} (hj59_2:L2 j59_2 dj59_2):L3 (b59_1 c78 c79 j59_2) (b59_1 dc78 dc79 dj59_2):=fun _ _ _ _=>
 bR fun _=>bR fun _=>bR fun _=>bR fun _=>bG (hc78 _ _) fun _=>bR fun _=>bR fun _=>bK (bR fun _=>bR fun _=>bR fun _=>bR fun _=>bR fun _=>bR fun _=>bR fun _=>bR fun _=>bC (hc79 _ _ _ _) fun _=>bR fun _=>bR fun _=>le_refl _) (hj59_2 _ _ _)
def b59_4 (j59_l1:A4) (x1 x2 x3 x4:AV) (H:Hp):Res:=
 bnd (ibin .add x4 (.int .i64 1)) fun t13=>
 j59_l1 x1 x2 x3 t13 H
theorem e59_4 (H0:Hp) (x1 x2 x3 x4:AV) (H:Hp):j59_4 H0 x1 x2 x3 x4 H=b59_4 (j59_l1 H0) x1 x2 x3 x4 H:=(CXM_eq [5,6,7,9] _ _ _ _).trans (by kernel_rfl)
theorem m59_4 {j59_l1 dj59_l1:A4} (hj59_l1:L4 j59_l1 dj59_l1):L4 (b59_4 j59_l1) (b59_4 dj59_l1):=fun _ _ _ _ _=>
 bR fun _=>hj59_l1 _ _ _ _ _
def b59_3 (j59_4:A4) (cV:AV→List AV→Hp→Res) (x1 x2 x3 x4:AV) (H:Hp):Res:=
 bnd (afield 8 x3) fun t14=>
 bnd (aload false 1 t14 H) fun t15=>
 bnd (afield 8 x1) fun t16=>
 bnd (aload false 1 t16 H) fun t17=>
 bnd (aindexS 9 t17 x4) fun t19=>
 bnd (aload true 9 t19 H) fun t20=>
 bnd (cV (.fn (.func 59) [] []) [t20] H) fun r21=>
 bnd ((setElems 9 [(0,r21.1)] [(.agg [(.int .i64 0),(.int .u64 0),(.int .u64 0),(.int .u64 0),(.int .u64 0),(.int .i64 0),(.int .i64 0),(.int .i64 0),.nils])]).map (.vs 9 .clip)) fun t22=>
 bnd (aappE 9 88 t15 t22 r21.2) fun r23=>
 bnd (afield 8 x3) fun t24=>
 bnd (astoreU 1 t24 r23.1 r23.2) fun r_40=>
 j59_4 x1 x2 x3 x4 r_40.2
theorem e59_3 (H0:Hp) (x1 x2 x3 x4:AV) (H:Hp):j59_3 H0 x1 x2 x3 x4 H=b59_3 (j59_4 H0) (acall cfg (callw cfg)) x1 x2 x3 x4 H:=(CXM_eq [5,6,7,9] _ _ _ _).trans (by kernel_rfl)
theorem m59_3 {j59_4 dj59_4:A4} (hj59_4:L4 j59_4 dj59_4) {cV dcV:AV→List AV→Hp→Res} (hcV:LV cV dcV):L4 (b59_3 j59_4 cV) (b59_3 dj59_4 dcV):=fun _ _ _ _ _=>
 bR fun _=>bR fun _=>bR fun _=>bR fun _=>bR fun _=>bR fun _=>bC (hcV _ _ _) fun _=>bR fun _=>bR fun _=>bR fun _=>bR fun _=>hj59_4 _ _ _ _ _
def b59_l1 (j59_1:A3) (j59_3:A4) (x1 x2 x3 x4:AV) (H:Hp):Res:=
 bnd (afield 8 x1) fun t8=>
 bnd (aload false 1 t8 H) fun t9=>
 bnd (alenD (.slice 41) t9) fun t10=>
 bnd (ibin .lss x4 t10) fun t11=>
 cnd t11
  (j59_3 x1 x2 x3 x4 H)
  (j59_1 x1 x2 x3 H)
theorem e59_l1 (H0:Hp) (x1 x2 x3 x4:AV) (H:Hp):j59_l1 H0 x1 x2 x3 x4 H=b59_l1 (j59_1 H0) (j59_3 H0) x1 x2 x3 x4 H:=(LPL_eqm (C:=cfg) [5,6,7,9] (tame_block 0 (k59_1_tame H0)) _ _).trans (by kernel_rfl)
theorem m59_l1 {j59_1 dj59_1:A3} (hj59_1:L3 j59_1 dj59_1) {j59_3 dj59_3:A4} (hj59_3:L4 j59_3 dj59_3):L4 (b59_l1 j59_1 j59_3) (b59_l1 dj59_1 dj59_3):=fun _ _ _ _ _=>
 bR fun _=>bR fun _=>bR fun _=>bR fun _=>bK (hj59_3 _ _ _ _ _) (hj59_1 _ _ _ _)
def rj59_2 (gV:AV→List AV→Hp→Res):A2:=b59_2
theorem sj59_2 (H0:Hp) {gV:AV→List AV→Hp→Res} (hV:LV gV (acall cfg (callw cfg))):L2 (rj59_2 gV) (j59_2 H0):=fun _ _ _=>le_eq (m59_2 _ _ _) (e59_2 H0 _ _ _)
def rj59_1 (gV:AV→List AV→Hp→Res):A3:=b59_1 rc78 rc79 (rj59_2 gV)
theorem sj59_1 (H0:Hp) {gV:AV→List AV→Hp→Res} (hV:LV gV (acall cfg (callw cfg))):L3 (rj59_1 gV) (j59_1 H0):=fun _ _ _ _=>le_eq (m59_1 sc78 sc79 (sj59_2 H0 hV) _ _ _ _) (e59_1 H0 _ _ _ _)
def rj59_4 (gV:AV→List AV→Hp→Res) (j59_l1:A4):A4:=b59_4 j59_l1
theorem sj59_4 (H0:Hp) {gV:AV→List AV→Hp→Res} (hV:LV gV (acall cfg (callw cfg))) {yj59_l1:A4} (hj59_l1:L4 yj59_l1 (j59_l1 H0)):L4 (rj59_4 gV yj59_l1) (j59_4 H0):=fun _ _ _ _ _=>le_eq (m59_4 hj59_l1 _ _ _ _ _) (e59_4 H0 _ _ _ _ _)
def rj59_3 (gV:AV→List AV→Hp→Res) (j59_l1:A4):A4:=b59_3 (rj59_4 gV j59_l1) gV
theorem sj59_3 (H0:Hp) {gV:AV→List AV→Hp→Res} (hV:LV gV (acall cfg (callw cfg))) {yj59_l1:A4} (hj59_l1:L4 yj59_l1 (j59_l1 H0)):L4 (rj59_3 gV yj59_l1) (j59_3 H0):=fun _ _ _ _ _=>le_eq (m59_3 (sj59_4 H0 hV hj59_l1) hV _ _ _ _ _) (e59_3 H0 _ _ _ _ _)
def rj59_l1 (gV:AV→List AV→Hp→Res) (n:Nat):A4:=@Nat.rec (fun _=>A4) (fun _ _ _ _ _=>none) (fun _ j59_l1=>b59_l1 (rj59_1 gV) (rj59_3 gV j59_l1)) n
theorem sj59_l1 (H0:Hp) {gV:AV→List AV→Hp→Res} (hV:LV gV (acall cfg (callw cfg))) (n:Nat):L4 (rj59_l1 gV n) (j59_l1 H0):=by
 induction n with
 | zero=>exact fun _ _ _ _ _=>le_none _
 | succ n hj59_l1=>exact fun _ _ _ _ _=>le_eq (m59_l1 (sj59_1 H0 hV) (sj59_3 H0 hV hj59_l1) _ _ _ _ _) (e59_l1 H0 _ _ _ _ _)
def bc59 (j59_l1:A4) (p0:AV) (H:Hp):Res:=
 bnd (abox p0 H) fun r1=>
 bnd (some ((.ptr r1.2.length 0),r1.2++[.cells [(.int .i64 0),(.int .u64 0),(.int .u64 0),(.int .u64 0),(.int .u64 0),(.int .i64 0),(.int .i64 0),(.int .i64 0),.nils]])) fun r2=>
 bnd (aload true 9 r1.1 r2.2) fun t5=>
 bnd (some ((.ptr r2.2.length 0),r2.2++[.cells [(.int .i64 0),(.int .u64 0),(.int .u64 0),(.int .u64 0),(.int .u64 0),(.int .i64 0),(.int .i64 0),(.int .i64 0),.nils]])) fun r3=>
 bnd (astoreU 9 r3.1 t5 r3.2) fun r_5=>
 bnd (afield 8 r3.1) fun t6=>
 bnd (astoreU 1 t6 .nils r_5.2) fun r_7=>
 j59_l1 r1.1 r2.1 r3.1 (.int .i64 0) r_7.2
theorem ec59 (p0:AV) (H:Hp):c59 p0 H=bc59 (j59_l1 H) p0 H:=(callw_cxm (C:=cfg) (fn:=Tryz.f59) (c:=bodyOf Tryz.f59) (n:=43) [5,6,7,9] Tryz.func59 (by kernel_rfl) (by kernel_rfl) [p0] (by kernel_rfl) H).trans (by kernel_rfl)
theorem mc59 {j59_l1 dj59_l1:A4} (hj59_l1:L4 j59_l1 dj59_l1):L1 (bc59 j59_l1) (bc59 dj59_l1):=fun _ _=>
 bR fun _=>bR fun _=>bR fun _=>bR fun _=>bR fun _=>bR fun _=>bR fun _=>hj59_l1 _ _ _ _ _
def rc59 (gV:AV→List AV→Hp→Res):A1:=fun p0 H=>bc59 (rj59_l1 gV 100000) p0 H
theorem sc59 {gV:AV→List AV→Hp→Res} (hV:LV gV (acall cfg (callw cfg))):L1 (rc59 gV) c59:=fun _ H=>le_eq (mc59 (sj59_l1 H hV 100000) _ _) (ec59 _ _)
def c103 (p0:AV) (H:Hp):Res:=callw cfg 103 [p0] H
def j103_1 (H0:Hp) (H:Hp):Res:=CXf 103 101 (sub (bodyOf Tryz.f103) [1,1,1,1,1]) (retL cfg 101 103 Tryz.f103 H0) [] H
def b103_1 (H:Hp):Res:=
 some ((.bool false),H)
theorem e103_1 (H0:Hp) (H:Hp):j103_1 H0 H=b103_1 H:=(CXM_eq [20] _ _ _ _).trans (by kernel_rfl)
theorem m103_1:L0 (b103_1) (b103_1):=fun _=>
 le_refl _
def rj103_1:A0:=b103_1
theorem sj103_1 (H0:Hp):L0 (rj103_1) (j103_1 H0):=fun _=>le_eq (m103_1 _) (e103_1 H0 _)
def bc103 (j103_1:A0) (p0:AV) (H:Hp):Res:=
 bnd (abox p0 H) fun r1=>
 bnd (some ((.ptr r1.2.length 0),r1.2++[.cells [(.int .u64 0),(.int .u64 0),(.int .u64 0),(.int .u64 0)]])) fun r3=>
 bnd (afield 8 r1.1) fun t8=>
 bnd (aload false 1 t8 r3.2) fun t9=>
 bnd (alenD (.slice 41) t9) fun t10=>
 bnd (afield 5 r1.1) fun t11=>
 bnd (aload false 1 t11 r3.2) fun t12=>
 bnd (ibin .eql t12 (.int .i64 0)) fun t13=>
 bnd (gdv t13 true (.tuple []) (afield 6 r1.1)) fun t15=>
 bnd (gdv t13 true (.tuple []) (aload false 1 t15 r3.2)) fun t16=>
 bnd (gdv t13 true (.tuple []) (ibin .eql t16 (.int .i64 0))) fun t17=>
 bnd (apick t13 t17 (.bool false)) fun t18=>
 bnd (afield 7 r1.1) fun t19=>
 bnd (aload false 1 t19 r3.2) fun t20=>
 bnd (ibin .eql t20 (.int .i64 0)) fun t21=>
 bnd (afield 1 r1.1) fun t22=>
 bnd (aload true 4 t22 r3.2) fun t23=>
 bnd (aload true 4 r3.1 r3.2) fun t24=>
 bnd (aeqBin Tryz.prog cfg.eqok .eql 38 t23 t24) fun t25=>
 bnd (afield 0 r1.1) fun t26=>
 bnd (aload false 1 t26 r3.2) fun t27=>
 bnd (ibin .eql t27 (.int .i64 1)) fun t29=>
 cnd t29
  (cnd t29
   (bnd (ibin .eql t10 (.int .i64 0)) fun t33=>
   bnd (gdv t33 true (.tuple []) (some t18)) fun t35=>
   bnd (apick t33 t35 (.bool false)) fun t36=>
   bnd (gdv t36 true (.tuple []) (some t21)) fun t38=>
   bnd (apick t36 t38 (.bool false)) fun t39=>
   bnd (gdv t39 true (.tuple []) (some t25)) fun t41=>
   bnd (apick t39 t41 (.bool false)) fun t42=>
   some (t42,r3.2))
   (bnd (ibin .eql t27 (.int .i64 2)) fun t44=>
   cnd t44
    (bnd (ibin .eql t10 (.int .i64 0)) fun t46=>
    bnd (gdv t46 true (.tuple []) (some t18)) fun t48=>
    bnd (apick t46 t48 (.bool false)) fun t49=>
    bnd (gdv t49 true (.tuple []) (some t21)) fun t51=>
    bnd (apick t49 t51 (.bool false)) fun t52=>
    bnd (gdv t52 true (.tuple []) (some t25)) fun t54=>
    bnd (gdv t52 true (.tuple []) (aun .not t54)) fun t55=>
    bnd (apick t52 t55 (.bool false)) fun t56=>
    some (t56,r3.2))
    (bnd (ibin .eql t27 (.int .i64 3)) fun t58=>
    cnd t58
     (cnd t58
      (bnd (ibin .geq t10 (.int .i64 2)) fun t61=>
      bnd (gdv t61 true (.tuple []) (some t18)) fun t63=>
      bnd (apick t61 t63 (.bool false)) fun t64=>
      bnd (gdv t64 true (.tuple []) (some t21)) fun t66=>
      bnd (apick t64 t66 (.bool false)) fun t67=>
      bnd (gdv t67 true (.tuple []) (some t25)) fun t69=>
      bnd (apick t67 t69 (.bool false)) fun t70=>
      some (t70,r3.2))
      (bnd (ibin .eql t27 (.int .i64 5)) fun t72=>
      cnd t72
       (bnd (ibin .eql t10 (.int .i64 1)) fun t74=>
       bnd (gdv t74 true (.tuple []) (some t21)) fun t76=>
       bnd (apick t74 t76 (.bool false)) fun t77=>
       bnd (gdv t77 true (.tuple []) (some t25)) fun t79=>
       bnd (apick t77 t79 (.bool false)) fun t80=>
       some (t80,r3.2))
       (bnd (ibin .eql t27 (.int .i64 6)) fun t82=>
       cnd t82
        (bnd (ibin .eql t10 (.int .i64 1)) fun t84=>
        bnd (gdv t84 true (.tuple []) (some t18)) fun t86=>
        bnd (apick t84 t86 (.bool false)) fun t87=>
        bnd (gdv t87 true (.tuple []) (some t25)) fun t89=>
        bnd (apick t87 t89 (.bool false)) fun t90=>
        some (t90,r3.2))
        (bnd (ibin .eql t27 (.int .i64 9)) fun t92=>
        cnd t92
         (bnd (ibin .eql t10 (.int .i64 0)) fun t94=>
         bnd (gdv t94 true (.tuple []) (some t18)) fun t96=>
         bnd (apick t94 t96 (.bool false)) fun t97=>
         bnd (gdv t97 true (.tuple []) (some t25)) fun t99=>
         bnd (apick t97 t99 (.bool false)) fun t100=>
         some (t100,r3.2))
         (j103_1 r3.2)))))
     (bnd (ibin .eql t27 (.int .i64 4)) fun t59=>
     cnd t59
      (bnd (ibin .geq t10 (.int .i64 2)) fun t61=>
      bnd (gdv t61 true (.tuple []) (some t18)) fun t63=>
      bnd (apick t61 t63 (.bool false)) fun t64=>
      bnd (gdv t64 true (.tuple []) (some t21)) fun t66=>
      bnd (apick t64 t66 (.bool false)) fun t67=>
      bnd (gdv t67 true (.tuple []) (some t25)) fun t69=>
      bnd (apick t67 t69 (.bool false)) fun t70=>
      some (t70,r3.2))
      (bnd (ibin .eql t27 (.int .i64 5)) fun t72=>
      cnd t72
       (bnd (ibin .eql t10 (.int .i64 1)) fun t74=>
       bnd (gdv t74 true (.tuple []) (some t21)) fun t76=>
       bnd (apick t74 t76 (.bool false)) fun t77=>
       bnd (gdv t77 true (.tuple []) (some t25)) fun t79=>
       bnd (apick t77 t79 (.bool false)) fun t80=>
       some (t80,r3.2))
       (bnd (ibin .eql t27 (.int .i64 6)) fun t82=>
       cnd t82
        (bnd (ibin .eql t10 (.int .i64 1)) fun t84=>
        bnd (gdv t84 true (.tuple []) (some t18)) fun t86=>
        bnd (apick t84 t86 (.bool false)) fun t87=>
        bnd (gdv t87 true (.tuple []) (some t25)) fun t89=>
        bnd (apick t87 t89 (.bool false)) fun t90=>
        some (t90,r3.2))
        (bnd (ibin .eql t27 (.int .i64 9)) fun t92=>
        cnd t92
         (bnd (ibin .eql t10 (.int .i64 0)) fun t94=>
         bnd (gdv t94 true (.tuple []) (some t18)) fun t96=>
         bnd (apick t94 t96 (.bool false)) fun t97=>
         bnd (gdv t97 true (.tuple []) (some t25)) fun t99=>
         bnd (apick t97 t99 (.bool false)) fun t100=>
         some (t100,r3.2))
         (j103_1 r3.2))))))))
  (bnd (ibin .eql t27 (.int .i64 7)) fun t30=>
  cnd t30
   (cnd t30
    (bnd (ibin .eql t10 (.int .i64 0)) fun t33=>
    bnd (gdv t33 true (.tuple []) (some t18)) fun t35=>
    bnd (apick t33 t35 (.bool false)) fun t36=>
    bnd (gdv t36 true (.tuple []) (some t21)) fun t38=>
    bnd (apick t36 t38 (.bool false)) fun t39=>
    bnd (gdv t39 true (.tuple []) (some t25)) fun t41=>
    bnd (apick t39 t41 (.bool false)) fun t42=>
    some (t42,r3.2))
    (bnd (ibin .eql t27 (.int .i64 2)) fun t44=>
    cnd t44
     (bnd (ibin .eql t10 (.int .i64 0)) fun t46=>
     bnd (gdv t46 true (.tuple []) (some t18)) fun t48=>
     bnd (apick t46 t48 (.bool false)) fun t49=>
     bnd (gdv t49 true (.tuple []) (some t21)) fun t51=>
     bnd (apick t49 t51 (.bool false)) fun t52=>
     bnd (gdv t52 true (.tuple []) (some t25)) fun t54=>
     bnd (gdv t52 true (.tuple []) (aun .not t54)) fun t55=>
     bnd (apick t52 t55 (.bool false)) fun t56=>
     some (t56,r3.2))
     (bnd (ibin .eql t27 (.int .i64 3)) fun t58=>
     cnd t58
      (cnd t58
       (bnd (ibin .geq t10 (.int .i64 2)) fun t61=>
       bnd (gdv t61 true (.tuple []) (some t18)) fun t63=>
       bnd (apick t61 t63 (.bool false)) fun t64=>
       bnd (gdv t64 true (.tuple []) (some t21)) fun t66=>
       bnd (apick t64 t66 (.bool false)) fun t67=>
       bnd (gdv t67 true (.tuple []) (some t25)) fun t69=>
       bnd (apick t67 t69 (.bool false)) fun t70=>
       some (t70,r3.2))
       (bnd (ibin .eql t27 (.int .i64 5)) fun t72=>
       cnd t72
        (bnd (ibin .eql t10 (.int .i64 1)) fun t74=>
        bnd (gdv t74 true (.tuple []) (some t21)) fun t76=>
        bnd (apick t74 t76 (.bool false)) fun t77=>
        bnd (gdv t77 true (.tuple []) (some t25)) fun t79=>
        bnd (apick t77 t79 (.bool false)) fun t80=>
        some (t80,r3.2))
        (bnd (ibin .eql t27 (.int .i64 6)) fun t82=>
        cnd t82
         (bnd (ibin .eql t10 (.int .i64 1)) fun t84=>
         bnd (gdv t84 true (.tuple []) (some t18)) fun t86=>
         bnd (apick t84 t86 (.bool false)) fun t87=>
         bnd (gdv t87 true (.tuple []) (some t25)) fun t89=>
         bnd (apick t87 t89 (.bool false)) fun t90=>
         some (t90,r3.2))
         (bnd (ibin .eql t27 (.int .i64 9)) fun t92=>
         cnd t92
          (bnd (ibin .eql t10 (.int .i64 0)) fun t94=>
          bnd (gdv t94 true (.tuple []) (some t18)) fun t96=>
          bnd (apick t94 t96 (.bool false)) fun t97=>
          bnd (gdv t97 true (.tuple []) (some t25)) fun t99=>
          bnd (apick t97 t99 (.bool false)) fun t100=>
          some (t100,r3.2))
          (j103_1 r3.2)))))
      (bnd (ibin .eql t27 (.int .i64 4)) fun t59=>
      cnd t59
       (bnd (ibin .geq t10 (.int .i64 2)) fun t61=>
       bnd (gdv t61 true (.tuple []) (some t18)) fun t63=>
       bnd (apick t61 t63 (.bool false)) fun t64=>
       bnd (gdv t64 true (.tuple []) (some t21)) fun t66=>
       bnd (apick t64 t66 (.bool false)) fun t67=>
       bnd (gdv t67 true (.tuple []) (some t25)) fun t69=>
       bnd (apick t67 t69 (.bool false)) fun t70=>
       some (t70,r3.2))
       (bnd (ibin .eql t27 (.int .i64 5)) fun t72=>
       cnd t72
        (bnd (ibin .eql t10 (.int .i64 1)) fun t74=>
        bnd (gdv t74 true (.tuple []) (some t21)) fun t76=>
        bnd (apick t74 t76 (.bool false)) fun t77=>
        bnd (gdv t77 true (.tuple []) (some t25)) fun t79=>
        bnd (apick t77 t79 (.bool false)) fun t80=>
        some (t80,r3.2))
        (bnd (ibin .eql t27 (.int .i64 6)) fun t82=>
        cnd t82
         (bnd (ibin .eql t10 (.int .i64 1)) fun t84=>
         bnd (gdv t84 true (.tuple []) (some t18)) fun t86=>
         bnd (apick t84 t86 (.bool false)) fun t87=>
         bnd (gdv t87 true (.tuple []) (some t25)) fun t89=>
         bnd (apick t87 t89 (.bool false)) fun t90=>
         some (t90,r3.2))
         (bnd (ibin .eql t27 (.int .i64 9)) fun t92=>
         cnd t92
          (bnd (ibin .eql t10 (.int .i64 0)) fun t94=>
          bnd (gdv t94 true (.tuple []) (some t18)) fun t96=>
          bnd (apick t94 t96 (.bool false)) fun t97=>
          bnd (gdv t97 true (.tuple []) (some t25)) fun t99=>
          bnd (apick t97 t99 (.bool false)) fun t100=>
          some (t100,r3.2))
          (j103_1 r3.2))))))))
   (bnd (ibin .eql t27 (.int .i64 8)) fun t31=>
   cnd t31
    (bnd (ibin .eql t10 (.int .i64 0)) fun t33=>
    bnd (gdv t33 true (.tuple []) (some t18)) fun t35=>
    bnd (apick t33 t35 (.bool false)) fun t36=>
    bnd (gdv t36 true (.tuple []) (some t21)) fun t38=>
    bnd (apick t36 t38 (.bool false)) fun t39=>
    bnd (gdv t39 true (.tuple []) (some t25)) fun t41=>
    bnd (apick t39 t41 (.bool false)) fun t42=>
    some (t42,r3.2))
    (bnd (ibin .eql t27 (.int .i64 2)) fun t44=>
    cnd t44
     (bnd (ibin .eql t10 (.int .i64 0)) fun t46=>
     bnd (gdv t46 true (.tuple []) (some t18)) fun t48=>
     bnd (apick t46 t48 (.bool false)) fun t49=>
     bnd (gdv t49 true (.tuple []) (some t21)) fun t51=>
     bnd (apick t49 t51 (.bool false)) fun t52=>
     bnd (gdv t52 true (.tuple []) (some t25)) fun t54=>
     bnd (gdv t52 true (.tuple []) (aun .not t54)) fun t55=>
     bnd (apick t52 t55 (.bool false)) fun t56=>
     some (t56,r3.2))
     (bnd (ibin .eql t27 (.int .i64 3)) fun t58=>
     cnd t58
      (cnd t58
       (bnd (ibin .geq t10 (.int .i64 2)) fun t61=>
       bnd (gdv t61 true (.tuple []) (some t18)) fun t63=>
       bnd (apick t61 t63 (.bool false)) fun t64=>
       bnd (gdv t64 true (.tuple []) (some t21)) fun t66=>
       bnd (apick t64 t66 (.bool false)) fun t67=>
       bnd (gdv t67 true (.tuple []) (some t25)) fun t69=>
       bnd (apick t67 t69 (.bool false)) fun t70=>
       some (t70,r3.2))
       (bnd (ibin .eql t27 (.int .i64 5)) fun t72=>
       cnd t72
        (bnd (ibin .eql t10 (.int .i64 1)) fun t74=>
        bnd (gdv t74 true (.tuple []) (some t21)) fun t76=>
        bnd (apick t74 t76 (.bool false)) fun t77=>
        bnd (gdv t77 true (.tuple []) (some t25)) fun t79=>
        bnd (apick t77 t79 (.bool false)) fun t80=>
        some (t80,r3.2))
        (bnd (ibin .eql t27 (.int .i64 6)) fun t82=>
        cnd t82
         (bnd (ibin .eql t10 (.int .i64 1)) fun t84=>
         bnd (gdv t84 true (.tuple []) (some t18)) fun t86=>
         bnd (apick t84 t86 (.bool false)) fun t87=>
         bnd (gdv t87 true (.tuple []) (some t25)) fun t89=>
         bnd (apick t87 t89 (.bool false)) fun t90=>
         some (t90,r3.2))
         (bnd (ibin .eql t27 (.int .i64 9)) fun t92=>
         cnd t92
          (bnd (ibin .eql t10 (.int .i64 0)) fun t94=>
          bnd (gdv t94 true (.tuple []) (some t18)) fun t96=>
          bnd (apick t94 t96 (.bool false)) fun t97=>
          bnd (gdv t97 true (.tuple []) (some t25)) fun t99=>
          bnd (apick t97 t99 (.bool false)) fun t100=>
          some (t100,r3.2))
          (j103_1 r3.2)))))
      (bnd (ibin .eql t27 (.int .i64 4)) fun t59=>
      cnd t59
       (bnd (ibin .geq t10 (.int .i64 2)) fun t61=>
       bnd (gdv t61 true (.tuple []) (some t18)) fun t63=>
       bnd (apick t61 t63 (.bool false)) fun t64=>
       bnd (gdv t64 true (.tuple []) (some t21)) fun t66=>
       bnd (apick t64 t66 (.bool false)) fun t67=>
       bnd (gdv t67 true (.tuple []) (some t25)) fun t69=>
       bnd (apick t67 t69 (.bool false)) fun t70=>
       some (t70,r3.2))
       (bnd (ibin .eql t27 (.int .i64 5)) fun t72=>
       cnd t72
        (bnd (ibin .eql t10 (.int .i64 1)) fun t74=>
        bnd (gdv t74 true (.tuple []) (some t21)) fun t76=>
        bnd (apick t74 t76 (.bool false)) fun t77=>
        bnd (gdv t77 true (.tuple []) (some t25)) fun t79=>
        bnd (apick t77 t79 (.bool false)) fun t80=>
        some (t80,r3.2))
        (bnd (ibin .eql t27 (.int .i64 6)) fun t82=>
        cnd t82
         (bnd (ibin .eql t10 (.int .i64 1)) fun t84=>
         bnd (gdv t84 true (.tuple []) (some t18)) fun t86=>
         bnd (apick t84 t86 (.bool false)) fun t87=>
         bnd (gdv t87 true (.tuple []) (some t25)) fun t89=>
         bnd (apick t87 t89 (.bool false)) fun t90=>
         some (t90,r3.2))
         (bnd (ibin .eql t27 (.int .i64 9)) fun t92=>
         cnd t92
          (bnd (ibin .eql t10 (.int .i64 0)) fun t94=>
          bnd (gdv t94 true (.tuple []) (some t18)) fun t96=>
          bnd (apick t94 t96 (.bool false)) fun t97=>
          bnd (gdv t97 true (.tuple []) (some t25)) fun t99=>
          bnd (apick t97 t99 (.bool false)) fun t100=>
          some (t100,r3.2))
          (j103_1 r3.2)))))))))
theorem ec103 (p0:AV) (H:Hp):c103 p0 H=bc103 (j103_1 H) p0 H:=(callw_cxm (C:=cfg) (fn:=Tryz.f103) (c:=bodyOf Tryz.f103) (n:=101) [20] Tryz.func103 (by kernel_rfl) (by kernel_rfl) [p0] (by kernel_rfl) H).trans (by kernel_rfl)
theorem mc103 {j103_1 dj103_1:A0} (hj103_1:L0 j103_1 dj103_1):L1 (bc103 j103_1) (bc103 dj103_1):=fun _ _=>
 bR fun _=>bR fun _=>bR fun _=>bR fun _=>bR fun _=>bR fun _=>bR fun _=>bR fun _=>bR fun _=>bR fun _=>bR fun _=>bR fun _=>bR fun _=>bR fun _=>bR fun _=>bR fun _=>bR fun _=>bR fun _=>bR fun _=>bR fun _=>bR fun _=>bR fun _=>bK (bK (bR fun _=>bR fun _=>bR fun _=>bR fun _=>bR fun _=>bR fun _=>bR fun _=>le_refl _) (bR fun _=>bK (bR fun _=>bR fun _=>bR fun _=>bR fun _=>bR fun _=>bR fun _=>bR fun _=>bR fun _=>le_refl _) (bR fun _=>bK (bK (bR fun _=>bR fun _=>bR fun _=>bR fun _=>bR fun _=>bR fun _=>bR fun _=>le_refl _) (bR fun _=>bK (bR fun _=>bR fun _=>bR fun _=>bR fun _=>bR fun _=>le_refl _) (bR fun _=>bK (bR fun _=>bR fun _=>bR fun _=>bR fun _=>bR fun _=>le_refl _) (bR fun _=>bK (bR fun _=>bR fun _=>bR fun _=>bR fun _=>bR fun _=>le_refl _) (hj103_1 _))))) (bR fun _=>bK (bR fun _=>bR fun _=>bR fun _=>bR fun _=>bR fun _=>bR fun _=>bR fun _=>le_refl _) (bR fun _=>bK (bR fun _=>bR fun _=>bR fun _=>bR fun _=>bR fun _=>le_refl _) (bR fun _=>bK (bR fun _=>bR fun _=>bR fun _=>bR fun _=>bR fun _=>le_refl _) (bR fun _=>bK (bR fun _=>bR fun _=>bR fun _=>bR fun _=>bR fun _=>le_refl _) (hj103_1 _)))))))) (bR fun _=>bK (bK (bR fun _=>bR fun _=>bR fun _=>bR fun _=>bR fun _=>bR fun _=>bR fun _=>le_refl _) (bR fun _=>bK (bR fun _=>bR fun _=>bR fun _=>bR fun _=>bR fun _=>bR fun _=>bR fun _=>bR fun _=>le_refl _) (bR fun _=>bK (bK (bR fun _=>bR fun _=>bR fun _=>bR fun _=>bR fun _=>bR fun _=>bR fun _=>le_refl _) (bR fun _=>bK (bR fun _=>bR fun _=>bR fun _=>bR fun _=>bR fun _=>le_refl _) (bR fun _=>bK (bR fun _=>bR fun _=>bR fun _=>bR fun _=>bR fun _=>le_refl _) (bR fun _=>bK (bR fun _=>bR fun _=>bR fun _=>bR fun _=>bR fun _=>le_refl _) (hj103_1 _))))) (bR fun _=>bK (bR fun _=>bR fun _=>bR fun _=>bR fun _=>bR fun _=>bR fun _=>bR fun _=>le_refl _) (bR fun _=>bK (bR fun _=>bR fun _=>bR fun _=>bR fun _=>bR fun _=>le_refl _) (bR fun _=>bK (bR fun _=>bR fun _=>bR fun _=>bR fun _=>bR fun _=>le_refl _) (bR fun _=>bK (bR fun _=>bR fun _=>bR fun _=>bR fun _=>bR fun _=>le_refl _) (hj103_1 _)))))))) (bR fun _=>bK (bR fun _=>bR fun _=>bR fun _=>bR fun _=>bR fun _=>bR fun _=>bR fun _=>le_refl _) (bR fun _=>bK (bR fun _=>bR fun _=>bR fun _=>bR fun _=>bR fun _=>bR fun _=>bR fun _=>bR fun _=>le_refl _) (bR fun _=>bK (bK (bR fun _=>bR fun _=>bR fun _=>bR fun _=>bR fun _=>bR fun _=>bR fun _=>le_refl _) (bR fun _=>bK (bR fun _=>bR fun _=>bR fun _=>bR fun _=>bR fun _=>le_refl _) (bR fun _=>bK (bR fun _=>bR fun _=>bR fun _=>bR fun _=>bR fun _=>le_refl _) (bR fun _=>bK (bR fun _=>bR fun _=>bR fun _=>bR fun _=>bR fun _=>le_refl _) (hj103_1 _))))) (bR fun _=>bK (bR fun _=>bR fun _=>bR fun _=>bR fun _=>bR fun _=>bR fun _=>bR fun _=>le_refl _) (bR fun _=>bK (bR fun _=>bR fun _=>bR fun _=>bR fun _=>bR fun _=>le_refl _) (bR fun _=>bK (bR fun _=>bR fun _=>bR fun _=>bR fun _=>bR fun _=>le_refl _) (bR fun _=>bK (bR fun _=>bR fun _=>bR fun _=>bR fun _=>bR fun _=>le_refl _) (hj103_1 _)))))))))
def rc103:A1:=fun p0 H=>bc103 (rj103_1) p0 H
theorem sc103:L1 rc103 c103:=fun _ H=>le_eq (mc103 (sj103_1 H) _ _) (ec103 _ _)

def c80 (p0 p1:AV) (H:Hp):Res:=callw cfg 80 [p0,p1] H
def j80_3 (H0:Hp) (x7:AV) (H:Hp):Res:=CXf 80 145 (sub (bodyOf Tryz.f80) [1,1,1,1,1,1,1]) (retL cfg 145 80 Tryz.f80 H0) [(7,x7)] H
def j80_2 (H0:Hp) (x0 x3 x6 x7:AV) (H:Hp):Res:=CXf 80 145 (sub (bodyOf Tryz.f80) [1,1,1,1,1,1]) (retL cfg 145 80 Tryz.f80 H0) [(0,x0),(3,x3),(6,x6),(7,x7)] H
def k80_1 (H0:Hp):KL:=seqL (fun k al H=>CXf 80 145 (sub (bodyOf Tryz.f80) [1,1,1,1,1,1]) k (trimL (cfg.keep 80) (sub (bodyOf Tryz.f80) [1,1,1,1,1,1]) al) H) (retL cfg 145 80 Tryz.f80 H0)
theorem k80_1_tame (H0:Hp):Tame 145 (k80_1 H0):=tame_seq (C:=cfg) (kp:=cfg.keep 80) (sub (bodyOf Tryz.f80) [1,1,1,1,1,1]) (tame_ret 80 Tryz.f80 H0)
def j80_5 (H0:Hp) (x0 x3 x6 x7 x117 x118 x119:AV) (H:Hp):Res:=CXf 80 145 (sub (bodyOf Tryz.f80) [1,1,1,1,1,0,1,0,0,1,1,1]) (seqL (fun k al H=>LPf 80 145 (sub (bodyOf Tryz.f80) [1,1,1,1,1,0,1,0,0]) k (trimL (cfg.keep 80) (sub (bodyOf Tryz.f80) [1,1,1,1,1,0,1,0,0]) al) H) (blockL 1 (k80_1 H0))) [(0,x0),(3,x3),(6,x6),(7,x7),(117,x117),(118,x118),(119,x119)] H
def j80_4 (H0:Hp) (x0 x3 x6 x7 x117 x118 x119 x120:AV) (H:Hp):Res:=CXf 80 145 (sub (bodyOf Tryz.f80) [1,1,1,1,1,0,1,0,0,1,1]) (seqL (fun k al H=>LPf 80 145 (sub (bodyOf Tryz.f80) [1,1,1,1,1,0,1,0,0]) k (trimL (cfg.keep 80) (sub (bodyOf Tryz.f80) [1,1,1,1,1,0,1,0,0]) al) H) (blockL 1 (k80_1 H0))) [(0,x0),(3,x3),(6,x6),(7,x7),(117,x117),(118,x118),(119,x119),(120,x120)] H
def j80_l1 (H0:Hp) (x0 x3 x6 x7 x117 x118 x119:AV) (H:Hp):Res:=LPf 80 145 (sub (bodyOf Tryz.f80) [1,1,1,1,1,0,1,0,0]) (blockL 1 (k80_1 H0)) [(0,x0),(3,x3),(6,x6),(7,x7),(117,x117),(118,x118),(119,x119)] H
def j80_1 (H0:Hp) (x0 x3:AV) (H:Hp):Res:=CXf 80 145 (sub (bodyOf Tryz.f80) [1,1,1,1]) (retL cfg 145 80 Tryz.f80 H0) [(0,x0),(3,x3)] H
def b80_3 (x7:AV) (H:Hp):Res:=
 bnd (ibin .add x7 (.int .i64 1)) fun t144=>
 some (t144,H)
theorem e80_3 (H0:Hp) (x7:AV) (H:Hp):j80_3 H0 x7 H=b80_3 x7 H:=(CXM_eq [12,15,17,18,20] _ _ _ _).trans (by kernel_rfl)
theorem m80_3:L1 (b80_3) (b80_3):=fun _ _=>
 bR fun _=>le_refl _
def b80_2 (j80_3:A1) (x0 x3 x6 x7:AV) (H:Hp):Res:=
 bnd (afield 0 x3) fun t129=>
 bnd (aload false 1 t129 H) fun t130=>
 bnd (ibin .eql t130 (.int .i64 6)) fun t131=>
 bnd (gdv t131 true (.tuple []) (afield 7 x3)) fun t133=>
 bnd (gdv t131 true (.tuple []) (aload false 1 t133 H)) fun t134=>
 bnd (gdv t131 true (.tuple []) (some x6)) fun t135=>
 bnd (gdv t131 true (.tuple []) (ibin .eql t134 t135)) fun t136=>
 bnd (apick t131 t136 (.bool false)) fun t137=>
 cnd t137
  (bnd (anil x0) fun t139=>
  bnd (afield 6 t139) fun t140=>
  bnd (aload false 1 t140 H) fun t141=>
  bnd (amapSet (.int .i64) t141 x6 (.bool true) H) fun r_34=>
  j80_3 x7 r_34.2)
  (j80_3 x7 H)
theorem e80_2 (H0:Hp) (x0 x3 x6 x7:AV) (H:Hp):j80_2 H0 x0 x3 x6 x7 H=b80_2 (j80_3 H0) x0 x3 x6 x7 H:=(CXM_eq [12,15,17,18,20] _ _ _ _).trans (by kernel_rfl)
theorem m80_2 {j80_3 dj80_3:A1} (hj80_3:L1 j80_3 dj80_3):L4 (b80_2 j80_3) (b80_2 dj80_3):=fun _ _ _ _ _=>
 bR fun _=>bR fun _=>bR fun _=>bR fun _=>bR fun _=>bR fun _=>bR fun _=>bR fun _=>bK (bR fun _=>bR fun _=>bR fun _=>bR fun _=>hj80_3 _ _) (hj80_3 _ _)
def b80_5 (j80_l1:A7) (x0 x3 x6 x7 x117 x118 x119:AV) (H:Hp):Res:=
 bnd (ibin .add x119 (.int .i64 1)) fun t128=>
 j80_l1 x0 x3 x6 x7 x117 x118 t128 H
theorem e80_5 (H0:Hp) (x0 x3 x6 x7 x117 x118 x119:AV) (H:Hp):j80_5 H0 x0 x3 x6 x7 x117 x118 x119 H=b80_5 (j80_l1 H0) x0 x3 x6 x7 x117 x118 x119 H:=(CXM_eq [12,15,17,18,20] _ _ _ _).trans (by kernel_rfl)
theorem m80_5 {j80_l1 dj80_l1:A7} (hj80_l1:L7 j80_l1 dj80_l1):L7 (b80_5 j80_l1) (b80_5 dj80_l1):=fun _ _ _ _ _ _ _ _=>
 bR fun _=>hj80_l1 _ _ _ _ _ _ _ _
def b80_4 (j80_5:A7) (cV:AV→List AV→Hp→Res) (x0 x3 x6 x7 x117 x118 x119 x120:AV) (H:Hp):Res:=
 bnd (aindexS 9 x117 x119) fun t121=>
 bnd (aload true 9 t121 H) fun t122=>
 bnd (some ((.ptr H.length 0),H++[.cells [(.int .i64 0),(.int .u64 0),(.int .u64 0),(.int .u64 0),(.int .u64 0),(.int .i64 0),(.int .i64 0),(.int .i64 0),.nils]])) fun r9=>
 bnd (astoreU 9 r9.1 t122 r9.2) fun r_43=>
 bnd (aload true 9 r9.1 r_43.2) fun t125=>
 bnd (cV (.fn (.func 80) [] []) [x0,t125] r_43.2) fun r126=>
 bnd (amax2 x7 r126.1) fun t127=>
 j80_5 x0 x3 x6 t127 x117 x118 x119 r126.2
theorem e80_4 (H0:Hp) (x0 x3 x6 x7 x117 x118 x119 x120:AV) (H:Hp):j80_4 H0 x0 x3 x6 x7 x117 x118 x119 x120 H=b80_4 (j80_5 H0) (acall cfg (callw cfg)) x0 x3 x6 x7 x117 x118 x119 x120 H:=(CXM_eq [12,15,17,18,20] _ _ _ _).trans (by kernel_rfl)
theorem m80_4 {j80_5 dj80_5:A7} (hj80_5:L7 j80_5 dj80_5) {cV dcV:AV→List AV→Hp→Res} (hcV:LV cV dcV):L8 (b80_4 j80_5 cV) (b80_4 dj80_5 dcV):=fun _ _ _ _ _ _ _ _ _=>
 bR fun _=>bR fun _=>bR fun _=>bR fun _=>bR fun _=>bC (hcV _ _ _) fun _=>bR fun _=>hj80_5 _ _ _ _ _ _ _ _
def b80_l1 (j80_2:A4) (j80_4:A8) (x0 x3 x6 x7 x117 x118 x119:AV) (H:Hp):Res:=
 bnd (ibin .lss x119 x118) fun t120=>
 cnd t120
  (j80_4 x0 x3 x6 x7 x117 x118 x119 t120 H)
  (j80_2 x0 x3 x6 x7 H)
theorem e80_l1 (H0:Hp) (x0 x3 x6 x7 x117 x118 x119:AV) (H:Hp):j80_l1 H0 x0 x3 x6 x7 x117 x118 x119 H=b80_l1 (j80_2 H0) (j80_4 H0) x0 x3 x6 x7 x117 x118 x119 H:=(LPL_eqm (C:=cfg) [12,15,17,18,20] (tame_block 1 (k80_1_tame H0)) _ _).trans (by kernel_rfl)
theorem m80_l1 {j80_2 dj80_2:A4} (hj80_2:L4 j80_2 dj80_2) {j80_4 dj80_4:A8} (hj80_4:L8 j80_4 dj80_4):L7 (b80_l1 j80_2 j80_4) (b80_l1 dj80_2 dj80_4):=fun _ _ _ _ _ _ _ _=>
 bR fun _=>bK (hj80_4 _ _ _ _ _ _ _ _ _) (hj80_2 _ _ _ _ _)
def b80_1 (j80_l1:A7) (x0 x3:AV) (H:Hp):Res:=
 bnd (anil x0) fun t113=>
 bnd (afield 4 t113) fun t114=>
 bnd (aload false 1 t114 H) fun t115=>
 bnd (afield 8 x3) fun t116=>
 bnd (aload false 1 t116 H) fun t117=>
 bnd (alenD (.slice 41) t117) fun t118=>
 j80_l1 x0 x3 t115 (.int .i64 0) t117 t118 (.int .i64 0) H
theorem e80_1 (H0:Hp) (x0 x3:AV) (H:Hp):j80_1 H0 x0 x3 H=b80_1 (j80_l1 H0) x0 x3 H:=(CXM_eq [12,15,17,18,20] _ _ _ _).trans (by kernel_rfl)
theorem m80_1 {j80_l1 dj80_l1:A7} (hj80_l1:L7 j80_l1 dj80_l1):L2 (b80_1 j80_l1) (b80_1 dj80_l1):=fun _ _ _=>
 bR fun _=>bR fun _=>bR fun _=>bR fun _=>bR fun _=>bR fun _=>hj80_l1 _ _ _ _ _ _ _ _
def rj80_3 (gV:AV→List AV→Hp→Res):A1:=b80_3
theorem sj80_3 (H0:Hp) {gV:AV→List AV→Hp→Res} (hV:LV gV (acall cfg (callw cfg))):L1 (rj80_3 gV) (j80_3 H0):=fun _ _=>le_eq (m80_3 _ _) (e80_3 H0 _ _)
def rj80_2 (gV:AV→List AV→Hp→Res):A4:=b80_2 (rj80_3 gV)
theorem sj80_2 (H0:Hp) {gV:AV→List AV→Hp→Res} (hV:LV gV (acall cfg (callw cfg))):L4 (rj80_2 gV) (j80_2 H0):=fun _ _ _ _ _=>le_eq (m80_2 (sj80_3 H0 hV) _ _ _ _ _) (e80_2 H0 _ _ _ _ _)
def rj80_5 (gV:AV→List AV→Hp→Res) (j80_l1:A7):A7:=b80_5 j80_l1
theorem sj80_5 (H0:Hp) {gV:AV→List AV→Hp→Res} (hV:LV gV (acall cfg (callw cfg))) {yj80_l1:A7} (hj80_l1:L7 yj80_l1 (j80_l1 H0)):L7 (rj80_5 gV yj80_l1) (j80_5 H0):=fun _ _ _ _ _ _ _ _=>le_eq (m80_5 hj80_l1 _ _ _ _ _ _ _ _) (e80_5 H0 _ _ _ _ _ _ _ _)
def rj80_4 (gV:AV→List AV→Hp→Res) (j80_l1:A7):A8:=b80_4 (rj80_5 gV j80_l1) gV
theorem sj80_4 (H0:Hp) {gV:AV→List AV→Hp→Res} (hV:LV gV (acall cfg (callw cfg))) {yj80_l1:A7} (hj80_l1:L7 yj80_l1 (j80_l1 H0)):L8 (rj80_4 gV yj80_l1) (j80_4 H0):=fun _ _ _ _ _ _ _ _ _=>le_eq (m80_4 (sj80_5 H0 hV hj80_l1) hV _ _ _ _ _ _ _ _ _) (e80_4 H0 _ _ _ _ _ _ _ _ _)
def rj80_l1 (gV:AV→List AV→Hp→Res) (n:Nat):A7:=@Nat.rec (fun _=>A7) (fun _ _ _ _ _ _ _ _=>none) (fun _ j80_l1=>b80_l1 (rj80_2 gV) (rj80_4 gV j80_l1)) n
theorem sj80_l1 (H0:Hp) {gV:AV→List AV→Hp→Res} (hV:LV gV (acall cfg (callw cfg))) (n:Nat):L7 (rj80_l1 gV n) (j80_l1 H0):=by
 induction n with
 | zero=>exact fun _ _ _ _ _ _ _ _=>le_none _
 | succ n hj80_l1=>exact fun _ _ _ _ _ _ _ _=>le_eq (m80_l1 (sj80_2 H0 hV) (sj80_4 H0 hV hj80_l1) _ _ _ _ _ _ _ _) (e80_l1 H0 _ _ _ _ _ _ _ _)
def rj80_1 (gV:AV→List AV→Hp→Res):A2:=b80_1 (rj80_l1 gV 100000)
theorem sj80_1 (H0:Hp) {gV:AV→List AV→Hp→Res} (hV:LV gV (acall cfg (callw cfg))):L2 (rj80_1 gV) (j80_1 H0):=fun _ _ _=>le_eq (m80_1 (sj80_l1 H0 hV 100000) _ _ _) (e80_1 H0 _ _ _)
def bc80 (c103:A1) (j80_1:A2) (p0 p1:AV) (H:Hp):Res:=
 bnd (abox p1 H) fun r3=>
 bnd (anil p0) fun t11=>
 bnd (afield 3 t11) fun t12=>
 bnd (aload false 1 t12 r3.2) fun t13=>
 bnd (ibin .add t13 (.int .i64 1)) fun t14=>
 bnd (anil p0) fun t15=>
 bnd (afield 3 t15) fun t16=>
 bnd (astoreU 1 t16 t14 r3.2) fun r_8=>
 bnd (anil p0) fun t19=>
 bnd (afield 0 t19) fun t20=>
 bnd (aload false 1 t20 r_8.2) fun t21=>
 bnd (gdv t21 false (.tuple []) (aload true 9 r3.1 r_8.2)) fun t23=>
 bnd (gdv t21 false ((.tuple []),r_8.2) (c103 t23 r_8.2)) fun r24=>
 bnd (gdv t21 false (.tuple []) (aun .not r24.1)) fun t25=>
 bnd (apick t21 (.bool true) t25) fun t26=>
 bnd (anil p0) fun t27=>
 bnd (afield 0 t27) fun t28=>
 bnd (astoreU 1 t28 t26 r24.2) fun r_18=>
 bnd (afield 0 r3.1) fun t29=>
 bnd (aload false 1 t29 r_18.2) fun t30=>
 bnd (ibin .eql t30 (.int .i64 5)) fun t32=>
 cnd t32
  (bnd (afield 5 r3.1) fun t33=>
  bnd (aload false 1 t33 r_18.2) fun t34=>
  bnd (ibin .lss t34 (.int .i64 0)) fun t35=>
  bnd (gdv t35 false (.tuple []) (afield 5 r3.1)) fun t37=>
  bnd (gdv t35 false (.tuple []) (aload false 1 t37 r_18.2)) fun t38=>
  bnd (gdv t35 false (.tuple []) (ibin .gtr t38 (.int .i64 64))) fun t39=>
  bnd (apick t35 (.bool true) t39) fun t40=>
  bnd (gdv t40 false (.tuple []) (afield 6 r3.1)) fun t42=>
  bnd (gdv t40 false (.tuple []) (aload false 1 t42 r_18.2)) fun t43=>
  bnd (gdv t40 false (.tuple []) (ibin .neq t43 (.int .i64 (-1)))) fun t44=>
  bnd (gdv t40 false (.tuple []) (some t44)) fun t45=>
  bnd (gdv t45 true (.tuple []) (afield 6 r3.1)) fun t46=>
  bnd (gdv t45 true (.tuple []) (aload false 1 t46 r_18.2)) fun t47=>
  bnd (gdv t45 true (.tuple []) (afield 5 r3.1)) fun t48=>
  bnd (gdv t45 true (.tuple []) (aload false 1 t48 r_18.2)) fun t49=>
  bnd (gdv t45 true (.tuple []) (ibin .lss t47 t49)) fun t50=>
  bnd (gdv t45 true (.tuple []) (some t50)) fun t51=>
  bnd (gdv t51 false (.tuple []) (afield 6 r3.1)) fun t52=>
  bnd (gdv t51 false (.tuple []) (aload false 1 t52 r_18.2)) fun t53=>
  bnd (gdv t51 false (.tuple []) (ibin .gtr t53 (.int .i64 64))) fun t54=>
  bnd (gdv t45 true (.tuple []) (apick t51 (.bool true) t54)) fun t55=>
  bnd (gdv t40 false (.tuple []) (apick t45 t55 (.bool false))) fun t56=>
  bnd (apick t40 (.bool true) t56) fun t57=>
  bnd (anil p0) fun t60=>
  bnd (afield 1 t60) fun t61=>
  bnd (aload false 1 t61 r_18.2) fun t62=>
  bnd (gdv t62 false (.tuple []) (some t57)) fun t64=>
  bnd (apick t62 (.bool true) t64) fun t65=>
  bnd (anil p0) fun t66=>
  bnd (afield 1 t66) fun t67=>
  bnd (astoreU 1 t67 t65 r_18.2) fun r_80=>
  j80_1 p0 r3.1 r_80.2)
  (bnd (ibin .eql t30 (.int .i64 6)) fun t69=>
  cnd t69
   (bnd (anil p0) fun t71=>
   bnd (afield 4 t71) fun t72=>
   bnd (aload false 1 t72 r_18.2) fun t73=>
   bnd (ibin .add t73 (.int .i64 1)) fun t74=>
   bnd (anil p0) fun t75=>
   bnd (afield 4 t75) fun t76=>
   bnd (astoreU 1 t76 t74 r_18.2) fun r_88=>
   bnd (anil p0) fun t79=>
   bnd (afield 1 t79) fun t80=>
   bnd (aload false 1 t80 r_88.2) fun t81=>
   bnd (gdv t81 false (.tuple []) (afield 7 r3.1)) fun t83=>
   bnd (gdv t81 false (.tuple []) (aload false 1 t83 r_88.2)) fun t84=>
   bnd (gdv t81 false (.tuple []) (some p0)) fun t85=>
   bnd (gdv t81 false (.tuple []) (anil t85)) fun t86=>
   bnd (gdv t81 false (.tuple []) (afield 4 t86)) fun t87=>
   bnd (gdv t81 false (.tuple []) (aload false 1 t87 r_88.2)) fun t88=>
   bnd (gdv t81 false (.tuple []) (ibin .neq t84 t88)) fun t89=>
   bnd (apick t81 (.bool true) t89) fun t90=>
   bnd (anil p0) fun t91=>
   bnd (afield 1 t91) fun t92=>
   bnd (astoreU 1 t92 t90 r_88.2) fun r_102=>
   j80_1 p0 r3.1 r_102.2)
   (bnd (ibin .eql t30 (.int .i64 9)) fun t94=>
   cnd t94
    (bnd (anil p0) fun t97=>
    bnd (afield 2 t97) fun t98=>
    bnd (aload false 1 t98 r_18.2) fun t99=>
    bnd (gdv t99 false (.tuple []) (some p0)) fun t101=>
    bnd (gdv t99 false (.tuple []) (anil t101)) fun t102=>
    bnd (gdv t99 false (.tuple []) (afield 6 t102)) fun t103=>
    bnd (gdv t99 false (.tuple []) (aload false 1 t103 r_18.2)) fun t104=>
    bnd (gdv t99 false (.tuple []) (afield 7 r3.1)) fun t105=>
    bnd (gdv t99 false (.tuple []) (aload false 1 t105 r_18.2)) fun t106=>
    bnd (gdv t99 false (.tuple []) (alookup (.int .i64) (.bool false) false t104 t106 r_18.2)) fun t107=>
    bnd (gdv t99 false (.tuple []) (aun .not t107)) fun t108=>
    bnd (apick t99 (.bool true) t108) fun t109=>
    bnd (anil p0) fun t110=>
    bnd (afield 2 t110) fun t111=>
    bnd (astoreU 1 t111 t109 r_18.2) fun r_118=>
    j80_1 p0 r3.1 r_118.2)
    (j80_1 p0 r3.1 r_18.2)))
theorem ec80 (p0 p1:AV) (H:Hp):c80 p0 p1 H=bc80 c103 (j80_1 H) p0 p1 H:=(callw_cxm (C:=cfg) (fn:=Tryz.f80) (c:=bodyOf Tryz.f80) (n:=145) [12,15,17,18,20] Tryz.func80 (by kernel_rfl) (by kernel_rfl) [p0,p1] (by kernel_rfl) H).trans (by kernel_rfl)
theorem mc80 {c103 dc103:A1} (hc103:L1 c103 dc103) {j80_1 dj80_1:A2} (hj80_1:L2 j80_1 dj80_1):L2 (bc80 c103 j80_1) (bc80 dc103 dj80_1):=fun _ _ _=>
 bR fun _=>bR fun _=>bR fun _=>bR fun _=>bR fun _=>bR fun _=>bR fun _=>bR fun _=>bR fun _=>bR fun _=>bR fun _=>bR fun _=>bG (hc103 _ _) fun _=>bR fun _=>bR fun _=>bR fun _=>bR fun _=>bR fun _=>bR fun _=>bR fun _=>bR fun _=>bK (bR fun _=>bR fun _=>bR fun _=>bR fun _=>bR fun _=>bR fun _=>bR fun _=>bR fun _=>bR fun _=>bR fun _=>bR fun _=>bR fun _=>bR fun _=>bR fun _=>bR fun _=>bR fun _=>bR fun _=>bR fun _=>bR fun _=>bR fun _=>bR fun _=>bR fun _=>bR fun _=>bR fun _=>bR fun _=>bR fun _=>bR fun _=>bR fun _=>bR fun _=>bR fun _=>bR fun _=>hj80_1 _ _ _) (bR fun _=>bK (bR fun _=>bR fun _=>bR fun _=>bR fun _=>bR fun _=>bR fun _=>bR fun _=>bR fun _=>bR fun _=>bR fun _=>bR fun _=>bR fun _=>bR fun _=>bR fun _=>bR fun _=>bR fun _=>bR fun _=>bR fun _=>bR fun _=>bR fun _=>bR fun _=>hj80_1 _ _ _) (bR fun _=>bK (bR fun _=>bR fun _=>bR fun _=>bR fun _=>bR fun _=>bR fun _=>bR fun _=>bR fun _=>bR fun _=>bR fun _=>bR fun _=>bR fun _=>bR fun _=>bR fun _=>bR fun _=>hj80_1 _ _ _) (hj80_1 _ _ _)))
def rc80 (gV:AV→List AV→Hp→Res):A2:=fun p0 p1 H=>bc80 rc103 (rj80_1 gV) p0 p1 H
theorem sc80 {gV:AV→List AV→Hp→Res} (hV:LV gV (acall cfg (callw cfg))):L2 (rc80 gV) c80:=fun _ _ H=>le_eq (mc80 sc103 (sj80_1 H hV) _ _ _) (ec80 _ _ _)

def c131 (p0:AV) (H:Hp):Res:=callw cfg 131 [p0] H
def bc131 (c84:A2) (p0:AV) (H:Hp):Res:=
 bnd ((afill [(0,1,(.int .i64 2))] [(.int .i64 0),(.int .u64 0),(.int .u64 0),(.int .u64 0),(.int .u64 0),(.int .i64 0),(.int .i64 0)]).map .agg) fun t5=>
 bnd (c84 p0 t5 H) fun r6=>
 bnd (anil p0) fun t8=>
 bnd (afield 0 t8) fun t9=>
 bnd (aload false 1 t9 r6.2) fun t10=>
 bnd (ibin .add r6.1 (.int .i64 1)) fun t13=>
 bnd (aindexS 7 t10 r6.1) fun t14=>
 bnd (afield 5 t14) fun t15=>
 bnd (astoreU 1 t15 t13 r6.2) fun r_9=>
 some (r6.1,r_9.2)
theorem ec131 (p0:AV) (H:Hp):c131 p0 H=bc131 c84 p0 H:=(callw_cxm (C:=cfg) (fn:=Tryz.f131) (c:=bodyOf Tryz.f131) (n:=17) [] Tryz.func131 (by kernel_rfl) (by kernel_rfl) [p0] (by kernel_rfl) H).trans (by kernel_rfl)
theorem mc131 {c84 dc84:A2} (hc84:L2 c84 dc84):L1 (bc131 c84) (bc131 dc84):=fun _ _=>
 bR fun _=>bC (hc84 _ _ _) fun _=>bR fun _=>bR fun _=>bR fun _=>bR fun _=>bR fun _=>bR fun _=>bR fun _=>le_refl _
def rc131:A1:=fun p0 H=>bc131 rc84 p0 H
theorem sc131:L1 rc131 c131:=fun _ H=>le_eq (mc131 sc84 _ _) (ec131 _ _)

def c109 (p0 p1:AV) (H:Hp):Res:=callw cfg 109 [p0,p1] H
def j109_3 (H0:Hp) (x0 x49 x50 x51:AV) (H:Hp):Res:=CXf 109 68 (sub (bodyOf Tryz.f109) [1,1,1,0,0,1,1,1]) (seqL (fun k al H=>LPf 109 68 (sub (bodyOf Tryz.f109) [1,1,1,0,0]) k (trimL (cfg.keep 109) (sub (bodyOf Tryz.f109) [1,1,1,0,0]) al) H) (blockL 2 (retL cfg 68 109 Tryz.f109 H0))) [(0,x0),(49,x49),(50,x50),(51,x51)] H
def j109_2 (H0:Hp) (x0 x49 x50 x51 x52:AV) (H:Hp):Res:=CXf 109 68 (sub (bodyOf Tryz.f109) [1,1,1,0,0,1,1]) (seqL (fun k al H=>LPf 109 68 (sub (bodyOf Tryz.f109) [1,1,1,0,0]) k (trimL (cfg.keep 109) (sub (bodyOf Tryz.f109) [1,1,1,0,0]) al) H) (blockL 2 (retL cfg 68 109 Tryz.f109 H0))) [(0,x0),(49,x49),(50,x50),(51,x51),(52,x52)] H
def j109_l1 (H0:Hp) (x0 x49 x50 x51:AV) (H:Hp):Res:=LPf 109 68 (sub (bodyOf Tryz.f109) [1,1,1,0,0]) (blockL 2 (retL cfg 68 109 Tryz.f109 H0)) [(0,x0),(49,x49),(50,x50),(51,x51)] H
def j109_1 (H0:Hp) (x0 x4:AV) (H:Hp):Res:=CXf 109 68 (sub (bodyOf Tryz.f109) [1,1]) (retL cfg 68 109 Tryz.f109 H0) [(0,x0),(4,x4)] H
def k109_1 (H0:Hp):KL:=seqL (fun k al H=>CXf 109 68 (sub (bodyOf Tryz.f109) [1,1]) k (trimL (cfg.keep 109) (sub (bodyOf Tryz.f109) [1,1]) al) H) (retL cfg 68 109 Tryz.f109 H0)
theorem k109_1_tame (H0:Hp):Tame 68 (k109_1 H0):=tame_seq (C:=cfg) (kp:=cfg.keep 109) (sub (bodyOf Tryz.f109) [1,1]) (tame_ret 109 Tryz.f109 H0)
def j109_5 (H0:Hp) (x0 x1 x4 x10 x11 x12:AV) (H:Hp):Res:=CXf 109 68 (sub (bodyOf Tryz.f109) [1,0,1,0,0,1,1,1]) (seqL (fun k al H=>LPf 109 68 (sub (bodyOf Tryz.f109) [1,0,1,0,0]) k (trimL (cfg.keep 109) (sub (bodyOf Tryz.f109) [1,0,1,0,0]) al) H) (blockL 0 (k109_1 H0))) [(0,x0),(1,x1),(4,x4),(10,x10),(11,x11),(12,x12)] H
def k109_2 (H0:Hp):KL:=seqL (fun k al H=>CXf 109 68 (sub (bodyOf Tryz.f109) [1,0,1,0,0,1,1,1]) k (trimL (cfg.keep 109) (sub (bodyOf Tryz.f109) [1,0,1,0,0,1,1,1]) al) H) (seqL (fun k al H=>LPf 109 68 (sub (bodyOf Tryz.f109) [1,0,1,0,0]) k (trimL (cfg.keep 109) (sub (bodyOf Tryz.f109) [1,0,1,0,0]) al) H) (blockL 0 (k109_1 H0)))
def j109_6 (H0:Hp) (x0 x1 x4 x6 x10 x11 x12:AV) (H:Hp):Res:=CXf 109 68 (sub (bodyOf Tryz.f109) [1,0,1,0,0,1,1,0,0,1,1]) (blockL 1 (k109_2 H0)) [(0,x0),(1,x1),(4,x4),(6,x6),(10,x10),(11,x11),(12,x12)] H
def j109_4 (H0:Hp) (x0 x1 x4 x10 x11 x12 x13:AV) (H:Hp):Res:=CXf 109 68 (sub (bodyOf Tryz.f109) [1,0,1,0,0,1,1]) (seqL (fun k al H=>LPf 109 68 (sub (bodyOf Tryz.f109) [1,0,1,0,0]) k (trimL (cfg.keep 109) (sub (bodyOf Tryz.f109) [1,0,1,0,0]) al) H) (blockL 0 (k109_1 H0))) [(0,x0),(1,x1),(4,x4),(10,x10),(11,x11),(12,x12),(13,x13)] H
def j109_l2 (H0:Hp) (x0 x1 x4 x10 x11 x12:AV) (H:Hp):Res:=LPf 109 68 (sub (bodyOf Tryz.f109) [1,0,1,0,0]) (blockL 0 (k109_1 H0)) [(0,x0),(1,x1),(4,x4),(10,x10),(11,x11),(12,x12)] H
def b109_3 (j109_l1:A4) (x0 x49 x50 x51:AV) (H:Hp):Res:=
 bnd (ibin .add x51 (.int .i64 1)) fun t67=>
 j109_l1 x0 x49 x50 t67 H
theorem e109_3 (H0:Hp) (x0 x49 x50 x51:AV) (H:Hp):j109_3 H0 x0 x49 x50 x51 H=b109_3 (j109_l1 H0) x0 x49 x50 x51 H:=(CXM_eq [3,6,10,11,13,15] _ _ _ _).trans (by kernel_rfl)
theorem m109_3 {j109_l1 dj109_l1:A4} (hj109_l1:L4 j109_l1 dj109_l1):L4 (b109_3 j109_l1) (b109_3 dj109_l1):=fun _ _ _ _ _=>
 bR fun _=>hj109_l1 _ _ _ _ _
def b109_2 (j109_3:A4) (x0 x49 x50 x51 x52:AV) (H:Hp):Res:=
 bnd (aindexS 1 x49 x51) fun t53=>
 bnd (aload false 1 t53 H) fun t54=>
 bnd (anil x0) fun t56=>
 bnd (afield 0 t56) fun t57=>
 bnd (aload false 1 t57 H) fun t58=>
 bnd (anil x0) fun t61=>
 bnd (afield 0 t61) fun t62=>
 bnd (aload false 1 t62 H) fun t63=>
 bnd (alenD (.slice 111) t63) fun t64=>
 bnd (aindexS 7 t58 t54) fun t65=>
 bnd (afield 5 t65) fun t66=>
 bnd (astoreU 1 t66 t64 H) fun r_15=>
 j109_3 x0 x49 x50 x51 r_15.2
theorem e109_2 (H0:Hp) (x0 x49 x50 x51 x52:AV) (H:Hp):j109_2 H0 x0 x49 x50 x51 x52 H=b109_2 (j109_3 H0) x0 x49 x50 x51 x52 H:=(CXM_eq [3,6,10,11,13,15] _ _ _ _).trans (by kernel_rfl)
theorem m109_2 {j109_3 dj109_3:A4} (hj109_3:L4 j109_3 dj109_3):L5 (b109_2 j109_3) (b109_2 dj109_3):=fun _ _ _ _ _ _=>
 bR fun _=>bR fun _=>bR fun _=>bR fun _=>bR fun _=>bR fun _=>bR fun _=>bR fun _=>bR fun _=>bR fun _=>bR fun _=>bR fun _=>hj109_3 _ _ _ _ _
def b109_l1 (j109_2:A5) (x0 x49 x50 x51:AV) (H:Hp):Res:=
 bnd (ibin .lss x51 x50) fun t52=>
 cnd t52
  (j109_2 x0 x49 x50 x51 t52 H)
  (some ((.tuple []),H))
theorem e109_l1 (H0:Hp) (x0 x49 x50 x51:AV) (H:Hp):j109_l1 H0 x0 x49 x50 x51 H=b109_l1 (j109_2 H0) x0 x49 x50 x51 H:=(LPL_eqm (C:=cfg) [3,6,10,11,13,15] (tame_block 2 (tame_ret 109 Tryz.f109 H0)) _ _).trans (by kernel_rfl)
theorem m109_l1 {j109_2 dj109_2:A5} (hj109_2:L5 j109_2 dj109_2):L4 (b109_l1 j109_2) (b109_l1 dj109_2):=fun _ _ _ _ _=>
 bR fun _=>bK (hj109_2 _ _ _ _ _ _) (le_refl _)
def b109_1 (j109_l1:A4) (x0 x4:AV) (H:Hp):Res:=
 bnd (alenD (.slice 3) x4) fun t50=>
 j109_l1 x0 x4 t50 (.int .i64 0) H
theorem e109_1 (H0:Hp) (x0 x4:AV) (H:Hp):j109_1 H0 x0 x4 H=b109_1 (j109_l1 H0) x0 x4 H:=(CXM_eq [3,6,10,11,13,15] _ _ _ _).trans (by kernel_rfl)
theorem m109_1 {j109_l1 dj109_l1:A4} (hj109_l1:L4 j109_l1 dj109_l1):L2 (b109_1 j109_l1) (b109_1 dj109_l1):=fun _ _ _=>
 bR fun _=>hj109_l1 _ _ _ _ _
def b109_5 (j109_l2:A6) (x0 x1 x4 x10 x11 x12:AV) (H:Hp):Res:=
 bnd (ibin .add x12 (.int .i64 1)) fun t48=>
 j109_l2 x0 x1 x4 x10 x11 t48 H
theorem e109_5 (H0:Hp) (x0 x1 x4 x10 x11 x12:AV) (H:Hp):j109_5 H0 x0 x1 x4 x10 x11 x12 H=b109_5 (j109_l2 H0) x0 x1 x4 x10 x11 x12 H:=(CXM_eq [3,6,10,11,13,15] _ _ _ _).trans (by kernel_rfl)
theorem m109_5 {j109_l2 dj109_l2:A6} (hj109_l2:L6 j109_l2 dj109_l2):L6 (b109_5 j109_l2) (b109_5 dj109_l2):=fun _ _ _ _ _ _ _=>
 bR fun _=>hj109_l2 _ _ _ _ _ _ _
def b109_6 (c131:A1) (c84:A2) (j109_5:A6) (cV:AV→List AV→Hp→Res) (x0 x1 x4 x6 x10 x11 x12:AV) (H:Hp):Res:=
 bnd (c131 x0 H) fun r26=>
 bnd (aload true 9 x6 r26.2) fun t28=>
 bnd (cV (.fn (.func 83) [] []) [x0,t28] r26.2) fun r29=>
 bnd ((afill [(0,1,(.int .i64 3))] [(.int .i64 0),(.int .u64 0),(.int .u64 0),(.int .u64 0),(.int .u64 0),(.int .i64 0),(.int .i64 0)]).map .agg) fun t32=>
 bnd (c84 x0 t32 r29.2) fun r33=>
 bnd ((setElems 1 [(0,r33.1)] [(.int .i64 0)]).map (.vs 1 .clip)) fun t34=>
 bnd (aappEL false 1 8 x4 t34 r33.2) fun r35=>
 bnd (anil x0) fun t37=>
 bnd (afield 0 t37) fun t38=>
 bnd (aload false 1 t38 r35.2) fun t39=>
 bnd (anil x0) fun t42=>
 bnd (afield 0 t42) fun t43=>
 bnd (aload false 1 t43 r35.2) fun t44=>
 bnd (alenD (.slice 111) t44) fun t45=>
 bnd (aindexS 7 t39 r26.1) fun t46=>
 bnd (afield 6 t46) fun t47=>
 bnd (astoreU 1 t47 t45 r35.2) fun r_39=>
 j109_5 x0 x1 r35.1 x10 x11 x12 r_39.2
theorem e109_6 (H0:Hp) (x0 x1 x4 x6 x10 x11 x12:AV) (H:Hp):j109_6 H0 x0 x1 x4 x6 x10 x11 x12 H=b109_6 c131 c84 (j109_5 H0) (acall cfg (callw cfg)) x0 x1 x4 x6 x10 x11 x12 H:=(CXM_eq [3,6,10,11,13,15] _ _ _ _).trans (by kernel_rfl)
theorem m109_6 {c131 dc131:A1} (hc131:L1 c131 dc131) {c84 dc84:A2} (hc84:L2 c84 dc84) {j109_5 dj109_5:A6} (hj109_5:L6 j109_5 dj109_5) {cV dcV:AV→List AV→Hp→Res} (hcV:LV cV dcV):L7 (b109_6 c131 c84 j109_5 cV) (b109_6 dc131 dc84 dj109_5 dcV):=fun _ _ _ _ _ _ _ _=>
 bC (hc131 _ _) fun _=>bR fun _=>bC (hcV _ _ _) fun _=>bR fun _=>bC (hc84 _ _ _) fun _=>bR fun _=>bR fun _=>bR fun _=>bR fun _=>bR fun _=>bR fun _=>bR fun _=>bR fun _=>bR fun _=>bR fun _=>bR fun _=>bR fun _=>hj109_5 _ _ _ _ _ _ _
def b109_4 (j109_1:A2) (j109_6:A7) (cV:AV→List AV→Hp→Res) (x0 x1 x4 x10 x11 x12 x13:AV) (H:Hp):Res:=
 bnd (aindexS 9 x10 x12) fun t15=>
 bnd (aload true 9 t15 H) fun t16=>
 bnd (some ((.ptr H.length 0),H++[.cells [(.int .i64 0),(.int .u64 0),(.int .u64 0),(.int .u64 0),(.int .u64 0),(.int .i64 0),(.int .i64 0),(.int .i64 0),.nils]])) fun r6=>
 bnd (astoreU 9 r6.1 t16 r6.2) fun r_22=>
 bnd (alenD (.slice 41) x1) fun t19=>
 bnd (ibin .sub t19 (.int .i64 1)) fun t20=>
 bnd (ibin .eql x12 t20) fun t21=>
 cnd t21
  (bnd (aload true 9 r6.1 r_22.2) fun t23=>
  bnd (cV (.fn (.func 83) [] []) [x0,t23] r_22.2) fun r24=>
  j109_1 x0 x4 r24.2)
  (j109_6 x0 x1 x4 r6.1 x10 x11 x12 r_22.2)
theorem e109_4 (H0:Hp) (x0 x1 x4 x10 x11 x12 x13:AV) (H:Hp):j109_4 H0 x0 x1 x4 x10 x11 x12 x13 H=b109_4 (j109_1 H0) (j109_6 H0) (acall cfg (callw cfg)) x0 x1 x4 x10 x11 x12 x13 H:=(CXM_eq [3,6,10,11,13,15] _ _ _ _).trans (by kernel_rfl)
theorem m109_4 {j109_1 dj109_1:A2} (hj109_1:L2 j109_1 dj109_1) {j109_6 dj109_6:A7} (hj109_6:L7 j109_6 dj109_6) {cV dcV:AV→List AV→Hp→Res} (hcV:LV cV dcV):L7 (b109_4 j109_1 j109_6 cV) (b109_4 dj109_1 dj109_6 dcV):=fun _ _ _ _ _ _ _ _=>
 bR fun _=>bR fun _=>bR fun _=>bR fun _=>bR fun _=>bR fun _=>bR fun _=>bK (bR fun _=>bC (hcV _ _ _) fun _=>hj109_1 _ _ _) (hj109_6 _ _ _ _ _ _ _ _)
def b109_l2 (j109_1:A2) (j109_4:A7) (x0 x1 x4 x10 x11 x12:AV) (H:Hp):Res:=
 bnd (ibin .lss x12 x11) fun t13=>
 cnd t13
  (j109_4 x0 x1 x4 x10 x11 x12 t13 H)
  (j109_1 x0 x4 H)
theorem e109_l2 (H0:Hp) (x0 x1 x4 x10 x11 x12:AV) (H:Hp):j109_l2 H0 x0 x1 x4 x10 x11 x12 H=b109_l2 (j109_1 H0) (j109_4 H0) x0 x1 x4 x10 x11 x12 H:=(LPL_eqm (C:=cfg) [3,6,10,11,13,15] (tame_block 0 (k109_1_tame H0)) _ _).trans (by kernel_rfl)
theorem m109_l2 {j109_1 dj109_1:A2} (hj109_1:L2 j109_1 dj109_1) {j109_4 dj109_4:A7} (hj109_4:L7 j109_4 dj109_4):L6 (b109_l2 j109_1 j109_4) (b109_l2 dj109_1 dj109_4):=fun _ _ _ _ _ _ _=>
 bR fun _=>bK (hj109_4 _ _ _ _ _ _ _ _) (hj109_1 _ _ _)
def rj109_3 (gV:AV→List AV→Hp→Res) (j109_l1:A4):A4:=b109_3 j109_l1
theorem sj109_3 (H0:Hp) {gV:AV→List AV→Hp→Res} (hV:LV gV (acall cfg (callw cfg))) {yj109_l1:A4} (hj109_l1:L4 yj109_l1 (j109_l1 H0)):L4 (rj109_3 gV yj109_l1) (j109_3 H0):=fun _ _ _ _ _=>le_eq (m109_3 hj109_l1 _ _ _ _ _) (e109_3 H0 _ _ _ _ _)
def rj109_2 (gV:AV→List AV→Hp→Res) (j109_l1:A4):A5:=b109_2 (rj109_3 gV j109_l1)
theorem sj109_2 (H0:Hp) {gV:AV→List AV→Hp→Res} (hV:LV gV (acall cfg (callw cfg))) {yj109_l1:A4} (hj109_l1:L4 yj109_l1 (j109_l1 H0)):L5 (rj109_2 gV yj109_l1) (j109_2 H0):=fun _ _ _ _ _ _=>le_eq (m109_2 (sj109_3 H0 hV hj109_l1) _ _ _ _ _ _) (e109_2 H0 _ _ _ _ _ _)
def rj109_l1 (gV:AV→List AV→Hp→Res) (n:Nat):A4:=@Nat.rec (fun _=>A4) (fun _ _ _ _ _=>none) (fun _ j109_l1=>b109_l1 (rj109_2 gV j109_l1)) n
theorem sj109_l1 (H0:Hp) {gV:AV→List AV→Hp→Res} (hV:LV gV (acall cfg (callw cfg))) (n:Nat):L4 (rj109_l1 gV n) (j109_l1 H0):=by
 induction n with
 | zero=>exact fun _ _ _ _ _=>le_none _
 | succ n hj109_l1=>exact fun _ _ _ _ _=>le_eq (m109_l1 (sj109_2 H0 hV hj109_l1) _ _ _ _ _) (e109_l1 H0 _ _ _ _ _)
def rj109_1 (gV:AV→List AV→Hp→Res):A2:=b109_1 (rj109_l1 gV 100000)
theorem sj109_1 (H0:Hp) {gV:AV→List AV→Hp→Res} (hV:LV gV (acall cfg (callw cfg))):L2 (rj109_1 gV) (j109_1 H0):=fun _ _ _=>le_eq (m109_1 (sj109_l1 H0 hV 100000) _ _ _) (e109_1 H0 _ _ _)
def rj109_5 (gV:AV→List AV→Hp→Res) (j109_l2:A6):A6:=b109_5 j109_l2
theorem sj109_5 (H0:Hp) {gV:AV→List AV→Hp→Res} (hV:LV gV (acall cfg (callw cfg))) {yj109_l2:A6} (hj109_l2:L6 yj109_l2 (j109_l2 H0)):L6 (rj109_5 gV yj109_l2) (j109_5 H0):=fun _ _ _ _ _ _ _=>le_eq (m109_5 hj109_l2 _ _ _ _ _ _ _) (e109_5 H0 _ _ _ _ _ _ _)
def rj109_6 (gV:AV→List AV→Hp→Res) (j109_l2:A6):A7:=b109_6 rc131 rc84 (rj109_5 gV j109_l2) gV
theorem sj109_6 (H0:Hp) {gV:AV→List AV→Hp→Res} (hV:LV gV (acall cfg (callw cfg))) {yj109_l2:A6} (hj109_l2:L6 yj109_l2 (j109_l2 H0)):L7 (rj109_6 gV yj109_l2) (j109_6 H0):=fun _ _ _ _ _ _ _ _=>le_eq (m109_6 sc131 sc84 (sj109_5 H0 hV hj109_l2) hV _ _ _ _ _ _ _ _) (e109_6 H0 _ _ _ _ _ _ _ _)
def rj109_4 (gV:AV→List AV→Hp→Res) (j109_l2:A6):A7:=b109_4 (rj109_1 gV) (rj109_6 gV j109_l2) gV
theorem sj109_4 (H0:Hp) {gV:AV→List AV→Hp→Res} (hV:LV gV (acall cfg (callw cfg))) {yj109_l2:A6} (hj109_l2:L6 yj109_l2 (j109_l2 H0)):L7 (rj109_4 gV yj109_l2) (j109_4 H0):=fun _ _ _ _ _ _ _ _=>le_eq (m109_4 (sj109_1 H0 hV) (sj109_6 H0 hV hj109_l2) hV _ _ _ _ _ _ _ _) (e109_4 H0 _ _ _ _ _ _ _ _)
def rj109_l2 (gV:AV→List AV→Hp→Res) (n:Nat):A6:=@Nat.rec (fun _=>A6) (fun _ _ _ _ _ _ _=>none) (fun _ j109_l2=>b109_l2 (rj109_1 gV) (rj109_4 gV j109_l2)) n
theorem sj109_l2 (H0:Hp) {gV:AV→List AV→Hp→Res} (hV:LV gV (acall cfg (callw cfg))) (n:Nat):L6 (rj109_l2 gV n) (j109_l2 H0):=by
 induction n with
 | zero=>exact fun _ _ _ _ _ _ _=>le_none _
 | succ n hj109_l2=>exact fun _ _ _ _ _ _ _=>le_eq (m109_l2 (sj109_1 H0 hV) (sj109_4 H0 hV hj109_l2) _ _ _ _ _ _ _) (e109_l2 H0 _ _ _ _ _ _ _)
def bc109 (j109_l2:A6) (p0 p1:AV) (H:Hp):Res:=
 bnd (alenD (.slice 41) p1) fun t11=>
 j109_l2 p0 p1 .nils p1 t11 (.int .i64 0) H
theorem ec109 (p0 p1:AV) (H:Hp):c109 p0 p1 H=bc109 (j109_l2 H) p0 p1 H:=(callw_cxm (C:=cfg) (fn:=Tryz.f109) (c:=bodyOf Tryz.f109) (n:=68) [3,6,10,11,13,15] Tryz.func109 (by kernel_rfl) (by kernel_rfl) [p0,p1] (by kernel_rfl) H).trans (by kernel_rfl)
theorem mc109 {j109_l2 dj109_l2:A6} (hj109_l2:L6 j109_l2 dj109_l2):L2 (bc109 j109_l2) (bc109 dj109_l2):=fun _ _ _=>
 bR fun _=>hj109_l2 _ _ _ _ _ _ _
def rc109 (gV:AV→List AV→Hp→Res):A2:=fun p0 p1 H=>bc109 (rj109_l2 gV 100000) p0 p1 H
theorem sc109 {gV:AV→List AV→Hp→Res} (hV:LV gV (acall cfg (callw cfg))):L2 (rc109 gV) c109:=fun _ _ H=>le_eq (mc109 (sj109_l2 H hV 100000) _ _ _) (ec109 _ _ _)

def c110 (p0 p1:AV) (H:Hp):Res:=callw cfg 110 [p0,p1] H
def j110_2 (H0:Hp) (x0 x6:AV) (H:Hp):Res:=CXf 110 61 (sub (bodyOf Tryz.f110) [1,1,1,1,1]) (retL cfg 61 110 Tryz.f110 H0) [(0,x0),(6,x6)] H
def j110_1 (H0:Hp) (x0 x3:AV) (H:Hp):Res:=CXf 110 61 (sub (bodyOf Tryz.f110) [1,1]) (retL cfg 61 110 Tryz.f110 H0) [(0,x0),(3,x3)] H
def b110_2 (x0 x6:AV) (H:Hp):Res:=
 bnd (anil x0) fun t50=>
 bnd (afield 0 t50) fun t51=>
 bnd (aload false 1 t51 H) fun t52=>
 bnd (anil x0) fun t55=>
 bnd (afield 0 t55) fun t56=>
 bnd (aload false 1 t56 H) fun t57=>
 bnd (alenD (.slice 111) t57) fun t58=>
 bnd (aindexS 7 t52 x6) fun t59=>
 bnd (afield 6 t59) fun t60=>
 bnd (astoreU 1 t60 t58 H) fun r_17=>
 some ((.tuple []),r_17.2)
theorem e110_2 (H0:Hp) (x0 x6:AV) (H:Hp):j110_2 H0 x0 x6 H=b110_2 x0 x6 H:=(CXM_eq [6,10] _ _ _ _).trans (by kernel_rfl)
theorem m110_2:L2 (b110_2) (b110_2):=fun _ _ _=>
 bR fun _=>bR fun _=>bR fun _=>bR fun _=>bR fun _=>bR fun _=>bR fun _=>bR fun _=>bR fun _=>bR fun _=>le_refl _
def b110_1 (c131:A1) (c84:A2) (j110_2:A2) (cV:AV→List AV→Hp→Res) (x0 x3:AV) (H:Hp):Res:=
 bnd (c131 x0 H) fun r35=>
 bnd (afield 8 x3) fun t37=>
 bnd (aload false 1 t37 r35.2) fun t38=>
 bnd (aindexS 9 t38 (.int .i64 0)) fun t39=>
 bnd (aload true 9 t39 r35.2) fun t40=>
 bnd (cV (.fn (.func 83) [] []) [x0,t40] r35.2) fun r41=>
 bnd (afield 6 x3) fun t42=>
 bnd (aload false 1 t42 r41.2) fun t43=>
 bnd (ibin .lss t43 (.int .i64 0)) fun t44=>
 cnd t44
  (bnd ((afill [(0,1,(.int .i64 3)),(5,1,r35.1)] [(.int .i64 0),(.int .u64 0),(.int .u64 0),(.int .u64 0),(.int .u64 0),(.int .i64 0),(.int .i64 0)]).map .agg) fun t47=>
  bnd (c84 x0 t47 r41.2) fun r48=>
  j110_2 x0 r35.1 r48.2)
  (j110_2 x0 r35.1 r41.2)
theorem e110_1 (H0:Hp) (x0 x3:AV) (H:Hp):j110_1 H0 x0 x3 H=b110_1 c131 c84 (j110_2 H0) (acall cfg (callw cfg)) x0 x3 H:=(CXM_eq [6,10] _ _ _ _).trans (by kernel_rfl)
theorem m110_1 {c131 dc131:A1} (hc131:L1 c131 dc131) {c84 dc84:A2} (hc84:L2 c84 dc84) {j110_2 dj110_2:A2} (hj110_2:L2 j110_2 dj110_2) {cV dcV:AV→List AV→Hp→Res} (hcV:LV cV dcV):L2 (b110_1 c131 c84 j110_2 cV) (b110_1 dc131 dc84 dj110_2 dcV):=fun _ _ _=>
 bC (hc131 _ _) fun _=>bR fun _=>bR fun _=>bR fun _=>bR fun _=>bC (hcV _ _ _) fun _=>bR fun _=>bR fun _=>bR fun _=>bK (bR fun _=>bC (hc84 _ _ _) fun _=>hj110_2 _ _ _) (hj110_2 _ _ _)
def rj110_2 (gV:AV→List AV→Hp→Res):A2:=b110_2
theorem sj110_2 (H0:Hp) {gV:AV→List AV→Hp→Res} (hV:LV gV (acall cfg (callw cfg))):L2 (rj110_2 gV) (j110_2 H0):=fun _ _ _=>le_eq (m110_2 _ _ _) (e110_2 H0 _ _ _)
def rj110_1 (gV:AV→List AV→Hp→Res):A2:=b110_1 rc131 rc84 (rj110_2 gV) gV
theorem sj110_1 (H0:Hp) {gV:AV→List AV→Hp→Res} (hV:LV gV (acall cfg (callw cfg))):L2 (rj110_1 gV) (j110_1 H0):=fun _ _ _=>le_eq (m110_1 sc131 sc84 (sj110_2 H0 hV) hV _ _ _) (e110_1 H0 _ _ _)
def bc110 (c84:A2) (j110_1:A2) (cV:AV→List AV→Hp→Res) (p0 p1:AV) (H:Hp):Res:=
 bnd (abox p1 H) fun r3=>
 bnd (afield 5 r3.1) fun t7=>
 bnd (aload false 1 t7 r3.2) fun t8=>
 bnd (ibin .eql t8 (.int .i64 1)) fun t9=>
 cnd t9
  (bnd (anil p0) fun t11=>
  bnd (afield 0 t11) fun t12=>
  bnd (aload false 1 t12 r3.2) fun t13=>
  bnd (alenD (.slice 111) t13) fun t14=>
  bnd (afield 8 r3.1) fun t16=>
  bnd (aload false 1 t16 r3.2) fun t17=>
  bnd (aindexS 9 t17 (.int .i64 0)) fun t18=>
  bnd (aload true 9 t18 r3.2) fun t19=>
  bnd (cV (.fn (.func 83) [] []) [p0,t19] r3.2) fun r20=>
  bnd ((afill [(0,1,(.int .i64 2)),(5,1,t14)] [(.int .i64 0),(.int .u64 0),(.int .u64 0),(.int .u64 0),(.int .u64 0),(.int .i64 0),(.int .i64 0)]).map .agg) fun t23=>
  bnd (c84 p0 t23 r20.2) fun r24=>
  bnd (anil p0) fun t26=>
  bnd (afield 0 t26) fun t27=>
  bnd (aload false 1 t27 r24.2) fun t28=>
  bnd (ibin .add r24.1 (.int .i64 1)) fun t31=>
  bnd (aindexS 7 t28 r24.1) fun t32=>
  bnd (afield 6 t32) fun t33=>
  bnd (astoreU 1 t33 t31 r24.2) fun r_43=>
  some ((.tuple []),r_43.2))
  (j110_1 p0 r3.1 r3.2)
theorem ec110 (p0 p1:AV) (H:Hp):c110 p0 p1 H=bc110 c84 (j110_1 H) (acall cfg (callw cfg)) p0 p1 H:=(callw_cxm (C:=cfg) (fn:=Tryz.f110) (c:=bodyOf Tryz.f110) (n:=61) [6,10] Tryz.func110 (by kernel_rfl) (by kernel_rfl) [p0,p1] (by kernel_rfl) H).trans (by kernel_rfl)
theorem mc110 {c84 dc84:A2} (hc84:L2 c84 dc84) {j110_1 dj110_1:A2} (hj110_1:L2 j110_1 dj110_1) {cV dcV:AV→List AV→Hp→Res} (hcV:LV cV dcV):L2 (bc110 c84 j110_1 cV) (bc110 dc84 dj110_1 dcV):=fun _ _ _=>
 bR fun _=>bR fun _=>bR fun _=>bR fun _=>bK (bR fun _=>bR fun _=>bR fun _=>bR fun _=>bR fun _=>bR fun _=>bR fun _=>bR fun _=>bC (hcV _ _ _) fun _=>bR fun _=>bC (hc84 _ _ _) fun _=>bR fun _=>bR fun _=>bR fun _=>bR fun _=>bR fun _=>bR fun _=>bR fun _=>le_refl _) (hj110_1 _ _ _)
def rc110 (gV:AV→List AV→Hp→Res):A2:=fun p0 p1 H=>bc110 rc84 (rj110_1 gV) gV p0 p1 H
theorem sc110 {gV:AV→List AV→Hp→Res} (hV:LV gV (acall cfg (callw cfg))):L2 (rc110 gV) c110:=fun _ _ H=>le_eq (mc110 sc84 (sj110_1 H hV) hV _ _ _) (ec110 _ _ _)

def c83 (p0 p1:AV) (H:Hp):Res:=callw cfg 83 [p0,p1] H
def j83_3 (H0:Hp) (x0 x13 x14 x15:AV) (H:Hp):Res:=CXf 83 51 (sub (bodyOf Tryz.f83) [1,1,1,0,1,1,1,1,1,1,1,1,1,1,1,0,0,1,1,1]) (seqL (fun k al H=>LPf 83 51 (sub (bodyOf Tryz.f83) [1,1,1,0,1,1,1,1,1,1,1,1,1,1,1,0,0]) k (trimL (cfg.keep 83) (sub (bodyOf Tryz.f83) [1,1,1,0,1,1,1,1,1,1,1,1,1,1,1,0,0]) al) H) (blockL 1 (blockL 0 (retL cfg 51 83 Tryz.f83 H0)))) [(0,x0),(13,x13),(14,x14),(15,x15)] H
def j83_2 (H0:Hp) (x0 x13 x14 x15 x16:AV) (H:Hp):Res:=CXf 83 51 (sub (bodyOf Tryz.f83) [1,1,1,0,1,1,1,1,1,1,1,1,1,1,1,0,0,1,1]) (seqL (fun k al H=>LPf 83 51 (sub (bodyOf Tryz.f83) [1,1,1,0,1,1,1,1,1,1,1,1,1,1,1,0,0]) k (trimL (cfg.keep 83) (sub (bodyOf Tryz.f83) [1,1,1,0,1,1,1,1,1,1,1,1,1,1,1,0,0]) al) H) (blockL 1 (blockL 0 (retL cfg 51 83 Tryz.f83 H0)))) [(0,x0),(13,x13),(14,x14),(15,x15),(16,x16)] H
def j83_l1 (H0:Hp) (x0 x13 x14 x15:AV) (H:Hp):Res:=LPf 83 51 (sub (bodyOf Tryz.f83) [1,1,1,0,1,1,1,1,1,1,1,1,1,1,1,0,0]) (blockL 1 (blockL 0 (retL cfg 51 83 Tryz.f83 H0))) [(0,x0),(13,x13),(14,x14),(15,x15)] H
def j83_1 (H0:Hp) (x0 x3:AV) (H:Hp):Res:=CXf 83 51 (sub (bodyOf Tryz.f83) [1,1]) (retL cfg 51 83 Tryz.f83 H0) [(0,x0),(3,x3)] H
def b83_3 (j83_l1:A4) (x0 x13 x14 x15:AV) (H:Hp):Res:=
 bnd (ibin .add x15 (.int .i64 1)) fun t22=>
 j83_l1 x0 x13 x14 t22 H
theorem e83_3 (H0:Hp) (x0 x13 x14 x15:AV) (H:Hp):j83_3 H0 x0 x13 x14 x15 H=b83_3 (j83_l1 H0) x0 x13 x14 x15 H:=(CXM_eq [2,5,7] _ _ _ _).trans (by kernel_rfl)
theorem m83_3 {j83_l1 dj83_l1:A4} (hj83_l1:L4 j83_l1 dj83_l1):L4 (b83_3 j83_l1) (b83_3 dj83_l1):=fun _ _ _ _ _=>
 bR fun _=>hj83_l1 _ _ _ _ _
def b83_2 (j83_3:A4) (cV:AV→List AV→Hp→Res) (x0 x13 x14 x15 x16:AV) (H:Hp):Res:=
 bnd (aindexS 9 x13 x15) fun t17=>
 bnd (aload true 9 t17 H) fun t18=>
 bnd (some ((.ptr H.length 0),H++[.cells [(.int .i64 0),(.int .u64 0),(.int .u64 0),(.int .u64 0),(.int .u64 0),(.int .i64 0),(.int .i64 0),(.int .i64 0),.nils]])) fun r5=>
 bnd (astoreU 9 r5.1 t18 r5.2) fun r_30=>
 bnd (aload true 9 r5.1 r_30.2) fun t20=>
 bnd (cV (.fn (.func 83) [] []) [x0,t20] r_30.2) fun r21=>
 j83_3 x0 x13 x14 x15 r21.2
theorem e83_2 (H0:Hp) (x0 x13 x14 x15 x16:AV) (H:Hp):j83_2 H0 x0 x13 x14 x15 x16 H=b83_2 (j83_3 H0) (acall cfg (callw cfg)) x0 x13 x14 x15 x16 H:=(CXM_eq [2,5,7] _ _ _ _).trans (by kernel_rfl)
theorem m83_2 {j83_3 dj83_3:A4} (hj83_3:L4 j83_3 dj83_3) {cV dcV:AV→List AV→Hp→Res} (hcV:LV cV dcV):L5 (b83_2 j83_3 cV) (b83_2 dj83_3 dcV):=fun _ _ _ _ _ _=>
 bR fun _=>bR fun _=>bR fun _=>bR fun _=>bR fun _=>bC (hcV _ _ _) fun _=>hj83_3 _ _ _ _ _
def b83_l1 (j83_2:A5) (x0 x13 x14 x15:AV) (H:Hp):Res:=
 bnd (ibin .lss x15 x14) fun t16=>
 cnd t16
  (j83_2 x0 x13 x14 x15 t16 H)
  (some ((.tuple []),H))
theorem e83_l1 (H0:Hp) (x0 x13 x14 x15:AV) (H:Hp):j83_l1 H0 x0 x13 x14 x15 H=b83_l1 (j83_2 H0) x0 x13 x14 x15 H:=(LPL_eqm (C:=cfg) [2,5,7] (tame_block 1 (tame_block 0 (tame_ret 83 Tryz.f83 H0))) _ _).trans (by kernel_rfl)
theorem m83_l1 {j83_2 dj83_2:A5} (hj83_2:L5 j83_2 dj83_2):L4 (b83_l1 j83_2) (b83_l1 dj83_2):=fun _ _ _ _ _=>
 bR fun _=>bK (hj83_2 _ _ _ _ _ _) (le_refl _)
def b83_1 (c109:A2) (c110:A2) (c84:A2) (j83_l1:A4) (x0 x3:AV) (H:Hp):Res:=
 bnd (afield 0 x3) fun t10=>
 bnd (aload false 1 t10 H) fun t11=>
 bnd (ibin .eql t11 (.int .i64 2)) fun t24=>
 cnd t24
  (bnd (afield 1 x3) fun t26=>
  bnd (aload true 4 t26 H) fun t27=>
  bnd ((afill [(0,1,(.int .i64 1)),(1,4,t27)] [(.int .i64 0),(.int .u64 0),(.int .u64 0),(.int .u64 0),(.int .u64 0),(.int .i64 0),(.int .i64 0)]).map .agg) fun t28=>
  bnd (c84 x0 t28 H) fun r29=>
  some ((.tuple []),r29.2))
  (bnd (ibin .eql t11 (.int .i64 7)) fun t31=>
  cnd t31
   (bnd ((afill [(0,1,(.int .i64 4))] [(.int .i64 0),(.int .u64 0),(.int .u64 0),(.int .u64 0),(.int .u64 0),(.int .i64 0),(.int .i64 0)]).map .agg) fun t33=>
   bnd (c84 x0 t33 H) fun r34=>
   some ((.tuple []),r34.2))
   (bnd (ibin .eql t11 (.int .i64 8)) fun t36=>
   cnd t36
    (bnd ((afill [(0,1,(.int .i64 5))] [(.int .i64 0),(.int .u64 0),(.int .u64 0),(.int .u64 0),(.int .u64 0),(.int .i64 0),(.int .i64 0)]).map .agg) fun t38=>
    bnd (c84 x0 t38 H) fun r39=>
    some ((.tuple []),r39.2))
    (bnd (ibin .eql t11 (.int .i64 4)) fun t41=>
    cnd t41
     (bnd (afield 8 x3) fun t43=>
     bnd (aload false 1 t43 H) fun t44=>
     bnd (c109 x0 t44 H) fun r45=>
     some ((.tuple []),r45.2))
     (bnd (ibin .eql t11 (.int .i64 5)) fun t47=>
     cnd t47
      (bnd (aload true 9 x3 H) fun t49=>
      bnd (c110 x0 t49 H) fun r50=>
      some ((.tuple []),r50.2))
      (bnd (afield 8 x3) fun t12=>
      bnd (aload false 1 t12 H) fun t13=>
      bnd (alenD (.slice 41) t13) fun t14=>
      j83_l1 x0 t13 t14 (.int .i64 0) H)))))
theorem e83_1 (H0:Hp) (x0 x3:AV) (H:Hp):j83_1 H0 x0 x3 H=b83_1 c109 c110 c84 (j83_l1 H0) x0 x3 H:=(CXM_eq [2,5,7] _ _ _ _).trans (by kernel_rfl)
theorem m83_1 {c109 dc109:A2} (hc109:L2 c109 dc109) {c110 dc110:A2} (hc110:L2 c110 dc110) {c84 dc84:A2} (hc84:L2 c84 dc84) {j83_l1 dj83_l1:A4} (hj83_l1:L4 j83_l1 dj83_l1):L2 (b83_1 c109 c110 c84 j83_l1) (b83_1 dc109 dc110 dc84 dj83_l1):=fun _ _ _=>
 bR fun _=>bR fun _=>bR fun _=>bK (bR fun _=>bR fun _=>bR fun _=>bC (hc84 _ _ _) fun _=>le_refl _) (bR fun _=>bK (bR fun _=>bC (hc84 _ _ _) fun _=>le_refl _) (bR fun _=>bK (bR fun _=>bC (hc84 _ _ _) fun _=>le_refl _) (bR fun _=>bK (bR fun _=>bR fun _=>bC (hc109 _ _ _) fun _=>le_refl _) (bR fun _=>bK (bR fun _=>bC (hc110 _ _ _) fun _=>le_refl _) (bR fun _=>bR fun _=>bR fun _=>hj83_l1 _ _ _ _ _)))))
def rj83_3 (gV:AV→List AV→Hp→Res) (j83_l1:A4):A4:=b83_3 j83_l1
theorem sj83_3 (H0:Hp) {gV:AV→List AV→Hp→Res} (hV:LV gV (acall cfg (callw cfg))) {yj83_l1:A4} (hj83_l1:L4 yj83_l1 (j83_l1 H0)):L4 (rj83_3 gV yj83_l1) (j83_3 H0):=fun _ _ _ _ _=>le_eq (m83_3 hj83_l1 _ _ _ _ _) (e83_3 H0 _ _ _ _ _)
def rj83_2 (gV:AV→List AV→Hp→Res) (j83_l1:A4):A5:=b83_2 (rj83_3 gV j83_l1) gV
theorem sj83_2 (H0:Hp) {gV:AV→List AV→Hp→Res} (hV:LV gV (acall cfg (callw cfg))) {yj83_l1:A4} (hj83_l1:L4 yj83_l1 (j83_l1 H0)):L5 (rj83_2 gV yj83_l1) (j83_2 H0):=fun _ _ _ _ _ _=>le_eq (m83_2 (sj83_3 H0 hV hj83_l1) hV _ _ _ _ _ _) (e83_2 H0 _ _ _ _ _ _)
def rj83_l1 (gV:AV→List AV→Hp→Res) (n:Nat):A4:=@Nat.rec (fun _=>A4) (fun _ _ _ _ _=>none) (fun _ j83_l1=>b83_l1 (rj83_2 gV j83_l1)) n
theorem sj83_l1 (H0:Hp) {gV:AV→List AV→Hp→Res} (hV:LV gV (acall cfg (callw cfg))) (n:Nat):L4 (rj83_l1 gV n) (j83_l1 H0):=by
 induction n with
 | zero=>exact fun _ _ _ _ _=>le_none _
 | succ n hj83_l1=>exact fun _ _ _ _ _=>le_eq (m83_l1 (sj83_2 H0 hV hj83_l1) _ _ _ _ _) (e83_l1 H0 _ _ _ _ _)
def rj83_1 (gV:AV→List AV→Hp→Res):A2:=b83_1 (rc109 gV) (rc110 gV) rc84 (rj83_l1 gV 100000)
theorem sj83_1 (H0:Hp) {gV:AV→List AV→Hp→Res} (hV:LV gV (acall cfg (callw cfg))):L2 (rj83_1 gV) (j83_1 H0):=fun _ _ _=>le_eq (m83_1 (sc109 hV) (sc110 hV) sc84 (sj83_l1 H0 hV 100000) _ _ _) (e83_1 H0 _ _ _)
def bc83 (j83_1:A2) (p0 p1:AV) (H:Hp):Res:=
 bnd (abox p1 H) fun r3=>
 bnd (anil p0) fun t7=>
 bnd (afield 1 t7) fun t8=>
 bnd (aload false 1 t8 r3.2) fun t9=>
 cnd t9
  (some ((.tuple []),r3.2))
  (j83_1 p0 r3.1 r3.2)
theorem ec83 (p0 p1:AV) (H:Hp):c83 p0 p1 H=bc83 (j83_1 H) p0 p1 H:=(callw_cxm (C:=cfg) (fn:=Tryz.f83) (c:=bodyOf Tryz.f83) (n:=51) [2,5,7] Tryz.func83 (by kernel_rfl) (by kernel_rfl) [p0,p1] (by kernel_rfl) H).trans (by kernel_rfl)
theorem mc83 {j83_1 dj83_1:A2} (hj83_1:L2 j83_1 dj83_1):L2 (bc83 j83_1) (bc83 dj83_1):=fun _ _ _=>
 bR fun _=>bR fun _=>bR fun _=>bR fun _=>bK (le_refl _) (hj83_1 _ _ _)
def rc83 (gV:AV→List AV→Hp→Res):A2:=fun p0 p1 H=>bc83 (rj83_1 gV) p0 p1 H
theorem sc83 {gV:AV→List AV→Hp→Res} (hV:LV gV (acall cfg (callw cfg))):L2 (rc83 gV) c83:=fun _ _ H=>le_eq (mc83 (sj83_1 H hV) _ _ _) (ec83 _ _ _)

def c104 (p0 p1:AV) (H:Hp):Res:=callw cfg 104 [p0,p1] H
def j104_2 (H0:Hp) (x1 x10 x11 x12:AV) (H:Hp):Res:=CXf 104 20 (sub (bodyOf Tryz.f104) [1,1,1,0,0,1,1,1]) (seqL (fun k al H=>LPf 104 20 (sub (bodyOf Tryz.f104) [1,1,1,0,0]) k (trimL (cfg.keep 104) (sub (bodyOf Tryz.f104) [1,1,1,0,0]) al) H) (blockL 0 (retL cfg 20 104 Tryz.f104 H0))) [(1,x1),(10,x10),(11,x11),(12,x12)] H
def j104_1 (H0:Hp) (x1 x10 x11 x12 x13:AV) (H:Hp):Res:=CXf 104 20 (sub (bodyOf Tryz.f104) [1,1,1,0,0,1,1]) (seqL (fun k al H=>LPf 104 20 (sub (bodyOf Tryz.f104) [1,1,1,0,0]) k (trimL (cfg.keep 104) (sub (bodyOf Tryz.f104) [1,1,1,0,0]) al) H) (blockL 0 (retL cfg 20 104 Tryz.f104 H0))) [(1,x1),(10,x10),(11,x11),(12,x12),(13,x13)] H
def j104_l1 (H0:Hp) (x1 x10 x11 x12:AV) (H:Hp):Res:=LPf 104 20 (sub (bodyOf Tryz.f104) [1,1,1,0,0]) (blockL 0 (retL cfg 20 104 Tryz.f104 H0)) [(1,x1),(10,x10),(11,x11),(12,x12)] H
def b104_2 (j104_l1:A4) (x1 x10 x11 x12:AV) (H:Hp):Res:=
 bnd (ibin .add x12 (.int .i64 1)) fun t19=>
 j104_l1 x1 x10 x11 t19 H
theorem e104_2 (H0:Hp) (x1 x10 x11 x12:AV) (H:Hp):j104_2 H0 x1 x10 x11 x12 H=b104_2 (j104_l1 H0) x1 x10 x11 x12 H:=(CXM_eq [4,6] _ _ _ _).trans (by kernel_rfl)
theorem m104_2 {j104_l1 dj104_l1:A4} (hj104_l1:L4 j104_l1 dj104_l1):L4 (b104_2 j104_l1) (b104_2 dj104_l1):=fun _ _ _ _ _=>
 bR fun _=>hj104_l1 _ _ _ _ _
def b104_1 (j104_2:A4) (cV:AV→List AV→Hp→Res) (x1 x10 x11 x12 x13:AV) (H:Hp):Res:=
 bnd (aindexS 9 x10 x12) fun t14=>
 bnd (aload true 9 t14 H) fun t15=>
 bnd (some ((.ptr H.length 0),H++[.cells [(.int .i64 0),(.int .u64 0),(.int .u64 0),(.int .u64 0),(.int .u64 0),(.int .i64 0),(.int .i64 0),(.int .i64 0),.nils]])) fun r5=>
 bnd (astoreU 9 r5.1 t15 r5.2) fun r_12=>
 bnd (aload true 9 r5.1 r_12.2) fun t16=>
 bnd (cV (.fn (.func 104) [] []) [t16,x1] r_12.2) fun r18=>
 j104_2 x1 x10 x11 x12 r18.2
theorem e104_1 (H0:Hp) (x1 x10 x11 x12 x13:AV) (H:Hp):j104_1 H0 x1 x10 x11 x12 x13 H=b104_1 (j104_2 H0) (acall cfg (callw cfg)) x1 x10 x11 x12 x13 H:=(CXM_eq [4,6] _ _ _ _).trans (by kernel_rfl)
theorem m104_1 {j104_2 dj104_2:A4} (hj104_2:L4 j104_2 dj104_2) {cV dcV:AV→List AV→Hp→Res} (hcV:LV cV dcV):L5 (b104_1 j104_2 cV) (b104_1 dj104_2 dcV):=fun _ _ _ _ _ _=>
 bR fun _=>bR fun _=>bR fun _=>bR fun _=>bR fun _=>bC (hcV _ _ _) fun _=>hj104_2 _ _ _ _ _
def b104_l1 (j104_1:A5) (x1 x10 x11 x12:AV) (H:Hp):Res:=
 bnd (ibin .lss x12 x11) fun t13=>
 cnd t13
  (j104_1 x1 x10 x11 x12 t13 H)
  (some ((.tuple []),H))
theorem e104_l1 (H0:Hp) (x1 x10 x11 x12:AV) (H:Hp):j104_l1 H0 x1 x10 x11 x12 H=b104_l1 (j104_1 H0) x1 x10 x11 x12 H:=(LPL_eqm (C:=cfg) [4,6] (tame_block 0 (tame_ret 104 Tryz.f104 H0)) _ _).trans (by kernel_rfl)
theorem m104_l1 {j104_1 dj104_1:A5} (hj104_1:L5 j104_1 dj104_1):L4 (b104_l1 j104_1) (b104_l1 dj104_1):=fun _ _ _ _ _=>
 bR fun _=>bK (hj104_1 _ _ _ _ _ _) (le_refl _)
def rj104_2 (gV:AV→List AV→Hp→Res) (j104_l1:A4):A4:=b104_2 j104_l1
theorem sj104_2 (H0:Hp) {gV:AV→List AV→Hp→Res} (hV:LV gV (acall cfg (callw cfg))) {yj104_l1:A4} (hj104_l1:L4 yj104_l1 (j104_l1 H0)):L4 (rj104_2 gV yj104_l1) (j104_2 H0):=fun _ _ _ _ _=>le_eq (m104_2 hj104_l1 _ _ _ _ _) (e104_2 H0 _ _ _ _ _)
def rj104_1 (gV:AV→List AV→Hp→Res) (j104_l1:A4):A5:=b104_1 (rj104_2 gV j104_l1) gV
theorem sj104_1 (H0:Hp) {gV:AV→List AV→Hp→Res} (hV:LV gV (acall cfg (callw cfg))) {yj104_l1:A4} (hj104_l1:L4 yj104_l1 (j104_l1 H0)):L5 (rj104_1 gV yj104_l1) (j104_1 H0):=fun _ _ _ _ _ _=>le_eq (m104_1 (sj104_2 H0 hV hj104_l1) hV _ _ _ _ _ _) (e104_1 H0 _ _ _ _ _ _)
def rj104_l1 (gV:AV→List AV→Hp→Res) (n:Nat):A4:=@Nat.rec (fun _=>A4) (fun _ _ _ _ _=>none) (fun _ j104_l1=>b104_l1 (rj104_1 gV j104_l1)) n
theorem sj104_l1 (H0:Hp) {gV:AV→List AV→Hp→Res} (hV:LV gV (acall cfg (callw cfg))) (n:Nat):L4 (rj104_l1 gV n) (j104_l1 H0):=by
 induction n with
 | zero=>exact fun _ _ _ _ _=>le_none _
 | succ n hj104_l1=>exact fun _ _ _ _ _=>le_eq (m104_l1 (sj104_1 H0 hV hj104_l1) _ _ _ _ _) (e104_l1 H0 _ _ _ _ _)
def bc104 (j104_l1:A4) (cV:AV→List AV→Hp→Res) (p0 p1:AV) (H:Hp):Res:=
 bnd (abox p0 H) fun r2=>
 bnd (aload true 9 r2.1 r2.2) fun t7=>
 bnd (cV p1 [t7] r2.2) fun r8=>
 bnd (afield 8 r2.1) fun t9=>
 bnd (aload false 1 t9 r8.2) fun t10=>
 bnd (alenD (.slice 41) t10) fun t11=>
 j104_l1 p1 t10 t11 (.int .i64 0) r8.2
theorem ec104 (p0 p1:AV) (H:Hp):c104 p0 p1 H=bc104 (j104_l1 H) (acall cfg (callw cfg)) p0 p1 H:=(callw_cxm (C:=cfg) (fn:=Tryz.f104) (c:=bodyOf Tryz.f104) (n:=20) [4,6] Tryz.func104 (by kernel_rfl) (by kernel_rfl) [p0,p1] (by kernel_rfl) H).trans (by kernel_rfl)
theorem mc104 {j104_l1 dj104_l1:A4} (hj104_l1:L4 j104_l1 dj104_l1) {cV dcV:AV→List AV→Hp→Res} (hcV:LV cV dcV):L2 (bc104 j104_l1 cV) (bc104 dj104_l1 dcV):=fun _ _ _=>
 bR fun _=>bR fun _=>bC (hcV _ _ _) fun _=>bR fun _=>bR fun _=>bR fun _=>hj104_l1 _ _ _ _ _
def rc104 (gV:AV→List AV→Hp→Res):A2:=fun p0 p1 H=>bc104 (rj104_l1 gV 100000) gV p0 p1 H
theorem sc104 {gV:AV→List AV→Hp→Res} (hV:LV gV (acall cfg (callw cfg))):L2 (rc104 gV) c104:=fun _ _ H=>le_eq (mc104 (sj104_l1 H hV 100000) hV _ _ _) (ec104 _ _ _)

def c105 (p0 p1 p2:AV) (H:Hp):Res:=callw cfg 105 [p0,p1,p2] H
def bc105 (p0 p1 p2:AV) (H:Hp):Res:=
 bnd (abox p0 H) fun r3=>
 bnd (aload false 1 p1 r3.2) fun t4=>
 bnd (ibin .eql t4 (.int .i64 0)) fun t5=>
 bnd (gdv t5 false (.tuple []) (afield 0 r3.1)) fun t7=>
 bnd (gdv t5 false (.tuple []) (aload false 1 t7 r3.2)) fun t8=>
 bnd (gdv t5 false (.tuple []) (aload false 1 p1 r3.2)) fun t9=>
 bnd (gdv t5 false (.tuple []) (ibin .eql t8 t9)) fun t10=>
 bnd (apick t5 (.bool true) t10) fun t11=>
 cnd t11
  (bnd (aload false 1 p2 r3.2) fun t12=>
  bnd (ibin .add t12 (.int .i64 1)) fun t13=>
  bnd (astoreU 1 p2 t13 r3.2) fun r_11=>
  some ((.tuple []),r_11.2))
  (some ((.tuple []),r3.2))
theorem ec105 (p0 p1 p2:AV) (H:Hp):c105 p0 p1 p2 H=bc105 p0 p1 p2 H:=(callw_cxm (C:=cfg) (fn:=Tryz.f105) (c:=bodyOf Tryz.f105) (n:=14) [] Tryz.func105 (by kernel_rfl) (by kernel_rfl) [p0,p1,p2] (by kernel_rfl) H).trans (by kernel_rfl)
theorem mc105:L3 (bc105) (bc105):=fun _ _ _ _=>
 bR fun _=>bR fun _=>bR fun _=>bR fun _=>bR fun _=>bR fun _=>bR fun _=>bR fun _=>bK (bR fun _=>bR fun _=>bR fun _=>le_refl _) (le_refl _)
def rc105:A3:=fun p0 p1 p2 H=>bc105 p0 p1 p2 H
theorem sc105:L3 rc105 c105:=fun _ _ _ H=>le_eq (mc105 _ _ _ _) (ec105 _ _ _ _)

def c129 (p0 p1 p2:AV) (H:Hp):Res:=callw cfg 129 [p0,p1,p2] H
def j129_1 (H0:Hp) (x0 x1 x2:AV) (H:Hp):Res:=CXf 129 65 (sub (bodyOf Tryz.f129) [1,1]) (retL cfg 65 129 Tryz.f129 H0) [(0,x0),(1,x1),(2,x2)] H
def b129_1 (x0 x1 x2:AV) (H:Hp):Res:=
 bnd (ibin .mul x1 x0) fun t56=>
 bnd (ibin .add (.int .i64 1) t56) fun t57=>
 bnd (ibin .sub x2 x1) fun t60=>
 bnd (ibin .add x0 (.int .i64 1)) fun t62=>
 bnd (ibin .mul t60 t62) fun t63=>
 bnd (ibin .add t57 t63) fun t64=>
 some (t64,H)
theorem e129_1 (H0:Hp) (x0 x1 x2:AV) (H:Hp):j129_1 H0 x0 x1 x2 H=b129_1 x0 x1 x2 H:=(CXM_eq [11] _ _ _ _).trans (by kernel_rfl)
theorem m129_1:L3 (b129_1) (b129_1):=fun _ _ _ _=>
 bR fun _=>bR fun _=>bR fun _=>bR fun _=>bR fun _=>bR fun _=>le_refl _
def rj129_1:A3:=b129_1
theorem sj129_1 (H0:Hp):L3 (rj129_1) (j129_1 H0):=fun _ _ _ _=>le_eq (m129_1 _ _ _ _) (e129_1 H0 _ _ _ _)
def bc129 (j129_1:A3) (p0 p1 p2:AV) (H:Hp):Res:=
 bnd (ibin .eql p1 (.int .i64 0)) fun t9=>
 bnd (gdv t9 true (.tuple []) (some p2)) fun t11=>
 bnd (gdv t9 true (.tuple []) (ibin .eql t11 (.int .i64 1))) fun t12=>
 bnd (gdv t9 true (.tuple []) (some t12)) fun t13=>
 bnd (gdv t13 false (.tuple []) (some p2)) fun t14=>
 bnd (gdv t13 false (.tuple []) (ibin .eql t14 (.int .i64 (-1)))) fun t15=>
 bnd (gdv t9 true (.tuple []) (apick t13 (.bool true) t15)) fun t16=>
 bnd (apick t9 t16 (.bool false)) fun t17=>
 bnd (gdv t17 false (.tuple []) (some p1)) fun t19=>
 bnd (gdv t17 false (.tuple []) (ibin .eql t19 (.int .i64 1))) fun t20=>
 bnd (gdv t17 false (.tuple []) (some t20)) fun t21=>
 bnd (gdv t21 true (.tuple []) (some p2)) fun t22=>
 bnd (gdv t21 true (.tuple []) (ibin .eql t22 (.int .i64 (-1)))) fun t23=>
 bnd (gdv t17 false (.tuple []) (apick t21 t23 (.bool false))) fun t24=>
 bnd (apick t17 (.bool true) t24) fun t25=>
 cnd t25
  (bnd (ibin .add p0 (.int .i64 1)) fun t27=>
  some (t27,H))
  (bnd (ibin .eql p2 (.int .i64 0)) fun t30=>
  cnd t30
   (some ((.int .i64 1),H))
   (bnd (ibin .eql p1 (.int .i64 1)) fun t33=>
   bnd (gdv t33 true (.tuple []) (some p2)) fun t35=>
   bnd (gdv t33 true (.tuple []) (ibin .eql t35 (.int .i64 1))) fun t36=>
   bnd (apick t33 t36 (.bool false)) fun t37=>
   cnd t37
    (some (p0,H))
    (bnd (ibin .eql p2 p1) fun t42=>
    cnd t42
     (bnd (ibin .mul p1 p0) fun t45=>
     bnd (ibin .add (.int .i64 1) t45) fun t46=>
     some (t46,H))
     (bnd (ibin .eql p2 (.int .i64 (-1))) fun t49=>
     cnd t49
      (bnd (ibin .mul p1 p0) fun t52=>
      bnd (ibin .add (.int .i64 2) t52) fun t53=>
      some (t53,H))
      (j129_1 p0 p1 p2 H)))))
theorem ec129 (p0 p1 p2:AV) (H:Hp):c129 p0 p1 p2 H=bc129 (j129_1 H) p0 p1 p2 H:=(callw_cxm (C:=cfg) (fn:=Tryz.f129) (c:=bodyOf Tryz.f129) (n:=65) [11] Tryz.func129 (by kernel_rfl) (by kernel_rfl) [p0,p1,p2] (by kernel_rfl) H).trans (by kernel_rfl)
theorem mc129 {j129_1 dj129_1:A3} (hj129_1:L3 j129_1 dj129_1):L3 (bc129 j129_1) (bc129 dj129_1):=fun _ _ _ _=>
 bR fun _=>bR fun _=>bR fun _=>bR fun _=>bR fun _=>bR fun _=>bR fun _=>bR fun _=>bR fun _=>bR fun _=>bR fun _=>bR fun _=>bR fun _=>bR fun _=>bR fun _=>bK (bR fun _=>le_refl _) (bR fun _=>bK (le_refl _) (bR fun _=>bR fun _=>bR fun _=>bR fun _=>bK (le_refl _) (bR fun _=>bK (bR fun _=>bR fun _=>le_refl _) (bR fun _=>bK (bR fun _=>bR fun _=>le_refl _) (hj129_1 _ _ _ _)))))
def rc129:A3:=fun p0 p1 p2 H=>bc129 (rj129_1) p0 p1 p2 H
theorem sc129:L3 rc129 c129:=fun _ _ _ H=>le_eq (mc129 (sj129_1 H) _ _ _ _) (ec129 _ _ _ _)

def c106 (p0:AV) (H:Hp):Res:=callw cfg 106 [p0] H
def j106_2 (H0:Hp) (x3:AV) (H:Hp):Res:=CXf 106 32 (sub (bodyOf Tryz.f106) [1,1,1,1]) (retL cfg 32 106 Tryz.f106 H0) [(3,x3)] H
def j106_1 (H0:Hp) (x1 x3:AV) (H:Hp):Res:=CXf 106 32 (sub (bodyOf Tryz.f106) [1,1,1]) (retL cfg 32 106 Tryz.f106 H0) [(1,x1),(3,x3)] H
def k106_1 (H0:Hp):KL:=seqL (fun k al H=>CXf 106 32 (sub (bodyOf Tryz.f106) [1,1,1]) k (trimL (cfg.keep 106) (sub (bodyOf Tryz.f106) [1,1,1]) al) H) (retL cfg 32 106 Tryz.f106 H0)
theorem k106_1_tame (H0:Hp):Tame 32 (k106_1 H0):=tame_seq (C:=cfg) (kp:=cfg.keep 106) (sub (bodyOf Tryz.f106) [1,1,1]) (tame_ret 106 Tryz.f106 H0)
def j106_4 (H0:Hp) (x1 x3 x7 x8 x9:AV) (H:Hp):Res:=CXf 106 32 (sub (bodyOf Tryz.f106) [1,1,0,1,0,0,1,1,1]) (seqL (fun k al H=>LPf 106 32 (sub (bodyOf Tryz.f106) [1,1,0,1,0,0]) k (trimL (cfg.keep 106) (sub (bodyOf Tryz.f106) [1,1,0,1,0,0]) al) H) (blockL 0 (k106_1 H0))) [(1,x1),(3,x3),(7,x7),(8,x8),(9,x9)] H
def j106_3 (H0:Hp) (x1 x3 x7 x8 x9 x10:AV) (H:Hp):Res:=CXf 106 32 (sub (bodyOf Tryz.f106) [1,1,0,1,0,0,1,1]) (seqL (fun k al H=>LPf 106 32 (sub (bodyOf Tryz.f106) [1,1,0,1,0,0]) k (trimL (cfg.keep 106) (sub (bodyOf Tryz.f106) [1,1,0,1,0,0]) al) H) (blockL 0 (k106_1 H0))) [(1,x1),(3,x3),(7,x7),(8,x8),(9,x9),(10,x10)] H
def j106_l1 (H0:Hp) (x1 x3 x7 x8 x9:AV) (H:Hp):Res:=LPf 106 32 (sub (bodyOf Tryz.f106) [1,1,0,1,0,0]) (blockL 0 (k106_1 H0)) [(1,x1),(3,x3),(7,x7),(8,x8),(9,x9)] H
def b106_2 (x3:AV) (H:Hp):Res:=
 bnd (ibin .add x3 (.int .i64 1)) fun t30=>
 bnd (amin2 (.int .i64 1073741824) t30) fun t31=>
 some (t31,H)
theorem e106_2 (H0:Hp) (x3:AV) (H:Hp):j106_2 H0 x3 H=b106_2 x3 H:=(CXM_eq [4,6,7,9] _ _ _ _).trans (by kernel_rfl)
theorem m106_2:L1 (b106_2) (b106_2):=fun _ _=>
 bR fun _=>bR fun _=>le_refl _
def b106_1 (c129:A3) (j106_2:A1) (x1 x3:AV) (H:Hp):Res:=
 bnd (afield 0 x1) fun t19=>
 bnd (aload false 1 t19 H) fun t20=>
 bnd (ibin .eql t20 (.int .i64 5)) fun t21=>
 cnd t21
  (bnd (afield 5 x1) fun t23=>
  bnd (aload false 1 t23 H) fun t24=>
  bnd (afield 6 x1) fun t25=>
  bnd (aload false 1 t25 H) fun t26=>
  bnd (c129 x3 t24 t26 H) fun r27=>
  bnd (amin2 (.int .i64 1073741824) r27.1) fun t28=>
  some (t28,r27.2))
  (j106_2 x3 H)
theorem e106_1 (H0:Hp) (x1 x3:AV) (H:Hp):j106_1 H0 x1 x3 H=b106_1 c129 (j106_2 H0) x1 x3 H:=(CXM_eq [4,6,7,9] _ _ _ _).trans (by kernel_rfl)
theorem m106_1 {c129 dc129:A3} (hc129:L3 c129 dc129) {j106_2 dj106_2:A1} (hj106_2:L1 j106_2 dj106_2):L2 (b106_1 c129 j106_2) (b106_1 dc129 dj106_2):=fun _ _ _=>
 bR fun _=>bR fun _=>bR fun _=>bK (bR fun _=>bR fun _=>bR fun _=>bR fun _=>bC (hc129 _ _ _ _) fun _=>bR fun _=>le_refl _) (hj106_2 _ _)
def b106_4 (j106_l1:A5) (x1 x3 x7 x8 x9:AV) (H:Hp):Res:=
 bnd (ibin .add x9 (.int .i64 1)) fun t18=>
 j106_l1 x1 x3 x7 x8 t18 H
theorem e106_4 (H0:Hp) (x1 x3 x7 x8 x9:AV) (H:Hp):j106_4 H0 x1 x3 x7 x8 x9 H=b106_4 (j106_l1 H0) x1 x3 x7 x8 x9 H:=(CXM_eq [4,6,7,9] _ _ _ _).trans (by kernel_rfl)
theorem m106_4 {j106_l1 dj106_l1:A5} (hj106_l1:L5 j106_l1 dj106_l1):L5 (b106_4 j106_l1) (b106_4 dj106_l1):=fun _ _ _ _ _ _=>
 bR fun _=>hj106_l1 _ _ _ _ _ _
def b106_3 (j106_4:A5) (cV:AV→List AV→Hp→Res) (x1 x3 x7 x8 x9 x10:AV) (H:Hp):Res:=
 bnd (aindexS 9 x7 x9) fun t11=>
 bnd (aload true 9 t11 H) fun t12=>
 bnd (some ((.ptr H.length 0),H++[.cells [(.int .i64 0),(.int .u64 0),(.int .u64 0),(.int .u64 0),(.int .u64 0),(.int .i64 0),(.int .i64 0),(.int .i64 0),.nils]])) fun r5=>
 bnd (astoreU 9 r5.1 t12 r5.2) fun r_21=>
 bnd (aload true 9 r5.1 r_21.2) fun t14=>
 bnd (cV (.fn (.func 106) [] []) [t14] r_21.2) fun r15=>
 bnd (ibin .add x3 r15.1) fun t16=>
 bnd (amin2 (.int .i64 1073741824) t16) fun t17=>
 j106_4 x1 t17 x7 x8 x9 r15.2
theorem e106_3 (H0:Hp) (x1 x3 x7 x8 x9 x10:AV) (H:Hp):j106_3 H0 x1 x3 x7 x8 x9 x10 H=b106_3 (j106_4 H0) (acall cfg (callw cfg)) x1 x3 x7 x8 x9 x10 H:=(CXM_eq [4,6,7,9] _ _ _ _).trans (by kernel_rfl)
theorem m106_3 {j106_4 dj106_4:A5} (hj106_4:L5 j106_4 dj106_4) {cV dcV:AV→List AV→Hp→Res} (hcV:LV cV dcV):L6 (b106_3 j106_4 cV) (b106_3 dj106_4 dcV):=fun _ _ _ _ _ _ _=>
 bR fun _=>bR fun _=>bR fun _=>bR fun _=>bR fun _=>bC (hcV _ _ _) fun _=>bR fun _=>bR fun _=>hj106_4 _ _ _ _ _ _
def b106_l1 (j106_1:A2) (j106_3:A6) (x1 x3 x7 x8 x9:AV) (H:Hp):Res:=
 bnd (ibin .lss x9 x8) fun t10=>
 cnd t10
  (j106_3 x1 x3 x7 x8 x9 t10 H)
  (j106_1 x1 x3 H)
theorem e106_l1 (H0:Hp) (x1 x3 x7 x8 x9:AV) (H:Hp):j106_l1 H0 x1 x3 x7 x8 x9 H=b106_l1 (j106_1 H0) (j106_3 H0) x1 x3 x7 x8 x9 H:=(LPL_eqm (C:=cfg) [4,6,7,9] (tame_block 0 (k106_1_tame H0)) _ _).trans (by kernel_rfl)
theorem m106_l1 {j106_1 dj106_1:A2} (hj106_1:L2 j106_1 dj106_1) {j106_3 dj106_3:A6} (hj106_3:L6 j106_3 dj106_3):L5 (b106_l1 j106_1 j106_3) (b106_l1 dj106_1 dj106_3):=fun _ _ _ _ _ _=>
 bR fun _=>bK (hj106_3 _ _ _ _ _ _ _) (hj106_1 _ _ _)
def rj106_2 (gV:AV→List AV→Hp→Res):A1:=b106_2
theorem sj106_2 (H0:Hp) {gV:AV→List AV→Hp→Res} (hV:LV gV (acall cfg (callw cfg))):L1 (rj106_2 gV) (j106_2 H0):=fun _ _=>le_eq (m106_2 _ _) (e106_2 H0 _ _)
def rj106_1 (gV:AV→List AV→Hp→Res):A2:=b106_1 rc129 (rj106_2 gV)
theorem sj106_1 (H0:Hp) {gV:AV→List AV→Hp→Res} (hV:LV gV (acall cfg (callw cfg))):L2 (rj106_1 gV) (j106_1 H0):=fun _ _ _=>le_eq (m106_1 sc129 (sj106_2 H0 hV) _ _ _) (e106_1 H0 _ _ _)
def rj106_4 (gV:AV→List AV→Hp→Res) (j106_l1:A5):A5:=b106_4 j106_l1
theorem sj106_4 (H0:Hp) {gV:AV→List AV→Hp→Res} (hV:LV gV (acall cfg (callw cfg))) {yj106_l1:A5} (hj106_l1:L5 yj106_l1 (j106_l1 H0)):L5 (rj106_4 gV yj106_l1) (j106_4 H0):=fun _ _ _ _ _ _=>le_eq (m106_4 hj106_l1 _ _ _ _ _ _) (e106_4 H0 _ _ _ _ _ _)
def rj106_3 (gV:AV→List AV→Hp→Res) (j106_l1:A5):A6:=b106_3 (rj106_4 gV j106_l1) gV
theorem sj106_3 (H0:Hp) {gV:AV→List AV→Hp→Res} (hV:LV gV (acall cfg (callw cfg))) {yj106_l1:A5} (hj106_l1:L5 yj106_l1 (j106_l1 H0)):L6 (rj106_3 gV yj106_l1) (j106_3 H0):=fun _ _ _ _ _ _ _=>le_eq (m106_3 (sj106_4 H0 hV hj106_l1) hV _ _ _ _ _ _ _) (e106_3 H0 _ _ _ _ _ _ _)
def rj106_l1 (gV:AV→List AV→Hp→Res) (n:Nat):A5:=@Nat.rec (fun _=>A5) (fun _ _ _ _ _ _=>none) (fun _ j106_l1=>b106_l1 (rj106_1 gV) (rj106_3 gV j106_l1)) n
theorem sj106_l1 (H0:Hp) {gV:AV→List AV→Hp→Res} (hV:LV gV (acall cfg (callw cfg))) (n:Nat):L5 (rj106_l1 gV n) (j106_l1 H0):=by
 induction n with
 | zero=>exact fun _ _ _ _ _ _=>le_none _
 | succ n hj106_l1=>exact fun _ _ _ _ _ _=>le_eq (m106_l1 (sj106_1 H0 hV) (sj106_3 H0 hV hj106_l1) _ _ _ _ _ _) (e106_l1 H0 _ _ _ _ _ _)
def bc106 (j106_l1:A5) (p0:AV) (H:Hp):Res:=
 bnd (abox p0 H) fun r1=>
 bnd (afield 8 r1.1) fun t6=>
 bnd (aload false 1 t6 r1.2) fun t7=>
 bnd (alenD (.slice 41) t7) fun t8=>
 j106_l1 r1.1 (.int .i64 0) t7 t8 (.int .i64 0) r1.2
theorem ec106 (p0:AV) (H:Hp):c106 p0 H=bc106 (j106_l1 H) p0 H:=(callw_cxm (C:=cfg) (fn:=Tryz.f106) (c:=bodyOf Tryz.f106) (n:=32) [4,6,7,9] Tryz.func106 (by kernel_rfl) (by kernel_rfl) [p0] (by kernel_rfl) H).trans (by kernel_rfl)
theorem mc106 {j106_l1 dj106_l1:A5} (hj106_l1:L5 j106_l1 dj106_l1):L1 (bc106 j106_l1) (bc106 dj106_l1):=fun _ _=>
 bR fun _=>bR fun _=>bR fun _=>bR fun _=>hj106_l1 _ _ _ _ _ _
def rc106 (gV:AV→List AV→Hp→Res):A1:=fun p0 H=>bc106 (rj106_l1 gV 100000) p0 H
theorem sc106 {gV:AV→List AV→Hp→Res} (hV:LV gV (acall cfg (callw cfg))):L1 (rc106 gV) c106:=fun _ H=>le_eq (mc106 (sj106_l1 H hV 100000) _ _) (ec106 _ _)

def c107 (p0:AV) (H:Hp):Res:=callw cfg 107 [p0] H
def j107_1 (H0:Hp) (x1 x2 x3:AV) (H:Hp):Res:=CXf 107 22 (sub (bodyOf Tryz.f107) [1,1,1]) (retL cfg 22 107 Tryz.f107 H0) [(1,x1),(2,x2),(3,x3)] H
def k107_1 (H0:Hp):KL:=seqL (fun k al H=>CXf 107 22 (sub (bodyOf Tryz.f107) [1,1,1]) k (trimL (cfg.keep 107) (sub (bodyOf Tryz.f107) [1,1,1]) al) H) (retL cfg 22 107 Tryz.f107 H0)
theorem k107_1_tame (H0:Hp):Tame 22 (k107_1 H0):=tame_seq (C:=cfg) (kp:=cfg.keep 107) (sub (bodyOf Tryz.f107) [1,1,1]) (tame_ret 107 Tryz.f107 H0)
def j107_3 (H0:Hp) (x1 x2 x3 x7 x8 x9:AV) (H:Hp):Res:=CXf 107 22 (sub (bodyOf Tryz.f107) [1,1,0,1,0,0,1,1,1]) (seqL (fun k al H=>LPf 107 22 (sub (bodyOf Tryz.f107) [1,1,0,1,0,0]) k (trimL (cfg.keep 107) (sub (bodyOf Tryz.f107) [1,1,0,1,0,0]) al) H) (blockL 0 (k107_1 H0))) [(1,x1),(2,x2),(3,x3),(7,x7),(8,x8),(9,x9)] H
def j107_2 (H0:Hp) (x1 x2 x3 x7 x8 x9 x10:AV) (H:Hp):Res:=CXf 107 22 (sub (bodyOf Tryz.f107) [1,1,0,1,0,0,1,1]) (seqL (fun k al H=>LPf 107 22 (sub (bodyOf Tryz.f107) [1,1,0,1,0,0]) k (trimL (cfg.keep 107) (sub (bodyOf Tryz.f107) [1,1,0,1,0,0]) al) H) (blockL 0 (k107_1 H0))) [(1,x1),(2,x2),(3,x3),(7,x7),(8,x8),(9,x9),(10,x10)] H
def j107_l1 (H0:Hp) (x1 x2 x3 x7 x8 x9:AV) (H:Hp):Res:=LPf 107 22 (sub (bodyOf Tryz.f107) [1,1,0,1,0,0]) (blockL 0 (k107_1 H0)) [(1,x1),(2,x2),(3,x3),(7,x7),(8,x8),(9,x9)] H
def b107_1 (x1 x2 x3:AV) (H:Hp):Res:=
 bnd (afield 8 x1) fun t20=>
 bnd (astoreU 1 t20 x3 H) fun r_4=>
 bnd (aload true 9 x1 r_4.2) fun t21=>
 bnd (astoreU 9 x2 t21 r_4.2) fun r_6=>
 bnd (aload true 9 x2 r_6.2) fun v2=>
 some (v2,r_6.2)
theorem e107_1 (H0:Hp) (x1 x2 x3:AV) (H:Hp):j107_1 H0 x1 x2 x3 H=b107_1 x1 x2 x3 H:=(CXM_eq [4,6,7] _ _ _ _).trans (by kernel_rfl)
theorem m107_1:L3 (b107_1) (b107_1):=fun _ _ _ _=>
 bR fun _=>bR fun _=>bR fun _=>bR fun _=>bR fun _=>le_refl _
def b107_3 (j107_l1:A6) (x1 x2 x3 x7 x8 x9:AV) (H:Hp):Res:=
 bnd (ibin .add x9 (.int .i64 1)) fun t18=>
 j107_l1 x1 x2 x3 x7 x8 t18 H
theorem e107_3 (H0:Hp) (x1 x2 x3 x7 x8 x9:AV) (H:Hp):j107_3 H0 x1 x2 x3 x7 x8 x9 H=b107_3 (j107_l1 H0) x1 x2 x3 x7 x8 x9 H:=(CXM_eq [4,6,7] _ _ _ _).trans (by kernel_rfl)
theorem m107_3 {j107_l1 dj107_l1:A6} (hj107_l1:L6 j107_l1 dj107_l1):L6 (b107_3 j107_l1) (b107_3 dj107_l1):=fun _ _ _ _ _ _ _=>
 bR fun _=>hj107_l1 _ _ _ _ _ _ _
def b107_2 (j107_3:A6) (cV:AV→List AV→Hp→Res) (x1 x2 x3 x7 x8 x9 x10:AV) (H:Hp):Res:=
 bnd (aindexS 9 x7 x9) fun t11=>
 bnd (aload true 9 t11 H) fun t12=>
 bnd (some ((.ptr H.length 0),H++[.cells [(.int .i64 0),(.int .u64 0),(.int .u64 0),(.int .u64 0),(.int .u64 0),(.int .i64 0),(.int .i64 0),(.int .i64 0),.nils]])) fun r5=>
 bnd (astoreU 9 r5.1 t12 r5.2) fun r_16=>
 bnd (aload true 9 r5.1 r_16.2) fun t14=>
 bnd (cV (.fn (.func 107) [] []) [t14] r_16.2) fun r15=>
 bnd ((setElems 9 [(0,r15.1)] [(.agg [(.int .i64 0),(.int .u64 0),(.int .u64 0),(.int .u64 0),(.int .u64 0),(.int .i64 0),(.int .i64 0),(.int .i64 0),.nils])]).map (.vs 9 .clip)) fun t16=>
 bnd (aappE 9 88 x3 t16 r15.2) fun r17=>
 j107_3 x1 x2 r17.1 x7 x8 x9 r17.2
theorem e107_2 (H0:Hp) (x1 x2 x3 x7 x8 x9 x10:AV) (H:Hp):j107_2 H0 x1 x2 x3 x7 x8 x9 x10 H=b107_2 (j107_3 H0) (acall cfg (callw cfg)) x1 x2 x3 x7 x8 x9 x10 H:=(CXM_eq [4,6,7] _ _ _ _).trans (by kernel_rfl)
theorem m107_2 {j107_3 dj107_3:A6} (hj107_3:L6 j107_3 dj107_3) {cV dcV:AV→List AV→Hp→Res} (hcV:LV cV dcV):L7 (b107_2 j107_3 cV) (b107_2 dj107_3 dcV):=fun _ _ _ _ _ _ _ _=>
 bR fun _=>bR fun _=>bR fun _=>bR fun _=>bR fun _=>bC (hcV _ _ _) fun _=>bR fun _=>bR fun _=>hj107_3 _ _ _ _ _ _ _
def b107_l1 (j107_1:A3) (j107_2:A7) (x1 x2 x3 x7 x8 x9:AV) (H:Hp):Res:=
 bnd (ibin .lss x9 x8) fun t10=>
 cnd t10
  (j107_2 x1 x2 x3 x7 x8 x9 t10 H)
  (j107_1 x1 x2 x3 H)
theorem e107_l1 (H0:Hp) (x1 x2 x3 x7 x8 x9:AV) (H:Hp):j107_l1 H0 x1 x2 x3 x7 x8 x9 H=b107_l1 (j107_1 H0) (j107_2 H0) x1 x2 x3 x7 x8 x9 H:=(LPL_eqm (C:=cfg) [4,6,7] (tame_block 0 (k107_1_tame H0)) _ _).trans (by kernel_rfl)
theorem m107_l1 {j107_1 dj107_1:A3} (hj107_1:L3 j107_1 dj107_1) {j107_2 dj107_2:A7} (hj107_2:L7 j107_2 dj107_2):L6 (b107_l1 j107_1 j107_2) (b107_l1 dj107_1 dj107_2):=fun _ _ _ _ _ _ _=>
 bR fun _=>bK (hj107_2 _ _ _ _ _ _ _ _) (hj107_1 _ _ _ _)
def rj107_1 (gV:AV→List AV→Hp→Res):A3:=b107_1
theorem sj107_1 (H0:Hp) {gV:AV→List AV→Hp→Res} (hV:LV gV (acall cfg (callw cfg))):L3 (rj107_1 gV) (j107_1 H0):=fun _ _ _ _=>le_eq (m107_1 _ _ _ _) (e107_1 H0 _ _ _ _)
def rj107_3 (gV:AV→List AV→Hp→Res) (j107_l1:A6):A6:=b107_3 j107_l1
theorem sj107_3 (H0:Hp) {gV:AV→List AV→Hp→Res} (hV:LV gV (acall cfg (callw cfg))) {yj107_l1:A6} (hj107_l1:L6 yj107_l1 (j107_l1 H0)):L6 (rj107_3 gV yj107_l1) (j107_3 H0):=fun _ _ _ _ _ _ _=>le_eq (m107_3 hj107_l1 _ _ _ _ _ _ _) (e107_3 H0 _ _ _ _ _ _ _)
def rj107_2 (gV:AV→List AV→Hp→Res) (j107_l1:A6):A7:=b107_2 (rj107_3 gV j107_l1) gV
theorem sj107_2 (H0:Hp) {gV:AV→List AV→Hp→Res} (hV:LV gV (acall cfg (callw cfg))) {yj107_l1:A6} (hj107_l1:L6 yj107_l1 (j107_l1 H0)):L7 (rj107_2 gV yj107_l1) (j107_2 H0):=fun _ _ _ _ _ _ _ _=>le_eq (m107_2 (sj107_3 H0 hV hj107_l1) hV _ _ _ _ _ _ _ _) (e107_2 H0 _ _ _ _ _ _ _ _)
def rj107_l1 (gV:AV→List AV→Hp→Res) (n:Nat):A6:=@Nat.rec (fun _=>A6) (fun _ _ _ _ _ _ _=>none) (fun _ j107_l1=>b107_l1 (rj107_1 gV) (rj107_2 gV j107_l1)) n
theorem sj107_l1 (H0:Hp) {gV:AV→List AV→Hp→Res} (hV:LV gV (acall cfg (callw cfg))) (n:Nat):L6 (rj107_l1 gV n) (j107_l1 H0):=by
 induction n with
 | zero=>exact fun _ _ _ _ _ _ _=>le_none _
 | succ n hj107_l1=>exact fun _ _ _ _ _ _ _=>le_eq (m107_l1 (sj107_1 H0 hV) (sj107_2 H0 hV hj107_l1) _ _ _ _ _ _ _) (e107_l1 H0 _ _ _ _ _ _ _)
def bc107 (j107_l1:A6) (p0:AV) (H:Hp):Res:=
 bnd (abox p0 H) fun r1=>
 bnd (some ((.ptr r1.2.length 0),r1.2++[.cells [(.int .i64 0),(.int .u64 0),(.int .u64 0),(.int .u64 0),(.int .u64 0),(.int .i64 0),(.int .i64 0),(.int .i64 0),.nils]])) fun r2=>
 bnd (afield 8 r1.1) fun t6=>
 bnd (aload false 1 t6 r2.2) fun t7=>
 bnd (alenD (.slice 41) t7) fun t8=>
 j107_l1 r1.1 r2.1 .nils t7 t8 (.int .i64 0) r2.2
theorem ec107 (p0:AV) (H:Hp):c107 p0 H=bc107 (j107_l1 H) p0 H:=(callw_cxm (C:=cfg) (fn:=Tryz.f107) (c:=bodyOf Tryz.f107) (n:=22) [4,6,7] Tryz.func107 (by kernel_rfl) (by kernel_rfl) [p0] (by kernel_rfl) H).trans (by kernel_rfl)
theorem mc107 {j107_l1 dj107_l1:A6} (hj107_l1:L6 j107_l1 dj107_l1):L1 (bc107 j107_l1) (bc107 dj107_l1):=fun _ _=>
 bR fun _=>bR fun _=>bR fun _=>bR fun _=>bR fun _=>hj107_l1 _ _ _ _ _ _ _
def rc107 (gV:AV→List AV→Hp→Res):A1:=fun p0 H=>bc107 (rj107_l1 gV 100000) p0 H
theorem sc107 {gV:AV→List AV→Hp→Res} (hV:LV gV (acall cfg (callw cfg))):L1 (rc107 gV) c107:=fun _ H=>le_eq (mc107 (sj107_l1 H hV 100000) _ _) (ec107 _ _)

def c141 (p0 p1 p2:AV) (H:Hp):Res:=callw cfg 141 [p0,p1,p2] H
def bc141 (p0 p1 p2:AV) (H:Hp):Res:=
 bnd (abox p0 H) fun r3=>
 bnd (some ((.ptr r3.2.length 0),r3.2++[.cells [(.int .i64 0),(.int .u64 0),(.int .u64 0),(.int .u64 0),(.int .u64 0),(.int .i64 0),(.int .i64 0),(.int .i64 0),.nils]])) fun r6=>
 bnd (aload true 9 r3.1 r6.2) fun t9=>
 bnd ((setElems 9 [(0,t9)] [(.agg [(.int .i64 0),(.int .u64 0),(.int .u64 0),(.int .u64 0),(.int .u64 0),(.int .i64 0),(.int .i64 0),(.int .i64 0),.nils])]).map (.vs 9 .clip)) fun t10=>
 bnd ((afill [(0,1,(.int .i64 5)),(5,1,p1),(6,1,p2),(8,1,t10)] [(.int .i64 0),(.int .u64 0),(.int .u64 0),(.int .u64 0),(.int .u64 0),(.int .i64 0),(.int .i64 0),(.int .i64 0),.nils]).map .agg) fun t11=>
 bnd (astoreU 9 r6.1 t11 r6.2) fun r_6=>
 bnd (aload true 9 r6.1 r_6.2) fun v6=>
 some (v6,r_6.2)
theorem ec141 (p0 p1 p2:AV) (H:Hp):c141 p0 p1 p2 H=bc141 p0 p1 p2 H:=(callw_cxm (C:=cfg) (fn:=Tryz.f141) (c:=bodyOf Tryz.f141) (n:=12) [] Tryz.func141 (by kernel_rfl) (by kernel_rfl) [p0,p1,p2] (by kernel_rfl) H).trans (by kernel_rfl)
theorem mc141:L3 (bc141) (bc141):=fun _ _ _ _=>
 bR fun _=>bR fun _=>bR fun _=>bR fun _=>bR fun _=>bR fun _=>bR fun _=>le_refl _
def rc141:A3:=fun p0 p1 p2 H=>bc141 p0 p1 p2 H
theorem sc141:L3 rc141 c141:=fun _ _ _ H=>le_eq (mc141 _ _ _ _) (ec141 _ _ _ _)

def c142 (p0 p1:AV) (H:Hp):Res:=callw cfg 142 [p0,p1] H
def j142_1 (H0:Hp) (x5:AV) (H:Hp):Res:=CXf 142 20 (sub (bodyOf Tryz.f142) [1,1,1]) (retL cfg 20 142 Tryz.f142 H0) [(5,x5)] H
def k142_1 (H0:Hp):KL:=seqL (fun k al H=>CXf 142 20 (sub (bodyOf Tryz.f142) [1,1,1]) k (trimL (cfg.keep 142) (sub (bodyOf Tryz.f142) [1,1,1]) al) H) (retL cfg 20 142 Tryz.f142 H0)
theorem k142_1_tame (H0:Hp):Tame 20 (k142_1 H0):=tame_seq (C:=cfg) (kp:=cfg.keep 142) (sub (bodyOf Tryz.f142) [1,1,1]) (tame_ret 142 Tryz.f142 H0)
def j142_3 (H0:Hp) (x2 x5 x10 x11:AV) (H:Hp):Res:=CXf 142 20 (sub (bodyOf Tryz.f142) [1,1,0,1,0,0,1,1,1]) (seqL (fun k al H=>LPf 142 20 (sub (bodyOf Tryz.f142) [1,1,0,1,0,0]) k (trimL (cfg.keep 142) (sub (bodyOf Tryz.f142) [1,1,0,1,0,0]) al) H) (blockL 0 (k142_1 H0))) [(2,x2),(5,x5),(10,x10),(11,x11)] H
def j142_2 (H0:Hp) (x2 x5 x10 x11 x12:AV) (H:Hp):Res:=CXf 142 20 (sub (bodyOf Tryz.f142) [1,1,0,1,0,0,1,1]) (seqL (fun k al H=>LPf 142 20 (sub (bodyOf Tryz.f142) [1,1,0,1,0,0]) k (trimL (cfg.keep 142) (sub (bodyOf Tryz.f142) [1,1,0,1,0,0]) al) H) (blockL 0 (k142_1 H0))) [(2,x2),(5,x5),(10,x10),(11,x11),(12,x12)] H
def j142_l1 (H0:Hp) (x2 x5 x10 x11:AV) (H:Hp):Res:=LPf 142 20 (sub (bodyOf Tryz.f142) [1,1,0,1,0,0]) (blockL 0 (k142_1 H0)) [(2,x2),(5,x5),(10,x10),(11,x11)] H
def b142_1 (x5:AV) (H:Hp):Res:=
 some (x5,H)
theorem e142_1 (H0:Hp) (x5:AV) (H:Hp):j142_1 H0 x5 H=b142_1 x5 H:=(CXM_eq [4,6,7] _ _ _ _).trans (by kernel_rfl)
theorem m142_1:L1 (b142_1) (b142_1):=fun _ _=>
 le_refl _
def b142_3 (j142_l1:A4) (x2 x5 x10 x11:AV) (H:Hp):Res:=
 bnd (ibin .add x11 (.int .i64 1)) fun t18=>
 j142_l1 x2 x5 x10 t18 H
theorem e142_3 (H0:Hp) (x2 x5 x10 x11:AV) (H:Hp):j142_3 H0 x2 x5 x10 x11 H=b142_3 (j142_l1 H0) x2 x5 x10 x11 H:=(CXM_eq [4,6,7] _ _ _ _).trans (by kernel_rfl)
theorem m142_3 {j142_l1 dj142_l1:A4} (hj142_l1:L4 j142_l1 dj142_l1):L4 (b142_3 j142_l1) (b142_3 dj142_l1):=fun _ _ _ _ _=>
 bR fun _=>hj142_l1 _ _ _ _ _
def b142_2 (j142_3:A4) (x2 x5 x10 x11 x12:AV) (H:Hp):Res:=
 bnd (aload true 9 x2 H) fun t16=>
 bnd (aindexS 9 x5 x11) fun t17=>
 bnd (astoreU 9 t17 t16 H) fun r_8=>
 j142_3 x2 x5 x10 x11 r_8.2
theorem e142_2 (H0:Hp) (x2 x5 x10 x11 x12:AV) (H:Hp):j142_2 H0 x2 x5 x10 x11 x12 H=b142_2 (j142_3 H0) x2 x5 x10 x11 x12 H:=(CXM_eq [4,6,7] _ _ _ _).trans (by kernel_rfl)
theorem m142_2 {j142_3 dj142_3:A4} (hj142_3:L4 j142_3 dj142_3):L5 (b142_2 j142_3) (b142_2 dj142_3):=fun _ _ _ _ _ _=>
 bR fun _=>bR fun _=>bR fun _=>hj142_3 _ _ _ _ _
def b142_l1 (j142_1:A1) (j142_2:A5) (x2 x5 x10 x11:AV) (H:Hp):Res:=
 bnd (ibin .lss x11 x10) fun t12=>
 cnd t12
  (j142_2 x2 x5 x10 x11 t12 H)
  (j142_1 x5 H)
theorem e142_l1 (H0:Hp) (x2 x5 x10 x11:AV) (H:Hp):j142_l1 H0 x2 x5 x10 x11 H=b142_l1 (j142_1 H0) (j142_2 H0) x2 x5 x10 x11 H:=(LPL_eqm (C:=cfg) [4,6,7] (tame_block 0 (k142_1_tame H0)) _ _).trans (by kernel_rfl)
theorem m142_l1 {j142_1 dj142_1:A1} (hj142_1:L1 j142_1 dj142_1) {j142_2 dj142_2:A5} (hj142_2:L5 j142_2 dj142_2):L4 (b142_l1 j142_1 j142_2) (b142_l1 dj142_1 dj142_2):=fun _ _ _ _ _=>
 bR fun _=>bK (hj142_2 _ _ _ _ _ _) (hj142_1 _ _)
def rj142_1:A1:=b142_1
theorem sj142_1 (H0:Hp):L1 (rj142_1) (j142_1 H0):=fun _ _=>le_eq (m142_1 _ _) (e142_1 H0 _ _)
def rj142_3 (j142_l1:A4):A4:=b142_3 j142_l1
theorem sj142_3 (H0:Hp) {yj142_l1:A4} (hj142_l1:L4 yj142_l1 (j142_l1 H0)):L4 (rj142_3 yj142_l1) (j142_3 H0):=fun _ _ _ _ _=>le_eq (m142_3 hj142_l1 _ _ _ _ _) (e142_3 H0 _ _ _ _ _)
def rj142_2 (j142_l1:A4):A5:=b142_2 (rj142_3 j142_l1)
theorem sj142_2 (H0:Hp) {yj142_l1:A4} (hj142_l1:L4 yj142_l1 (j142_l1 H0)):L5 (rj142_2 yj142_l1) (j142_2 H0):=fun _ _ _ _ _ _=>le_eq (m142_2 (sj142_3 H0 hj142_l1) _ _ _ _ _ _) (e142_2 H0 _ _ _ _ _ _)
def rj142_l1 (n:Nat):A4:=@Nat.rec (fun _=>A4) (fun _ _ _ _ _=>none) (fun _ j142_l1=>b142_l1 (rj142_1) (rj142_2 j142_l1)) n
theorem sj142_l1 (H0:Hp) (n:Nat):L4 (rj142_l1 n) (j142_l1 H0):=by
 induction n with
 | zero=>exact fun _ _ _ _ _=>le_none _
 | succ n hj142_l1=>exact fun _ _ _ _ _=>le_eq (m142_l1 (sj142_1 H0) (sj142_2 H0 hj142_l1) _ _ _ _ _) (e142_l1 H0 _ _ _ _ _)
def bc142 (j142_l1:A4) (p0 p1:AV) (H:Hp):Res:=
 bnd (abox p0 H) fun r2=>
 bnd (amake 9 88 true (.agg [(.int .i64 0),(.int .u64 0),(.int .u64 0),(.int .u64 0),(.int .u64 0),(.int .i64 0),(.int .i64 0),(.int .i64 0),.nils]) p1 p1 r2.2) fun r8=>
 bnd (alenD (.slice 41) r8.1) fun t10=>
 j142_l1 r2.1 r8.1 t10 (.int .i64 0) r8.2
theorem ec142 (p0 p1:AV) (H:Hp):c142 p0 p1 H=bc142 (j142_l1 H) p0 p1 H:=(callw_cxm (C:=cfg) (fn:=Tryz.f142) (c:=bodyOf Tryz.f142) (n:=20) [4,6,7] Tryz.func142 (by kernel_rfl) (by kernel_rfl) [p0,p1] (by kernel_rfl) H).trans (by kernel_rfl)
theorem mc142 {j142_l1 dj142_l1:A4} (hj142_l1:L4 j142_l1 dj142_l1):L2 (bc142 j142_l1) (bc142 dj142_l1):=fun _ _ _=>
 bR fun _=>bR fun _=>bR fun _=>hj142_l1 _ _ _ _ _
def rc142:A2:=fun p0 p1 H=>bc142 (rj142_l1 100000) p0 p1 H
theorem sc142:L2 rc142 c142:=fun _ _ H=>le_eq (mc142 (sj142_l1 H 100000) _ _ _) (ec142 _ _ _)

def c130 (p0 p1 p2:AV) (H:Hp):Res:=callw cfg 130 [p0,p1,p2] H
def j130_1 (H0:Hp) (x1 x2 x3 x6:AV) (H:Hp):Res:=CXf 130 73 (sub (bodyOf Tryz.f130) [1,1]) (retL cfg 73 130 Tryz.f130 H0) [(1,x1),(2,x2),(3,x3),(6,x6)] H
def b130_1 (c141:A3) (c142:A2) (x1 x2 x3 x6:AV) (H:Hp):Res:=
 frzK x3 H fun z3 z3H=>
 bnd (aload true 9 z3 z3H) fun t62=>
 bnd (c142 t62 x1 z3H) fun r64=>
 bnd (aloadv true 9 z3) fun t65=>
 bnd (c141 t65 (.int .i64 0) (.int .i64 1) r64.2) fun r66=>
 bnd (ibin .sub x2 x1) fun t69=>
 bnd (c142 r66.1 t69 r66.2) fun r70=>
 bnd (aappE 9 88 r64.1 r70.1 r70.2) fun r71=>
 bnd ((afill [(0,1,(.int .i64 3)),(8,1,r71.1)] [(.int .i64 0),(.int .u64 0),(.int .u64 0),(.int .u64 0),(.int .u64 0),(.int .i64 0),(.int .i64 0),(.int .i64 0),.nils]).map .agg) fun t72=>
 bnd (astoreU 9 x6 t72 r71.2) fun r_12=>
 bnd (aload true 9 x6 r_12.2) fun v6=>
 some (v6,r_12.2)
theorem e130_1 (H0:Hp) (x1 x2 x3 x6:AV) (H:Hp):j130_1 H0 x1 x2 x3 x6 H=b130_1 c141 c142 x1 x2 x3 x6 H:=(CXM_eq [11] _ _ _ _).trans (by kernel_rfl)
theorem m130_1 {c141 dc141:A3} (hc141:L3 c141 dc141) {c142 dc142:A2} (hc142:L2 c142 dc142):L4 (b130_1 c141 c142) (b130_1 dc141 dc142):=fun _ _ _ _ _=>
 bF fun _ _=>bR fun _=>bC (hc142 _ _ _) fun _=>bR fun _=>bC (hc141 _ _ _ _) fun _=>bR fun _=>bC (hc142 _ _ _) fun _=>bR fun _=>bR fun _=>bR fun _=>bR fun _=>le_refl _
def rj130_1:A4:=b130_1 rc141 rc142
theorem sj130_1 (H0:Hp):L4 (rj130_1) (j130_1 H0):=fun _ _ _ _ _=>le_eq (m130_1 sc141 sc142 _ _ _ _ _) (e130_1 H0 _ _ _ _ _)
def bc130 (c141:A3) (c142:A2) (j130_1:A4) (p0 p1 p2:AV) (H:Hp):Res:=
 bnd (abox p0 H) fun r3=>
 bnd (some ((.ptr r3.2.length 0),r3.2++[.cells [(.int .i64 0),(.int .u64 0),(.int .u64 0),(.int .u64 0),(.int .u64 0),(.int .i64 0),(.int .i64 0),(.int .i64 0),.nils]])) fun r6=>
 bnd (ibin .eql p1 (.int .i64 0)) fun t9=>
 bnd (gdv t9 true (.tuple []) (some p2)) fun t11=>
 bnd (gdv t9 true (.tuple []) (ibin .eql t11 (.int .i64 1))) fun t12=>
 bnd (gdv t9 true (.tuple []) (some t12)) fun t13=>
 bnd (gdv t13 false (.tuple []) (some p2)) fun t14=>
 bnd (gdv t13 false (.tuple []) (ibin .eql t14 (.int .i64 (-1)))) fun t15=>
 bnd (gdv t9 true (.tuple []) (apick t13 (.bool true) t15)) fun t16=>
 bnd (apick t9 t16 (.bool false)) fun t17=>
 bnd (gdv t17 false (.tuple []) (some p1)) fun t19=>
 bnd (gdv t17 false (.tuple []) (ibin .eql t19 (.int .i64 1))) fun t20=>
 bnd (gdv t17 false (.tuple []) (some t20)) fun t21=>
 bnd (gdv t21 true (.tuple []) (some p2)) fun t22=>
 bnd (gdv t21 true (.tuple []) (ibin .eql t22 (.int .i64 (-1)))) fun t23=>
 bnd (gdv t17 false (.tuple []) (apick t21 t23 (.bool false))) fun t24=>
 bnd (apick t17 (.bool true) t24) fun t25=>
 cnd t25
  (bnd (aload true 9 r3.1 r6.2) fun t26=>
  bnd (c141 t26 p1 p2 r6.2) fun r29=>
  bnd (astoreU 9 r6.1 r29.1 r29.2) fun r_31=>
  bnd (aload true 9 r6.1 r_31.2) fun v6=>
  some (v6,r_31.2))
  (bnd (ibin .eql p2 (.int .i64 0)) fun t32=>
  cnd t32
   (bnd ((afill [(0,1,(.int .i64 1))] [(.int .i64 0),(.int .u64 0),(.int .u64 0),(.int .u64 0),(.int .u64 0),(.int .i64 0),(.int .i64 0),(.int .i64 0),.nils]).map .agg) fun t33=>
   bnd (astoreU 9 r6.1 t33 r6.2) fun r_35=>
   bnd (aload true 9 r6.1 r_35.2) fun v6=>
   some (v6,r_35.2))
   (bnd (ibin .eql p1 (.int .i64 1)) fun t36=>
   bnd (gdv t36 true (.tuple []) (some p2)) fun t38=>
   bnd (gdv t36 true (.tuple []) (ibin .eql t38 (.int .i64 1))) fun t39=>
   bnd (apick t36 t39 (.bool false)) fun t40=>
   cnd t40
    (bnd (aload true 9 r3.1 r6.2) fun t41=>
    bnd (astoreU 9 r6.1 t41 r6.2) fun r_42=>
    bnd (aload true 9 r6.1 r_42.2) fun v6=>
    some (v6,r_42.2))
    (bnd (ibin .eql p2 p1) fun t45=>
    cnd t45
     (bnd (aload true 9 r3.1 r6.2) fun t46=>
     bnd (c142 t46 p1 r6.2) fun r48=>
     bnd ((afill [(0,1,(.int .i64 3)),(8,1,r48.1)] [(.int .i64 0),(.int .u64 0),(.int .u64 0),(.int .u64 0),(.int .u64 0),(.int .i64 0),(.int .i64 0),(.int .i64 0),.nils]).map .agg) fun t49=>
     bnd (astoreU 9 r6.1 t49 r48.2) fun r_48=>
     bnd (aload true 9 r6.1 r_48.2) fun v6=>
     some (v6,r_48.2))
     (bnd (ibin .eql p2 (.int .i64 (-1))) fun t52=>
     cnd t52
      (frzK r3.1 r6.2 fun z3 z3H=>
      bnd (aload true 9 z3 z3H) fun t53=>
      bnd (ibin .sub p1 (.int .i64 1)) fun t55=>
      bnd (c142 t53 t55 z3H) fun r56=>
      bnd (aloadv true 9 z3) fun t57=>
      bnd (c141 t57 (.int .i64 1) (.int .i64 (-1)) r56.2) fun r58=>
      bnd ((setElems 9 [(0,r58.1)] [(.agg [(.int .i64 0),(.int .u64 0),(.int .u64 0),(.int .u64 0),(.int .u64 0),(.int .i64 0),(.int .i64 0),(.int .i64 0),.nils])]).map (.vs 9 .clip)) fun t59=>
      bnd (aappE 9 88 r56.1 t59 r58.2) fun r60=>
      bnd ((afill [(0,1,(.int .i64 3)),(8,1,r60.1)] [(.int .i64 0),(.int .u64 0),(.int .u64 0),(.int .u64 0),(.int .u64 0),(.int .i64 0),(.int .i64 0),(.int .i64 0),.nils]).map .agg) fun t61=>
      bnd (astoreU 9 r6.1 t61 r60.2) fun r_60=>
      bnd (aload true 9 r6.1 r_60.2) fun v6=>
      some (v6,r_60.2))
      (j130_1 p1 p2 r3.1 r6.1 r6.2)))))
theorem ec130 (p0 p1 p2:AV) (H:Hp):c130 p0 p1 p2 H=bc130 c141 c142 (j130_1 H) p0 p1 p2 H:=(callw_cxm (C:=cfg) (fn:=Tryz.f130) (c:=bodyOf Tryz.f130) (n:=73) [11] Tryz.func130 (by kernel_rfl) (by kernel_rfl) [p0,p1,p2] (by kernel_rfl) H).trans (by kernel_rfl)
theorem mc130 {c141 dc141:A3} (hc141:L3 c141 dc141) {c142 dc142:A2} (hc142:L2 c142 dc142) {j130_1 dj130_1:A4} (hj130_1:L4 j130_1 dj130_1):L3 (bc130 c141 c142 j130_1) (bc130 dc141 dc142 dj130_1):=fun _ _ _ _=>
 bR fun _=>bR fun _=>bR fun _=>bR fun _=>bR fun _=>bR fun _=>bR fun _=>bR fun _=>bR fun _=>bR fun _=>bR fun _=>bR fun _=>bR fun _=>bR fun _=>bR fun _=>bR fun _=>bR fun _=>bK (bR fun _=>bC (hc141 _ _ _ _) fun _=>bR fun _=>bR fun _=>le_refl _) (bR fun _=>bK (bR fun _=>bR fun _=>bR fun _=>le_refl _) (bR fun _=>bR fun _=>bR fun _=>bR fun _=>bK (bR fun _=>bR fun _=>bR fun _=>le_refl _) (bR fun _=>bK (bR fun _=>bC (hc142 _ _ _) fun _=>bR fun _=>bR fun _=>bR fun _=>le_refl _) (bR fun _=>bK (bF fun _ _=>bR fun _=>bR fun _=>bC (hc142 _ _ _) fun _=>bR fun _=>bC (hc141 _ _ _ _) fun _=>bR fun _=>bR fun _=>bR fun _=>bR fun _=>bR fun _=>le_refl _) (hj130_1 _ _ _ _ _)))))
def rc130:A3:=fun p0 p1 p2 H=>bc130 rc141 rc142 (rj130_1) p0 p1 p2 H
theorem sc130:L3 rc130 c130:=fun _ _ _ H=>le_eq (mc130 sc141 sc142 (sj130_1 H) _ _ _ _) (ec130 _ _ _ _)

def c108 (p0:AV) (H:Hp):Res:=callw cfg 108 [p0] H
def j108_3 (H0:Hp) (x2 x3:AV) (H:Hp):Res:=CXf 108 45 (sub (bodyOf Tryz.f108) [1,1,1,1,1,1]) (retL cfg 45 108 Tryz.f108 H0) [(2,x2),(3,x3)] H
def j108_2 (H0:Hp) (x1 x2 x3:AV) (H:Hp):Res:=CXf 108 45 (sub (bodyOf Tryz.f108) [1,1,1,1,1]) (retL cfg 45 108 Tryz.f108 H0) [(1,x1),(2,x2),(3,x3)] H
def k108_1 (H0:Hp):KL:=seqL (fun k al H=>CXf 108 45 (sub (bodyOf Tryz.f108) [1,1,1,1,1]) k (trimL (cfg.keep 108) (sub (bodyOf Tryz.f108) [1,1,1,1,1]) al) H) (retL cfg 45 108 Tryz.f108 H0)
theorem k108_1_tame (H0:Hp):Tame 45 (k108_1 H0):=tame_seq (C:=cfg) (kp:=cfg.keep 108) (sub (bodyOf Tryz.f108) [1,1,1,1,1]) (tame_ret 108 Tryz.f108 H0)
def j108_5 (H0:Hp) (x1 x2 x3 x18 x19 x20:AV) (H:Hp):Res:=CXf 108 45 (sub (bodyOf Tryz.f108) [1,1,1,1,0,1,0,0,1,1,1]) (seqL (fun k al H=>LPf 108 45 (sub (bodyOf Tryz.f108) [1,1,1,1,0,1,0,0]) k (trimL (cfg.keep 108) (sub (bodyOf Tryz.f108) [1,1,1,1,0,1,0,0]) al) H) (blockL 0 (k108_1 H0))) [(1,x1),(2,x2),(3,x3),(18,x18),(19,x19),(20,x20)] H
def j108_4 (H0:Hp) (x1 x2 x3 x18 x19 x20 x21:AV) (H:Hp):Res:=CXf 108 45 (sub (bodyOf Tryz.f108) [1,1,1,1,0,1,0,0,1,1]) (seqL (fun k al H=>LPf 108 45 (sub (bodyOf Tryz.f108) [1,1,1,1,0,1,0,0]) k (trimL (cfg.keep 108) (sub (bodyOf Tryz.f108) [1,1,1,1,0,1,0,0]) al) H) (blockL 0 (k108_1 H0))) [(1,x1),(2,x2),(3,x3),(18,x18),(19,x19),(20,x20),(21,x21)] H
def j108_l1 (H0:Hp) (x1 x2 x3 x18 x19 x20:AV) (H:Hp):Res:=LPf 108 45 (sub (bodyOf Tryz.f108) [1,1,1,1,0,1,0,0]) (blockL 0 (k108_1 H0)) [(1,x1),(2,x2),(3,x3),(18,x18),(19,x19),(20,x20)] H
def j108_1 (H0:Hp) (x1 x2:AV) (H:Hp):Res:=CXf 108 45 (sub (bodyOf Tryz.f108) [1,1]) (retL cfg 45 108 Tryz.f108 H0) [(1,x1),(2,x2)] H
def b108_3 (x2 x3:AV) (H:Hp):Res:=
 bnd (aload true 9 x3 H) fun t44=>
 bnd (astoreU 9 x2 t44 H) fun r_9=>
 bnd (aload true 9 x2 r_9.2) fun v2=>
 some (v2,r_9.2)
theorem e108_3 (H0:Hp) (x2 x3:AV) (H:Hp):j108_3 H0 x2 x3 H=b108_3 x2 x3 H:=(CXM_eq [3,7,9,10,12] _ _ _ _).trans (by kernel_rfl)
theorem m108_3:L2 (b108_3) (b108_3):=fun _ _ _=>
 bR fun _=>bR fun _=>bR fun _=>le_refl _
def b108_2 (c130:A3) (j108_3:A2) (x1 x2 x3:AV) (H:Hp):Res:=
 bnd (afield 0 x1) fun t32=>
 bnd (aload false 1 t32 H) fun t33=>
 bnd (ibin .eql t33 (.int .i64 5)) fun t34=>
 cnd t34
  (bnd (afield 8 x3) fun t35=>
  bnd (aload false 1 t35 H) fun t36=>
  bnd (aindexS 9 t36 (.int .i64 0)) fun t37=>
  bnd (aload true 9 t37 H) fun t38=>
  bnd (afield 5 x1) fun t39=>
  bnd (aload false 1 t39 H) fun t40=>
  bnd (afield 6 x1) fun t41=>
  bnd (aload false 1 t41 H) fun t42=>
  bnd (c130 t38 t40 t42 H) fun r43=>
  bnd (astoreU 9 x2 r43.1 r43.2) fun r_23=>
  bnd (aload true 9 x2 r_23.2) fun v2=>
  some (v2,r_23.2))
  (j108_3 x2 x3 H)
theorem e108_2 (H0:Hp) (x1 x2 x3:AV) (H:Hp):j108_2 H0 x1 x2 x3 H=b108_2 c130 (j108_3 H0) x1 x2 x3 H:=(CXM_eq [3,7,9,10,12] _ _ _ _).trans (by kernel_rfl)
theorem m108_2 {c130 dc130:A3} (hc130:L3 c130 dc130) {j108_3 dj108_3:A2} (hj108_3:L2 j108_3 dj108_3):L3 (b108_2 c130 j108_3) (b108_2 dc130 dj108_3):=fun _ _ _ _=>
 bR fun _=>bR fun _=>bR fun _=>bK (bR fun _=>bR fun _=>bR fun _=>bR fun _=>bR fun _=>bR fun _=>bR fun _=>bR fun _=>bC (hc130 _ _ _ _) fun _=>bR fun _=>bR fun _=>le_refl _) (hj108_3 _ _ _)
def b108_5 (j108_l1:A6) (x1 x2 x3 x18 x19 x20:AV) (H:Hp):Res:=
 bnd (ibin .add x20 (.int .i64 1)) fun t31=>
 j108_l1 x1 x2 x3 x18 x19 t31 H
theorem e108_5 (H0:Hp) (x1 x2 x3 x18 x19 x20:AV) (H:Hp):j108_5 H0 x1 x2 x3 x18 x19 x20 H=b108_5 (j108_l1 H0) x1 x2 x3 x18 x19 x20 H:=(CXM_eq [3,7,9,10,12] _ _ _ _).trans (by kernel_rfl)
theorem m108_5 {j108_l1 dj108_l1:A6} (hj108_l1:L6 j108_l1 dj108_l1):L6 (b108_5 j108_l1) (b108_5 dj108_l1):=fun _ _ _ _ _ _ _=>
 bR fun _=>hj108_l1 _ _ _ _ _ _ _
def b108_4 (j108_5:A6) (cV:AV→List AV→Hp→Res) (x1 x2 x3 x18 x19 x20 x21:AV) (H:Hp):Res:=
 bnd (aindexS 9 x18 x20) fun t22=>
 bnd (aload true 9 t22 H) fun t23=>
 bnd (some ((.ptr H.length 0),H++[.cells [(.int .i64 0),(.int .u64 0),(.int .u64 0),(.int .u64 0),(.int .u64 0),(.int .i64 0),(.int .i64 0),(.int .i64 0),.nils]])) fun r5=>
 bnd (astoreU 9 r5.1 t23 r5.2) fun r_33=>
 bnd (afield 8 x3) fun t24=>
 bnd (aload false 1 t24 r_33.2) fun t25=>
 bnd (aload true 9 r5.1 r_33.2) fun t26=>
 bnd (cV (.fn (.func 108) [] []) [t26] r_33.2) fun r27=>
 bnd ((setElems 9 [(0,r27.1)] [(.agg [(.int .i64 0),(.int .u64 0),(.int .u64 0),(.int .u64 0),(.int .u64 0),(.int .i64 0),(.int .i64 0),(.int .i64 0),.nils])]).map (.vs 9 .clip)) fun t28=>
 bnd (aappE 9 88 t25 t28 r27.2) fun r29=>
 bnd (afield 8 x3) fun t30=>
 bnd (astoreU 1 t30 r29.1 r29.2) fun r_41=>
 j108_5 x1 x2 x3 x18 x19 x20 r_41.2
theorem e108_4 (H0:Hp) (x1 x2 x3 x18 x19 x20 x21:AV) (H:Hp):j108_4 H0 x1 x2 x3 x18 x19 x20 x21 H=b108_4 (j108_5 H0) (acall cfg (callw cfg)) x1 x2 x3 x18 x19 x20 x21 H:=(CXM_eq [3,7,9,10,12] _ _ _ _).trans (by kernel_rfl)
theorem m108_4 {j108_5 dj108_5:A6} (hj108_5:L6 j108_5 dj108_5) {cV dcV:AV→List AV→Hp→Res} (hcV:LV cV dcV):L7 (b108_4 j108_5 cV) (b108_4 dj108_5 dcV):=fun _ _ _ _ _ _ _ _=>
 bR fun _=>bR fun _=>bR fun _=>bR fun _=>bR fun _=>bR fun _=>bR fun _=>bC (hcV _ _ _) fun _=>bR fun _=>bR fun _=>bR fun _=>bR fun _=>hj108_5 _ _ _ _ _ _ _
def b108_l1 (j108_2:A3) (j108_4:A7) (x1 x2 x3 x18 x19 x20:AV) (H:Hp):Res:=
 bnd (ibin .lss x20 x19) fun t21=>
 cnd t21
  (j108_4 x1 x2 x3 x18 x19 x20 t21 H)
  (j108_2 x1 x2 x3 H)
theorem e108_l1 (H0:Hp) (x1 x2 x3 x18 x19 x20:AV) (H:Hp):j108_l1 H0 x1 x2 x3 x18 x19 x20 H=b108_l1 (j108_2 H0) (j108_4 H0) x1 x2 x3 x18 x19 x20 H:=(LPL_eqm (C:=cfg) [3,7,9,10,12] (tame_block 0 (k108_1_tame H0)) _ _).trans (by kernel_rfl)
theorem m108_l1 {j108_2 dj108_2:A3} (hj108_2:L3 j108_2 dj108_2) {j108_4 dj108_4:A7} (hj108_4:L7 j108_4 dj108_4):L6 (b108_l1 j108_2 j108_4) (b108_l1 dj108_2 dj108_4):=fun _ _ _ _ _ _ _=>
 bR fun _=>bK (hj108_4 _ _ _ _ _ _ _ _) (hj108_2 _ _ _ _)
def b108_1 (j108_l1:A6) (x1 x2:AV) (H:Hp):Res:=
 bnd (aload true 9 x1 H) fun t15=>
 bnd (some ((.ptr H.length 0),H++[.cells [(.int .i64 0),(.int .u64 0),(.int .u64 0),(.int .u64 0),(.int .u64 0),(.int .i64 0),(.int .i64 0),(.int .i64 0),.nils]])) fun r3=>
 bnd (astoreU 9 r3.1 t15 r3.2) fun r_5=>
 bnd (afield 8 r3.1) fun t16=>
 bnd (astoreU 1 t16 .nils r_5.2) fun r_7=>
 bnd (afield 8 x1) fun t17=>
 bnd (aload false 1 t17 r_7.2) fun t18=>
 bnd (alenD (.slice 41) t18) fun t19=>
 j108_l1 x1 x2 r3.1 t18 t19 (.int .i64 0) r_7.2
theorem e108_1 (H0:Hp) (x1 x2:AV) (H:Hp):j108_1 H0 x1 x2 H=b108_1 (j108_l1 H0) x1 x2 H:=(CXM_eq [3,7,9,10,12] _ _ _ _).trans (by kernel_rfl)
theorem m108_1 {j108_l1 dj108_l1:A6} (hj108_l1:L6 j108_l1 dj108_l1):L2 (b108_1 j108_l1) (b108_1 dj108_l1):=fun _ _ _=>
 bR fun _=>bR fun _=>bR fun _=>bR fun _=>bR fun _=>bR fun _=>bR fun _=>bR fun _=>hj108_l1 _ _ _ _ _ _ _
def rj108_3 (gV:AV→List AV→Hp→Res):A2:=b108_3
theorem sj108_3 (H0:Hp) {gV:AV→List AV→Hp→Res} (hV:LV gV (acall cfg (callw cfg))):L2 (rj108_3 gV) (j108_3 H0):=fun _ _ _=>le_eq (m108_3 _ _ _) (e108_3 H0 _ _ _)
def rj108_2 (gV:AV→List AV→Hp→Res):A3:=b108_2 rc130 (rj108_3 gV)
theorem sj108_2 (H0:Hp) {gV:AV→List AV→Hp→Res} (hV:LV gV (acall cfg (callw cfg))):L3 (rj108_2 gV) (j108_2 H0):=fun _ _ _ _=>le_eq (m108_2 sc130 (sj108_3 H0 hV) _ _ _ _) (e108_2 H0 _ _ _ _)
def rj108_5 (gV:AV→List AV→Hp→Res) (j108_l1:A6):A6:=b108_5 j108_l1
theorem sj108_5 (H0:Hp) {gV:AV→List AV→Hp→Res} (hV:LV gV (acall cfg (callw cfg))) {yj108_l1:A6} (hj108_l1:L6 yj108_l1 (j108_l1 H0)):L6 (rj108_5 gV yj108_l1) (j108_5 H0):=fun _ _ _ _ _ _ _=>le_eq (m108_5 hj108_l1 _ _ _ _ _ _ _) (e108_5 H0 _ _ _ _ _ _ _)
def rj108_4 (gV:AV→List AV→Hp→Res) (j108_l1:A6):A7:=b108_4 (rj108_5 gV j108_l1) gV
theorem sj108_4 (H0:Hp) {gV:AV→List AV→Hp→Res} (hV:LV gV (acall cfg (callw cfg))) {yj108_l1:A6} (hj108_l1:L6 yj108_l1 (j108_l1 H0)):L7 (rj108_4 gV yj108_l1) (j108_4 H0):=fun _ _ _ _ _ _ _ _=>le_eq (m108_4 (sj108_5 H0 hV hj108_l1) hV _ _ _ _ _ _ _ _) (e108_4 H0 _ _ _ _ _ _ _ _)
def rj108_l1 (gV:AV→List AV→Hp→Res) (n:Nat):A6:=@Nat.rec (fun _=>A6) (fun _ _ _ _ _ _ _=>none) (fun _ j108_l1=>b108_l1 (rj108_2 gV) (rj108_4 gV j108_l1)) n
theorem sj108_l1 (H0:Hp) {gV:AV→List AV→Hp→Res} (hV:LV gV (acall cfg (callw cfg))) (n:Nat):L6 (rj108_l1 gV n) (j108_l1 H0):=by
 induction n with
 | zero=>exact fun _ _ _ _ _ _ _=>le_none _
 | succ n hj108_l1=>exact fun _ _ _ _ _ _ _=>le_eq (m108_l1 (sj108_2 H0 hV) (sj108_4 H0 hV hj108_l1) _ _ _ _ _ _ _) (e108_l1 H0 _ _ _ _ _ _ _)
def rj108_1 (gV:AV→List AV→Hp→Res):A2:=b108_1 (rj108_l1 gV 100000)
theorem sj108_1 (H0:Hp) {gV:AV→List AV→Hp→Res} (hV:LV gV (acall cfg (callw cfg))):L2 (rj108_1 gV) (j108_1 H0):=fun _ _ _=>le_eq (m108_1 (sj108_l1 H0 hV 100000) _ _ _) (e108_1 H0 _ _ _)
def bc108 (j108_1:A2) (p0:AV) (H:Hp):Res:=
 bnd (abox p0 H) fun r1=>
 bnd (some ((.ptr r1.2.length 0),r1.2++[.cells [(.int .i64 0),(.int .u64 0),(.int .u64 0),(.int .u64 0),(.int .u64 0),(.int .i64 0),(.int .i64 0),(.int .i64 0),.nils]])) fun r2=>
 bnd (afield 0 r1.1) fun t6=>
 bnd (aload false 1 t6 r2.2) fun t7=>
 bnd (ibin .eql t7 (.int .i64 5)) fun t8=>
 bnd (gdv t8 true (.tuple []) (afield 6 r1.1)) fun t10=>
 bnd (gdv t8 true (.tuple []) (aload false 1 t10 r2.2)) fun t11=>
 bnd (gdv t8 true (.tuple []) (ibin .eql t11 (.int .i64 0))) fun t12=>
 bnd (apick t8 t12 (.bool false)) fun t13=>
 cnd t13
  (bnd ((afill [(0,1,(.int .i64 1))] [(.int .i64 0),(.int .u64 0),(.int .u64 0),(.int .u64 0),(.int .u64 0),(.int .i64 0),(.int .i64 0),(.int .i64 0),.nils]).map .agg) fun t14=>
  bnd (astoreU 9 r2.1 t14 r2.2) fun r_50=>
  bnd (aload true 9 r2.1 r_50.2) fun v2=>
  some (v2,r_50.2))
  (j108_1 r1.1 r2.1 r2.2)
theorem ec108 (p0:AV) (H:Hp):c108 p0 H=bc108 (j108_1 H) p0 H:=(callw_cxm (C:=cfg) (fn:=Tryz.f108) (c:=bodyOf Tryz.f108) (n:=45) [3,7,9,10,12] Tryz.func108 (by kernel_rfl) (by kernel_rfl) [p0] (by kernel_rfl) H).trans (by kernel_rfl)
theorem mc108 {j108_1 dj108_1:A2} (hj108_1:L2 j108_1 dj108_1):L1 (bc108 j108_1) (bc108 dj108_1):=fun _ _=>
 bR fun _=>bR fun _=>bR fun _=>bR fun _=>bR fun _=>bR fun _=>bR fun _=>bR fun _=>bR fun _=>bK (bR fun _=>bR fun _=>bR fun _=>le_refl _) (hj108_1 _ _ _)
def rc108 (gV:AV→List AV→Hp→Res):A1:=fun p0 H=>bc108 (rj108_1 gV) p0 H
theorem sc108 {gV:AV→List AV→Hp→Res} (hV:LV gV (acall cfg (callw cfg))):L1 (rc108 gV) c108:=fun _ H=>le_eq (mc108 (sj108_1 H hV) _ _) (ec108 _ _)
def c112 (p0 p1:AV) (H:Hp):Res:=callw cfg 112 [p0,p1] H
def bc112 (p0 p1:AV) (H:Hp):Res:=
 bnd (abox p0 H) fun r2=>
 bnd (ibin .quo p1 (.int .u8 64)) fun t6=>
 bnd (afield 0 r2.1) fun t7=>
 bnd (aindexA 4 1 t7 t6) fun t8=>
 bnd (aload false 1 t8 r2.2) fun t9=>
 bnd (ibin .rem p1 (.int .u8 64)) fun t11=>
 bnd (ibin .shr t9 t11) fun t12=>
 bnd (ibin .and t12 (.int .u64 1)) fun t13=>
 bnd (ibin .eql t13 (.int .u64 1)) fun t14=>
 some (t14,r2.2)
theorem ec112 (p0 p1:AV) (H:Hp):c112 p0 p1 H=bc112 p0 p1 H:=(callw_cxm (C:=cfg) (fn:=Tryz.f112) (c:=bodyOf Tryz.f112) (n:=15) [] Tryz.func112 (by kernel_rfl) (by kernel_rfl) [p0,p1] (by kernel_rfl) H).trans (by kernel_rfl)
theorem mc112:L2 (bc112) (bc112):=fun _ _ _=>
 bR fun _=>bR fun _=>bR fun _=>bR fun _=>bR fun _=>bR fun _=>bR fun _=>bR fun _=>bR fun _=>le_refl _
def rc112:A2:=fun p0 p1 H=>bc112 p0 p1 H
theorem sc112:L2 rc112 c112:=fun _ _ H=>le_eq (mc112 _ _ _) (ec112 _ _ _)

def c172 (p0:AV) (H:Hp):Res:=callw cfg 172 [p0] H
def j172_2 (H0:Hp) (H:Hp):Res:=CXf 172 60 (sub (bodyOf Tryz.f172) [1,1,1,1,1]) (retL cfg 60 172 Tryz.f172 H0) [] H
def k172_1 (H0:Hp):KL:=seqL (fun k al H=>CXf 172 60 (sub (bodyOf Tryz.f172) [1,1,1,1,1]) k (trimL (cfg.keep 172) (sub (bodyOf Tryz.f172) [1,1,1,1,1]) al) H) (retL cfg 60 172 Tryz.f172 H0)
theorem k172_1_tame (H0:Hp):Tame 60 (k172_1 H0):=tame_seq (C:=cfg) (kp:=cfg.keep 172) (sub (bodyOf Tryz.f172) [1,1,1,1,1]) (tame_ret 172 Tryz.f172 H0)
def j172_4 (H0:Hp) (x3 x4 x19 x20 x21:AV) (H:Hp):Res:=CXf 172 60 (sub (bodyOf Tryz.f172) [1,1,1,1,0,1,0,0,1,1,1]) (seqL (fun k al H=>LPf 172 60 (sub (bodyOf Tryz.f172) [1,1,1,1,0,1,0,0]) k (trimL (cfg.keep 172) (sub (bodyOf Tryz.f172) [1,1,1,1,0,1,0,0]) al) H) (blockL 0 (k172_1 H0))) [(3,x3),(4,x4),(19,x19),(20,x20),(21,x21)] H
def k172_2 (H0:Hp):KL:=seqL (fun k al H=>CXf 172 60 (sub (bodyOf Tryz.f172) [1,1,1,1,0,1,0,0,1,1,1]) k (trimL (cfg.keep 172) (sub (bodyOf Tryz.f172) [1,1,1,1,0,1,0,0,1,1,1]) al) H) (seqL (fun k al H=>LPf 172 60 (sub (bodyOf Tryz.f172) [1,1,1,1,0,1,0,0]) k (trimL (cfg.keep 172) (sub (bodyOf Tryz.f172) [1,1,1,1,0,1,0,0]) al) H) (blockL 0 (k172_1 H0)))
def j172_5 (H0:Hp) (x3 x4 x7 x19 x20 x21:AV) (H:Hp):Res:=CXf 172 60 (sub (bodyOf Tryz.f172) [1,1,1,1,0,1,0,0,1,1,0,0,1,1,1]) (blockL 1 (k172_2 H0)) [(3,x3),(4,x4),(7,x7),(19,x19),(20,x20),(21,x21)] H
def j172_3 (H0:Hp) (x3 x4 x19 x20 x21 x22:AV) (H:Hp):Res:=CXf 172 60 (sub (bodyOf Tryz.f172) [1,1,1,1,0,1,0,0,1,1]) (seqL (fun k al H=>LPf 172 60 (sub (bodyOf Tryz.f172) [1,1,1,1,0,1,0,0]) k (trimL (cfg.keep 172) (sub (bodyOf Tryz.f172) [1,1,1,1,0,1,0,0]) al) H) (blockL 0 (k172_1 H0))) [(3,x3),(4,x4),(19,x19),(20,x20),(21,x21),(22,x22)] H
def j172_l1 (H0:Hp) (x3 x4 x19 x20 x21:AV) (H:Hp):Res:=LPf 172 60 (sub (bodyOf Tryz.f172) [1,1,1,1,0,1,0,0]) (blockL 0 (k172_1 H0)) [(3,x3),(4,x4),(19,x19),(20,x20),(21,x21)] H
def j172_1 (H0:Hp) (x1 x3:AV) (H:Hp):Res:=CXf 172 60 (sub (bodyOf Tryz.f172) [1,1,1]) (retL cfg 60 172 Tryz.f172 H0) [(1,x1),(3,x3)] H
def b172_2 (H:Hp):Res:=
 some ((.bool true),H)
theorem e172_2 (H0:Hp) (H:Hp):j172_2 H0 H=b172_2 H:=(CXM_eq [4,7,19,21,22] _ _ _ _).trans (by kernel_rfl)
theorem m172_2:L0 (b172_2) (b172_2):=fun _=>
 le_refl _
def b172_4 (j172_l1:A5) (x3 x4 x19 x20 x21:AV) (H:Hp):Res:=
 bnd (ibin .add x21 (.int .i64 1)) fun t59=>
 j172_l1 x3 x4 x19 x20 t59 H
theorem e172_4 (H0:Hp) (x3 x4 x19 x20 x21:AV) (H:Hp):j172_4 H0 x3 x4 x19 x20 x21 H=b172_4 (j172_l1 H0) x3 x4 x19 x20 x21 H:=(CXM_eq [4,7,19,21,22] _ _ _ _).trans (by kernel_rfl)
theorem m172_4 {j172_l1 dj172_l1:A5} (hj172_l1:L5 j172_l1 dj172_l1):L5 (b172_4 j172_l1) (b172_4 dj172_l1):=fun _ _ _ _ _ _=>
 bR fun _=>hj172_l1 _ _ _ _ _ _
def b172_5 (j172_4:A5) (x3 x4 x7 x19 x20 x21:AV) (H:Hp):Res:=
 bnd (aun .not x7) fun t58=>
 cnd t58
  (some ((.bool false),H))
  (j172_4 x3 x4 x19 x20 x21 H)
theorem e172_5 (H0:Hp) (x3 x4 x7 x19 x20 x21:AV) (H:Hp):j172_5 H0 x3 x4 x7 x19 x20 x21 H=b172_5 (j172_4 H0) x3 x4 x7 x19 x20 x21 H:=(CXM_eq [4,7,19,21,22] _ _ _ _).trans (by kernel_rfl)
theorem m172_5 {j172_4 dj172_4:A5} (hj172_4:L5 j172_4 dj172_4):L6 (b172_5 j172_4) (b172_5 dj172_4):=fun _ _ _ _ _ _ _=>
 bR fun _=>bK (le_refl _) (hj172_4 _ _ _ _ _ _)
def b172_3 (j172_5:A6) (cV:AV→List AV→Hp→Res) (x3 x4 x19 x20 x21 x22:AV) (H:Hp):Res:=
 bnd (aindexS 7 x19 x21) fun t24=>
 bnd (aload true 7 t24 H) fun t25=>
 bnd (some ((.ptr H.length 0),H++[.cells [(.int .i64 0),(.int .u64 0),(.int .u64 0),(.int .u64 0),(.int .u64 0),(.int .i64 0),(.int .i64 0)]])) fun r6=>
 bnd (astoreU 7 r6.1 t25 r6.2) fun r_16=>
 bnd (afield 0 r6.1) fun t26=>
 bnd (aload false 1 t26 r_16.2) fun t27=>
 bnd (ibin .eql t27 (.int .i64 1)) fun t32=>
 cnd t32
  (cnd t32
   (bnd (aload false 1 x3 r_16.2) fun t36=>
   bnd (ibin .sub t36 (.int .i64 1)) fun t37=>
   bnd (ibin .lss x21 t37) fun t38=>
   j172_5 x3 x4 t38 x19 x20 x21 r_16.2)
   (bnd (ibin .eql t27 (.int .i64 2)) fun t40=>
   cnd t40
    (bnd (afield 5 r6.1) fun t42=>
    bnd (aload false 1 t42 r_16.2) fun t43=>
    bnd (cV x4 [t43] r_16.2) fun r44=>
    bnd (gdv r44.1 true (.tuple []) (some x4)) fun t46=>
    bnd (gdv r44.1 true (.tuple []) (afield 6 r6.1)) fun t47=>
    bnd (gdv r44.1 true (.tuple []) (aload false 1 t47 r44.2)) fun t48=>
    bnd (gdv r44.1 true ((.tuple []),r44.2) (cV t46 [t48] r44.2)) fun r49=>
    bnd (apick r44.1 r49.1 (.bool false)) fun t50=>
    j172_5 x3 x4 t50 x19 x20 x21 r49.2)
    (bnd (ibin .eql t27 (.int .i64 3)) fun t52=>
    cnd t52
     (bnd (afield 5 r6.1) fun t54=>
     bnd (aload false 1 t54 r_16.2) fun t55=>
     bnd (cV x4 [t55] r_16.2) fun r56=>
     j172_5 x3 x4 r56.1 x19 x20 x21 r56.2)
     (bnd (afield 0 r6.1) fun t28=>
     bnd (aload false 1 t28 r_16.2) fun t29=>
     bnd (ibin .eql t29 (.int .i64 6)) fun t30=>
     j172_5 x3 x4 t30 x19 x20 x21 r_16.2))))
  (bnd (ibin .eql t27 (.int .i64 4)) fun t33=>
  cnd t33
   (cnd t33
    (bnd (aload false 1 x3 r_16.2) fun t36=>
    bnd (ibin .sub t36 (.int .i64 1)) fun t37=>
    bnd (ibin .lss x21 t37) fun t38=>
    j172_5 x3 x4 t38 x19 x20 x21 r_16.2)
    (bnd (ibin .eql t27 (.int .i64 2)) fun t40=>
    cnd t40
     (bnd (afield 5 r6.1) fun t42=>
     bnd (aload false 1 t42 r_16.2) fun t43=>
     bnd (cV x4 [t43] r_16.2) fun r44=>
     bnd (gdv r44.1 true (.tuple []) (some x4)) fun t46=>
     bnd (gdv r44.1 true (.tuple []) (afield 6 r6.1)) fun t47=>
     bnd (gdv r44.1 true (.tuple []) (aload false 1 t47 r44.2)) fun t48=>
     bnd (gdv r44.1 true ((.tuple []),r44.2) (cV t46 [t48] r44.2)) fun r49=>
     bnd (apick r44.1 r49.1 (.bool false)) fun t50=>
     j172_5 x3 x4 t50 x19 x20 x21 r49.2)
     (bnd (ibin .eql t27 (.int .i64 3)) fun t52=>
     cnd t52
      (bnd (afield 5 r6.1) fun t54=>
      bnd (aload false 1 t54 r_16.2) fun t55=>
      bnd (cV x4 [t55] r_16.2) fun r56=>
      j172_5 x3 x4 r56.1 x19 x20 x21 r56.2)
      (bnd (afield 0 r6.1) fun t28=>
      bnd (aload false 1 t28 r_16.2) fun t29=>
      bnd (ibin .eql t29 (.int .i64 6)) fun t30=>
      j172_5 x3 x4 t30 x19 x20 x21 r_16.2))))
   (bnd (ibin .eql t27 (.int .i64 5)) fun t34=>
   cnd t34
    (bnd (aload false 1 x3 r_16.2) fun t36=>
    bnd (ibin .sub t36 (.int .i64 1)) fun t37=>
    bnd (ibin .lss x21 t37) fun t38=>
    j172_5 x3 x4 t38 x19 x20 x21 r_16.2)
    (bnd (ibin .eql t27 (.int .i64 2)) fun t40=>
    cnd t40
     (bnd (afield 5 r6.1) fun t42=>
     bnd (aload false 1 t42 r_16.2) fun t43=>
     bnd (cV x4 [t43] r_16.2) fun r44=>
     bnd (gdv r44.1 true (.tuple []) (some x4)) fun t46=>
     bnd (gdv r44.1 true (.tuple []) (afield 6 r6.1)) fun t47=>
     bnd (gdv r44.1 true (.tuple []) (aload false 1 t47 r44.2)) fun t48=>
     bnd (gdv r44.1 true ((.tuple []),r44.2) (cV t46 [t48] r44.2)) fun r49=>
     bnd (apick r44.1 r49.1 (.bool false)) fun t50=>
     j172_5 x3 x4 t50 x19 x20 x21 r49.2)
     (bnd (ibin .eql t27 (.int .i64 3)) fun t52=>
     cnd t52
      (bnd (afield 5 r6.1) fun t54=>
      bnd (aload false 1 t54 r_16.2) fun t55=>
      bnd (cV x4 [t55] r_16.2) fun r56=>
      j172_5 x3 x4 r56.1 x19 x20 x21 r56.2)
      (bnd (afield 0 r6.1) fun t28=>
      bnd (aload false 1 t28 r_16.2) fun t29=>
      bnd (ibin .eql t29 (.int .i64 6)) fun t30=>
      j172_5 x3 x4 t30 x19 x20 x21 r_16.2)))))
theorem e172_3 (H0:Hp) (x3 x4 x19 x20 x21 x22:AV) (H:Hp):j172_3 H0 x3 x4 x19 x20 x21 x22 H=b172_3 (j172_5 H0) (acall cfg (callw cfg)) x3 x4 x19 x20 x21 x22 H:=(CXM_eq [4,7,19,21,22] _ _ _ _).trans (by kernel_rfl)
theorem m172_3 {j172_5 dj172_5:A6} (hj172_5:L6 j172_5 dj172_5) {cV dcV:AV→List AV→Hp→Res} (hcV:LV cV dcV):L6 (b172_3 j172_5 cV) (b172_3 dj172_5 dcV):=fun _ _ _ _ _ _ _=>
 bR fun _=>bR fun _=>bR fun _=>bR fun _=>bR fun _=>bR fun _=>bR fun _=>bK (bK (bR fun _=>bR fun _=>bR fun _=>hj172_5 _ _ _ _ _ _ _) (bR fun _=>bK (bR fun _=>bR fun _=>bC (hcV _ _ _) fun _=>bR fun _=>bR fun _=>bR fun _=>bG (hcV _ _ _) fun _=>bR fun _=>hj172_5 _ _ _ _ _ _ _) (bR fun _=>bK (bR fun _=>bR fun _=>bC (hcV _ _ _) fun _=>hj172_5 _ _ _ _ _ _ _) (bR fun _=>bR fun _=>bR fun _=>hj172_5 _ _ _ _ _ _ _)))) (bR fun _=>bK (bK (bR fun _=>bR fun _=>bR fun _=>hj172_5 _ _ _ _ _ _ _) (bR fun _=>bK (bR fun _=>bR fun _=>bC (hcV _ _ _) fun _=>bR fun _=>bR fun _=>bR fun _=>bG (hcV _ _ _) fun _=>bR fun _=>hj172_5 _ _ _ _ _ _ _) (bR fun _=>bK (bR fun _=>bR fun _=>bC (hcV _ _ _) fun _=>hj172_5 _ _ _ _ _ _ _) (bR fun _=>bR fun _=>bR fun _=>hj172_5 _ _ _ _ _ _ _)))) (bR fun _=>bK (bR fun _=>bR fun _=>bR fun _=>hj172_5 _ _ _ _ _ _ _) (bR fun _=>bK (bR fun _=>bR fun _=>bC (hcV _ _ _) fun _=>bR fun _=>bR fun _=>bR fun _=>bG (hcV _ _ _) fun _=>bR fun _=>hj172_5 _ _ _ _ _ _ _) (bR fun _=>bK (bR fun _=>bR fun _=>bC (hcV _ _ _) fun _=>hj172_5 _ _ _ _ _ _ _) (bR fun _=>bR fun _=>bR fun _=>hj172_5 _ _ _ _ _ _ _)))))
def b172_l1 (j172_2:A0) (j172_3:A6) (x3 x4 x19 x20 x21:AV) (H:Hp):Res:=
 bnd (ibin .lss x21 x20) fun t22=>
 cnd t22
  (j172_3 x3 x4 x19 x20 x21 t22 H)
  (j172_2 H)
theorem e172_l1 (H0:Hp) (x3 x4 x19 x20 x21:AV) (H:Hp):j172_l1 H0 x3 x4 x19 x20 x21 H=b172_l1 (j172_2 H0) (j172_3 H0) x3 x4 x19 x20 x21 H:=(LPL_eqm (C:=cfg) [4,7,19,21,22] (tame_block 0 (k172_1_tame H0)) _ _).trans (by kernel_rfl)
theorem m172_l1 {j172_2 dj172_2:A0} (hj172_2:L0 j172_2 dj172_2) {j172_3 dj172_3:A6} (hj172_3:L6 j172_3 dj172_3):L5 (b172_l1 j172_2 j172_3) (b172_l1 dj172_2 dj172_3):=fun _ _ _ _ _ _=>
 bR fun _=>bK (hj172_3 _ _ _ _ _ _ _) (hj172_2 _)
def b172_1 (j172_l1:A5) (x1 x3:AV) (H:Hp):Res:=
 bnd (some (.fn (.func 175) [] [x3])) fun t17=>
 bnd (afield 0 x1) fun t18=>
 bnd (aload false 1 t18 H) fun t19=>
 bnd (alenD (.slice 111) t19) fun t20=>
 j172_l1 x3 t17 t19 t20 (.int .i64 0) H
theorem e172_1 (H0:Hp) (x1 x3:AV) (H:Hp):j172_1 H0 x1 x3 H=b172_1 (j172_l1 H0) x1 x3 H:=(CXM_eq [4,7,19,21,22] _ _ _ _).trans (by kernel_rfl)
theorem m172_1 {j172_l1 dj172_l1:A5} (hj172_l1:L5 j172_l1 dj172_l1):L2 (b172_1 j172_l1) (b172_1 dj172_l1):=fun _ _ _=>
 bR fun _=>bR fun _=>bR fun _=>bR fun _=>hj172_l1 _ _ _ _ _ _
def rj172_2 (gV:AV→List AV→Hp→Res):A0:=b172_2
theorem sj172_2 (H0:Hp) {gV:AV→List AV→Hp→Res} (hV:LV gV (acall cfg (callw cfg))):L0 (rj172_2 gV) (j172_2 H0):=fun _=>le_eq (m172_2 _) (e172_2 H0 _)
def rj172_4 (gV:AV→List AV→Hp→Res) (j172_l1:A5):A5:=b172_4 j172_l1
theorem sj172_4 (H0:Hp) {gV:AV→List AV→Hp→Res} (hV:LV gV (acall cfg (callw cfg))) {yj172_l1:A5} (hj172_l1:L5 yj172_l1 (j172_l1 H0)):L5 (rj172_4 gV yj172_l1) (j172_4 H0):=fun _ _ _ _ _ _=>le_eq (m172_4 hj172_l1 _ _ _ _ _ _) (e172_4 H0 _ _ _ _ _ _)
def rj172_5 (gV:AV→List AV→Hp→Res) (j172_l1:A5):A6:=b172_5 (rj172_4 gV j172_l1)
theorem sj172_5 (H0:Hp) {gV:AV→List AV→Hp→Res} (hV:LV gV (acall cfg (callw cfg))) {yj172_l1:A5} (hj172_l1:L5 yj172_l1 (j172_l1 H0)):L6 (rj172_5 gV yj172_l1) (j172_5 H0):=fun _ _ _ _ _ _ _=>le_eq (m172_5 (sj172_4 H0 hV hj172_l1) _ _ _ _ _ _ _) (e172_5 H0 _ _ _ _ _ _ _)
def rj172_3 (gV:AV→List AV→Hp→Res) (j172_l1:A5):A6:=b172_3 (rj172_5 gV j172_l1) gV
theorem sj172_3 (H0:Hp) {gV:AV→List AV→Hp→Res} (hV:LV gV (acall cfg (callw cfg))) {yj172_l1:A5} (hj172_l1:L5 yj172_l1 (j172_l1 H0)):L6 (rj172_3 gV yj172_l1) (j172_3 H0):=fun _ _ _ _ _ _ _=>le_eq (m172_3 (sj172_5 H0 hV hj172_l1) hV _ _ _ _ _ _ _) (e172_3 H0 _ _ _ _ _ _ _)
def rj172_l1 (gV:AV→List AV→Hp→Res) (n:Nat):A5:=@Nat.rec (fun _=>A5) (fun _ _ _ _ _ _=>none) (fun _ j172_l1=>b172_l1 (rj172_2 gV) (rj172_3 gV j172_l1)) n
theorem sj172_l1 (H0:Hp) {gV:AV→List AV→Hp→Res} (hV:LV gV (acall cfg (callw cfg))) (n:Nat):L5 (rj172_l1 gV n) (j172_l1 H0):=by
 induction n with
 | zero=>exact fun _ _ _ _ _ _=>le_none _
 | succ n hj172_l1=>exact fun _ _ _ _ _ _=>le_eq (m172_l1 (sj172_2 H0 hV) (sj172_3 H0 hV hj172_l1) _ _ _ _ _ _) (e172_l1 H0 _ _ _ _ _ _)
def rj172_1 (gV:AV→List AV→Hp→Res):A2:=b172_1 (rj172_l1 gV 100000)
theorem sj172_1 (H0:Hp) {gV:AV→List AV→Hp→Res} (hV:LV gV (acall cfg (callw cfg))):L2 (rj172_1 gV) (j172_1 H0):=fun _ _ _=>le_eq (m172_1 (sj172_l1 H0 hV 100000) _ _ _) (e172_1 H0 _ _ _)
def bc172 (j172_1:A2) (p0:AV) (H:Hp):Res:=
 bnd (abox p0 H) fun r1=>
 bnd (afield 0 r1.1) fun t8=>
 bnd (aload false 1 t8 r1.2) fun t9=>
 bnd (alenD (.slice 111) t9) fun t10=>
 bnd (some ((.ptr r1.2.length 0),r1.2++[.cells [(.int .i64 0)]])) fun r3=>
 bnd (astoreU 1 r3.1 t10 r3.2) fun r_6=>
 bnd (aload false 1 r3.1 r_6.2) fun t11=>
 bnd (ibin .lss t11 (.int .i64 1)) fun t12=>
 bnd (gdv t12 false (.tuple []) (aload false 1 r3.1 r_6.2)) fun t14=>
 bnd (gdv t12 false (.tuple []) (ibin .gtr t14 (.int .i64 4096))) fun t15=>
 bnd (apick t12 (.bool true) t15) fun t16=>
 cnd t16
  (some ((.bool false),r_6.2))
  (j172_1 r1.1 r3.1 r_6.2)
theorem ec172 (p0:AV) (H:Hp):c172 p0 H=bc172 (j172_1 H) p0 H:=(callw_cxm (C:=cfg) (fn:=Tryz.f172) (c:=bodyOf Tryz.f172) (n:=60) [4,7,19,21,22] Tryz.func172 (by kernel_rfl) (by kernel_rfl) [p0] (by kernel_rfl) H).trans (by kernel_rfl)
theorem mc172 {j172_1 dj172_1:A2} (hj172_1:L2 j172_1 dj172_1):L1 (bc172 j172_1) (bc172 dj172_1):=fun _ _=>
 bR fun _=>bR fun _=>bR fun _=>bR fun _=>bR fun _=>bR fun _=>bR fun _=>bR fun _=>bR fun _=>bR fun _=>bR fun _=>bK (le_refl _) (hj172_1 _ _ _)
def rc172 (gV:AV→List AV→Hp→Res):A1:=fun p0 H=>bc172 (rj172_1 gV) p0 H
theorem sc172 {gV:AV→List AV→Hp→Res} (hV:LV gV (acall cfg (callw cfg))):L1 (rc172 gV) c172:=fun _ H=>le_eq (mc172 (sj172_1 H hV) _ _) (ec172 _ _)

def c168 (p0 p1:AV) (H:Hp):Res:=callw cfg 168 [p0,p1] H
def j168_1 (H0:Hp) (x1 x2:AV) (H:Hp):Res:=CXf 168 12 (sub (bodyOf Tryz.f168) [1,1]) (retL cfg 12 168 Tryz.f168 H0) [(1,x1),(2,x2)] H
def b168_1 (x1 x2:AV) (H:Hp):Res:=
 bnd (aload true 2 x2 H) fun t8=>
 bnd (abuild Tryz.prog 223 [(0,t8),(1,x1)]) fun t10=>
 bnd (abox t10 H) fun r11=>
 some (r11.1,r11.2)
theorem e168_1 (H0:Hp) (x1 x2:AV) (H:Hp):j168_1 H0 x1 x2 H=b168_1 x1 x2 H:=(CXM_eq [3] _ _ _ _).trans (by kernel_rfl)
theorem m168_1:L2 (b168_1) (b168_1):=fun _ _ _=>
 bR fun _=>bR fun _=>bR fun _=>le_refl _
def rj168_1 (gV:AV→List AV→Hp→Res):A2:=b168_1
theorem sj168_1 (H0:Hp) {gV:AV→List AV→Hp→Res} (hV:LV gV (acall cfg (callw cfg))):L2 (rj168_1 gV) (j168_1 H0):=fun _ _ _=>le_eq (m168_1 _ _ _) (e168_1 H0 _ _ _)
def bc168 (c172:A1) (j168_1:A2) (p0 p1:AV) (H:Hp):Res:=
 bnd (abox p0 H) fun r2=>
 bnd (aload true 2 r2.1 r2.2) fun t5=>
 bnd (c172 t5 r2.2) fun r6=>
 bnd (aun .not r6.1) fun t7=>
 cnd t7
  (some (.nilp,r6.2))
  (j168_1 p1 r2.1 r6.2)
theorem ec168 (p0 p1:AV) (H:Hp):c168 p0 p1 H=bc168 c172 (j168_1 H) p0 p1 H:=(callw_cxm (C:=cfg) (fn:=Tryz.f168) (c:=bodyOf Tryz.f168) (n:=12) [3] Tryz.func168 (by kernel_rfl) (by kernel_rfl) [p0,p1] (by kernel_rfl) H).trans (by kernel_rfl)
theorem mc168 {c172 dc172:A1} (hc172:L1 c172 dc172) {j168_1 dj168_1:A2} (hj168_1:L2 j168_1 dj168_1):L2 (bc168 c172 j168_1) (bc168 dc172 dj168_1):=fun _ _ _=>
 bR fun _=>bR fun _=>bC (hc172 _ _) fun _=>bR fun _=>bK (le_refl _) (hj168_1 _ _ _)
def rc168 (gV:AV→List AV→Hp→Res):A2:=fun p0 p1 H=>bc168 (rc172 gV) (rj168_1 gV) p0 p1 H
theorem sc168 {gV:AV→List AV→Hp→Res} (hV:LV gV (acall cfg (callw cfg))):L2 (rc168 gV) c168:=fun _ _ H=>le_eq (mc168 (sc172 hV) (sj168_1 H hV) _ _ _) (ec168 _ _ _)

def c173 (p0 p1:AV) (H:Hp):Res:=callw cfg 173 [p0,p1] H
def bc173 (p0 p1:AV) (H:Hp):Res:=
 bnd (ibin .eql p1 (.int .i64 0)) fun t6=>
 bnd (gdv t6 false (.tuple []) (some p0)) fun t8=>
 bnd (gdv t6 false (.tuple []) (anil t8)) fun t9=>
 bnd (gdv t6 false (.tuple []) (afield 0 t9)) fun t10=>
 bnd (gdv t6 false (.tuple []) (afield 1 t10)) fun t11=>
 bnd (gdv t6 false (.tuple []) (aload false 1 t11 H)) fun t12=>
 bnd (gdv t6 false (.tuple []) (some t12)) fun t13=>
 bnd (gdv t13 true (.tuple []) (some p0)) fun t14=>
 bnd (gdv t13 true (.tuple []) (anil t14)) fun t15=>
 bnd (gdv t13 true (.tuple []) (afield 2 t15)) fun t16=>
 bnd (gdv t13 true (.tuple []) (aload false 1 t16 H)) fun t17=>
 bnd (gdv t13 true (.tuple []) (some p1)) fun t18=>
 bnd (gdv t13 true (.tuple []) (ibin .sub t18 (.int .i64 1))) fun t19=>
 bnd (gdv t13 true (.tuple []) (aindexStr t17 t19)) fun t20=>
 bnd (gdv t13 true (.tuple []) (ibin .eql t20 (.int .u8 10))) fun t21=>
 bnd (gdv t6 false (.tuple []) (apick t13 t21 (.bool false))) fun t22=>
 bnd (apick t6 (.bool true) t22) fun t23=>
 some (t23,H)
theorem ec173 (p0 p1:AV) (H:Hp):c173 p0 p1 H=bc173 p0 p1 H:=(callw_cxm (C:=cfg) (fn:=Tryz.f173) (c:=bodyOf Tryz.f173) (n:=24) [] Tryz.func173 (by kernel_rfl) (by kernel_rfl) [p0,p1] (by kernel_rfl) H).trans (by kernel_rfl)
theorem mc173:L2 (bc173) (bc173):=fun _ _ _=>
 bR fun _=>bR fun _=>bR fun _=>bR fun _=>bR fun _=>bR fun _=>bR fun _=>bR fun _=>bR fun _=>bR fun _=>bR fun _=>bR fun _=>bR fun _=>bR fun _=>bR fun _=>bR fun _=>bR fun _=>le_refl _
def rc173:A2:=fun p0 p1 H=>bc173 p0 p1 H
theorem sc173:L2 rc173 c173:=fun _ _ H=>le_eq (mc173 _ _ _) (ec173 _ _ _)

def c174 (p0 p1:AV) (H:Hp):Res:=callw cfg 174 [p0,p1] H
def bc174 (p0 p1:AV) (H:Hp):Res:=
 bnd (anil p0) fun t7=>
 bnd (afield 2 t7) fun t8=>
 bnd (aload false 1 t8 H) fun t9=>
 bnd (alenD .string t9) fun t10=>
 bnd (ibin .eql p1 t10) fun t11=>
 bnd (gdv t11 false (.tuple []) (some p0)) fun t13=>
 bnd (gdv t11 false (.tuple []) (anil t13)) fun t14=>
 bnd (gdv t11 false (.tuple []) (afield 0 t14)) fun t15=>
 bnd (gdv t11 false (.tuple []) (afield 1 t15)) fun t16=>
 bnd (gdv t11 false (.tuple []) (aload false 1 t16 H)) fun t17=>
 bnd (gdv t11 false (.tuple []) (some t17)) fun t18=>
 bnd (gdv t18 true (.tuple []) (some p0)) fun t19=>
 bnd (gdv t18 true (.tuple []) (anil t19)) fun t20=>
 bnd (gdv t18 true (.tuple []) (afield 2 t20)) fun t21=>
 bnd (gdv t18 true (.tuple []) (aload false 1 t21 H)) fun t22=>
 bnd (gdv t18 true (.tuple []) (some p1)) fun t23=>
 bnd (gdv t18 true (.tuple []) (aindexStr t22 t23)) fun t24=>
 bnd (gdv t18 true (.tuple []) (ibin .eql t24 (.int .u8 10))) fun t25=>
 bnd (gdv t11 false (.tuple []) (apick t18 t25 (.bool false))) fun t26=>
 bnd (apick t11 (.bool true) t26) fun t27=>
 some (t27,H)
theorem ec174 (p0 p1:AV) (H:Hp):c174 p0 p1 H=bc174 p0 p1 H:=(callw_cxm (C:=cfg) (fn:=Tryz.f174) (c:=bodyOf Tryz.f174) (n:=28) [] Tryz.func174 (by kernel_rfl) (by kernel_rfl) [p0,p1] (by kernel_rfl) H).trans (by kernel_rfl)
theorem mc174:L2 (bc174) (bc174):=fun _ _ _=>
 bR fun _=>bR fun _=>bR fun _=>bR fun _=>bR fun _=>bR fun _=>bR fun _=>bR fun _=>bR fun _=>bR fun _=>bR fun _=>bR fun _=>bR fun _=>bR fun _=>bR fun _=>bR fun _=>bR fun _=>bR fun _=>bR fun _=>bR fun _=>le_refl _
def rc174:A2:=fun p0 p1 H=>bc174 p0 p1 H
theorem sc174:L2 rc174 c174:=fun _ _ H=>le_eq (mc174 _ _ _) (ec174 _ _ _)

def c169 (p0 p1 p2 p3 p4:AV) (H:Hp):Res:=callw cfg 169 [p0,p1,p2,p3,p4] H
def j169_1 (H0:Hp) (x1:AV) (H:Hp):Res:=CXf 169 153 (sub (bodyOf Tryz.f169) [1,1,1]) (retL cfg 153 169 Tryz.f169 H0) [(1,x1)] H
def k169_1 (H0:Hp):KL:=seqL (fun k al H=>CXf 169 153 (sub (bodyOf Tryz.f169) [1,1,1]) k (trimL (cfg.keep 169) (sub (bodyOf Tryz.f169) [1,1,1]) al) H) (retL cfg 153 169 Tryz.f169 H0)
theorem k169_1_tame (H0:Hp):Tame 153 (k169_1 H0):=tame_seq (C:=cfg) (kp:=cfg.keep 169) (sub (bodyOf Tryz.f169) [1,1,1]) (tame_ret 169 Tryz.f169 H0)
def j169_3 (H0:Hp) (x0 x1 x3 x4 x11:AV) (H:Hp):Res:=CXf 169 153 (sub (bodyOf Tryz.f169) [1,1,0,0,0,1,0,1,1,1]) (blockL 1 (seqL (fun k al H=>LPf 169 153 (sub (bodyOf Tryz.f169) [1,1,0,0,0]) k (trimL (cfg.keep 169) (sub (bodyOf Tryz.f169) [1,1,0,0,0]) al) H) (blockL 0 (k169_1 H0)))) [(0,x0),(1,x1),(3,x3),(4,x4),(11,x11)] H
def j169_2 (H0:Hp) (x0 x1 x3 x4:AV) (H:Hp):Res:=CXf 169 153 (sub (bodyOf Tryz.f169) [1,1,0,0,0,1]) (seqL (fun k al H=>LPf 169 153 (sub (bodyOf Tryz.f169) [1,1,0,0,0]) k (trimL (cfg.keep 169) (sub (bodyOf Tryz.f169) [1,1,0,0,0]) al) H) (blockL 0 (k169_1 H0))) [(0,x0),(1,x1),(3,x3),(4,x4)] H
def j169_l1 (H0:Hp) (x0 x1 x3 x4:AV) (H:Hp):Res:=LPf 169 153 (sub (bodyOf Tryz.f169) [1,1,0,0,0]) (blockL 0 (k169_1 H0)) [(0,x0),(1,x1),(3,x3),(4,x4)] H
def b169_1 (x1:AV) (H:Hp):Res:=
 some (x1,H)
theorem e169_1 (H0:Hp) (x1:AV) (H:Hp):j169_1 H0 x1 H=b169_1 x1 H:=(CXM_eq [3,6,20] _ _ _ _).trans (by kernel_rfl)
theorem m169_1:L1 (b169_1) (b169_1):=fun _ _=>
 le_refl _
def b169_3 (j169_l1:A4) (c173:A2) (c174:A2) (x0 x1 x3 x4 x11:AV) (H:Hp):Res:=
 bnd (anil x0) fun t70=>
 bnd (afield 4099 t70) fun t71=>
 bnd (aload false 1 t71 H) fun t72=>
 bnd (anil x0) fun t73=>
 bnd (afield 3 t73) fun t74=>
 bnd (aindexA 4096 1 t74 x11) fun t75=>
 bnd (astoreU 1 t75 t72 H) fun r_38=>
 bnd (anil x0) fun t77=>
 bnd (afield 0 t77) fun t78=>
 bnd (afield 0 t78) fun t79=>
 bnd (aload false 1 t79 r_38.2) fun t80=>
 bnd (aindexS 7 t80 x11) fun t82=>
 bnd (aload true 7 t82 r_38.2) fun t83=>
 bnd (some ((.ptr r_38.2.length 0),r_38.2++[.cells [(.int .i64 0),(.int .u64 0),(.int .u64 0),(.int .u64 0),(.int .u64 0),(.int .i64 0),(.int .i64 0)]])) fun r12=>
 bnd (astoreU 7 r12.1 t83 r12.2) fun r_46=>
 bnd (afield 0 r12.1) fun t84=>
 bnd (aload false 1 t84 r_46.2) fun t85=>
 bnd (ibin .eql t85 (.int .i64 3)) fun t93=>
 cnd t93
  (bnd (anil x0) fun t96=>
  bnd (afield 4100 t96) fun t97=>
  bnd (aload false 1 t97 r_46.2) fun t98=>
  bnd (afield 5 r12.1) fun t99=>
  bnd (aload false 1 t99 r_46.2) fun t100=>
  bnd ((setElems 1 [(0,t100)] [(.int .i64 0)]).map (.vs 1 .clip)) fun t101=>
  bnd (aappEL false 1 8 t98 t101 r_46.2) fun r102=>
  bnd (anil x0) fun t103=>
  bnd (afield 4100 t103) fun t104=>
  bnd (astoreU 1 t104 r102.1 r102.2) fun r_59=>
  j169_l1 x0 x1 x3 x4 r_59.2)
  (bnd (ibin .eql t85 (.int .i64 2)) fun t106=>
  cnd t106
   (bnd (anil x0) fun t109=>
   bnd (afield 4100 t109) fun t110=>
   bnd (aload false 1 t110 r_46.2) fun t111=>
   bnd (afield 6 r12.1) fun t112=>
   bnd (aload false 1 t112 r_46.2) fun t113=>
   bnd (afield 5 r12.1) fun t114=>
   bnd (aload false 1 t114 r_46.2) fun t115=>
   bnd ((setElems 1 [(0,t113),(1,t115)] [(.int .i64 0),(.int .i64 0)]).map (.vs 1 .clip)) fun t116=>
   bnd (aappEL false 1 8 t111 t116 r_46.2) fun r117=>
   bnd (anil x0) fun t118=>
   bnd (afield 4100 t118) fun t119=>
   bnd (astoreU 1 t119 r117.1 r117.2) fun r_72=>
   j169_l1 x0 x1 x3 x4 r_72.2)
   (bnd (ibin .eql t85 (.int .i64 4)) fun t121=>
   cnd t121
    (bnd (c173 x0 x4 r_46.2) fun r124=>
    cnd r124.1
     (bnd (anil x0) fun t127=>
     bnd (afield 4100 t127) fun t128=>
     bnd (aload false 1 t128 r124.2) fun t129=>
     bnd (ibin .add x11 (.int .i64 1)) fun t131=>
     bnd ((setElems 1 [(0,t131)] [(.int .i64 0)]).map (.vs 1 .clip)) fun t132=>
     bnd (aappEL false 1 8 t129 t132 r124.2) fun r133=>
     bnd (anil x0) fun t134=>
     bnd (afield 4100 t134) fun t135=>
     bnd (astoreU 1 t135 r133.1 r133.2) fun r_83=>
     j169_l1 x0 x1 x3 x4 r_83.2)
     (j169_l1 x0 x1 x3 x4 r124.2))
    (bnd (ibin .eql t85 (.int .i64 5)) fun t137=>
    cnd t137
     (bnd (c174 x0 x4 r_46.2) fun r140=>
     cnd r140.1
      (bnd (anil x0) fun t143=>
      bnd (afield 4100 t143) fun t144=>
      bnd (aload false 1 t144 r140.2) fun t145=>
      bnd (ibin .add x11 (.int .i64 1)) fun t147=>
      bnd ((setElems 1 [(0,t147)] [(.int .i64 0)]).map (.vs 1 .clip)) fun t148=>
      bnd (aappEL false 1 8 t145 t148 r140.2) fun r149=>
      bnd (anil x0) fun t150=>
      bnd (afield 4100 t150) fun t151=>
      bnd (astoreU 1 t151 r149.1 r149.2) fun r_94=>
      j169_l1 x0 x1 x3 x4 r_94.2)
      (j169_l1 x0 x1 x3 x4 r140.2))
     (bnd ((afill [(0,1,x11),(1,1,x3)] [(.int .i64 0),(.int .i64 0)]).map .agg) fun t89=>
     bnd ((setElems 2 [(0,t89)] [(.agg [(.int .i64 0),(.int .i64 0)])]).map (.vs 2 .clip)) fun t90=>
     bnd (aappE 2 16 x1 t90 r_46.2) fun r91=>
     j169_l1 x0 r91.1 x3 x4 r91.2))))
theorem e169_3 (H0:Hp) (x0 x1 x3 x4 x11:AV) (H:Hp):j169_3 H0 x0 x1 x3 x4 x11 H=b169_3 (j169_l1 H0) c173 c174 x0 x1 x3 x4 x11 H:=(CXM_eq [3,6,20] _ _ _ _).trans (by kernel_rfl)
theorem m169_3 {j169_l1 dj169_l1:A4} (hj169_l1:L4 j169_l1 dj169_l1) {c173 dc173:A2} (hc173:L2 c173 dc173) {c174 dc174:A2} (hc174:L2 c174 dc174):L5 (b169_3 j169_l1 c173 c174) (b169_3 dj169_l1 dc173 dc174):=fun _ _ _ _ _ _=>
 bR fun _=>bR fun _=>bR fun _=>bR fun _=>bR fun _=>bR fun _=>bR fun _=>bR fun _=>bR fun _=>bR fun _=>bR fun _=>bR fun _=>bR fun _=>bR fun _=>bR fun _=>bR fun _=>bR fun _=>bR fun _=>bK (bR fun _=>bR fun _=>bR fun _=>bR fun _=>bR fun _=>bR fun _=>bR fun _=>bR fun _=>bR fun _=>bR fun _=>hj169_l1 _ _ _ _ _) (bR fun _=>bK (bR fun _=>bR fun _=>bR fun _=>bR fun _=>bR fun _=>bR fun _=>bR fun _=>bR fun _=>bR fun _=>bR fun _=>bR fun _=>bR fun _=>hj169_l1 _ _ _ _ _) (bR fun _=>bK (bC (hc173 _ _ _) fun _=>bK (bR fun _=>bR fun _=>bR fun _=>bR fun _=>bR fun _=>bR fun _=>bR fun _=>bR fun _=>bR fun _=>hj169_l1 _ _ _ _ _) (hj169_l1 _ _ _ _ _)) (bR fun _=>bK (bC (hc174 _ _ _) fun _=>bK (bR fun _=>bR fun _=>bR fun _=>bR fun _=>bR fun _=>bR fun _=>bR fun _=>bR fun _=>bR fun _=>hj169_l1 _ _ _ _ _) (hj169_l1 _ _ _ _ _)) (bR fun _=>bR fun _=>bR fun _=>hj169_l1 _ _ _ _ _))))
def b169_2 (j169_l1:A4) (j169_3:A5) (x0 x1 x3 x4:AV) (H:Hp):Res:=
 bnd (anil x0) fun t31=>
 bnd (afield 4100 t31) fun t32=>
 bnd (aload false 1 t32 H) fun t33=>
 bnd (anil x0) fun t35=>
 bnd (afield 4100 t35) fun t36=>
 bnd (aload false 1 t36 H) fun t37=>
 bnd (alenD (.slice 3) t37) fun t38=>
 bnd (ibin .sub t38 (.int .i64 1)) fun t39=>
 bnd (aindexS 1 t33 t39) fun t40=>
 bnd (aload false 1 t40 H) fun t41=>
 bnd (anil x0) fun t44=>
 bnd (afield 4100 t44) fun t45=>
 bnd (aload false 1 t45 H) fun t46=>
 bnd (anil x0) fun t48=>
 bnd (afield 4100 t48) fun t49=>
 bnd (aload false 1 t49 H) fun t50=>
 bnd (alenD (.slice 3) t50) fun t51=>
 bnd (ibin .sub t51 (.int .i64 1)) fun t52=>
 bnd (asliceV 1 t46 none (some t52) none) fun t53=>
 bnd (anil x0) fun t54=>
 bnd (afield 4100 t54) fun t55=>
 bnd (astoreU 1 t55 t53 H) fun r_31=>
 bnd (anil x0) fun t58=>
 bnd (afield 3 t58) fun t59=>
 bnd (aindexA 4096 1 t59 t41) fun t60=>
 bnd (aload false 1 t60 r_31.2) fun t61=>
 bnd (anil x0) fun t63=>
 bnd (afield 4099 t63) fun t64=>
 bnd (aload false 1 t64 r_31.2) fun t65=>
 bnd (ibin .eql t61 t65) fun t66=>
 cnd t66
  (j169_l1 x0 x1 x3 x4 r_31.2)
  (j169_3 x0 x1 x3 x4 t41 r_31.2)
theorem e169_2 (H0:Hp) (x0 x1 x3 x4:AV) (H:Hp):j169_2 H0 x0 x1 x3 x4 H=b169_2 (j169_l1 H0) (j169_3 H0) x0 x1 x3 x4 H:=(CXM_eq [3,6,20] _ _ _ _).trans (by kernel_rfl)
theorem m169_2 {j169_l1 dj169_l1:A4} (hj169_l1:L4 j169_l1 dj169_l1) {j169_3 dj169_3:A5} (hj169_3:L5 j169_3 dj169_3):L4 (b169_2 j169_l1 j169_3) (b169_2 dj169_l1 dj169_3):=fun _ _ _ _ _=>
 bR fun _=>bR fun _=>bR fun _=>bR fun _=>bR fun _=>bR fun _=>bR fun _=>bR fun _=>bR fun _=>bR fun _=>bR fun _=>bR fun _=>bR fun _=>bR fun _=>bR fun _=>bR fun _=>bR fun _=>bR fun _=>bR fun _=>bR fun _=>bR fun _=>bR fun _=>bR fun _=>bR fun _=>bR fun _=>bR fun _=>bR fun _=>bR fun _=>bR fun _=>bR fun _=>bK (hj169_l1 _ _ _ _ _) (hj169_3 _ _ _ _ _ _)
def b169_l1 (j169_1:A1) (j169_2:A4) (x0 x1 x3 x4:AV) (H:Hp):Res:=
 bnd (anil x0) fun t25=>
 bnd (afield 4100 t25) fun t26=>
 bnd (aload false 1 t26 H) fun t27=>
 bnd (alenD (.slice 3) t27) fun t28=>
 bnd (ibin .gtr t28 (.int .i64 0)) fun t29=>
 cnd t29
  (j169_2 x0 x1 x3 x4 H)
  (j169_1 x1 H)
theorem e169_l1 (H0:Hp) (x0 x1 x3 x4:AV) (H:Hp):j169_l1 H0 x0 x1 x3 x4 H=b169_l1 (j169_1 H0) (j169_2 H0) x0 x1 x3 x4 H:=(LPL_eqm (C:=cfg) [3,6,20] (tame_block 0 (k169_1_tame H0)) _ _).trans (by kernel_rfl)
theorem m169_l1 {j169_1 dj169_1:A1} (hj169_1:L1 j169_1 dj169_1) {j169_2 dj169_2:A4} (hj169_2:L4 j169_2 dj169_2):L4 (b169_l1 j169_1 j169_2) (b169_l1 dj169_1 dj169_2):=fun _ _ _ _ _=>
 bR fun _=>bR fun _=>bR fun _=>bR fun _=>bR fun _=>bK (hj169_2 _ _ _ _ _) (hj169_1 _ _)
def rj169_1:A1:=b169_1
theorem sj169_1 (H0:Hp):L1 (rj169_1) (j169_1 H0):=fun _ _=>le_eq (m169_1 _ _) (e169_1 H0 _ _)
def rj169_3 (j169_l1:A4):A5:=b169_3 j169_l1 rc173 rc174
theorem sj169_3 (H0:Hp) {yj169_l1:A4} (hj169_l1:L4 yj169_l1 (j169_l1 H0)):L5 (rj169_3 yj169_l1) (j169_3 H0):=fun _ _ _ _ _ _=>le_eq (m169_3 hj169_l1 sc173 sc174 _ _ _ _ _ _) (e169_3 H0 _ _ _ _ _ _)
def rj169_2 (j169_l1:A4):A4:=b169_2 j169_l1 (rj169_3 j169_l1)
theorem sj169_2 (H0:Hp) {yj169_l1:A4} (hj169_l1:L4 yj169_l1 (j169_l1 H0)):L4 (rj169_2 yj169_l1) (j169_2 H0):=fun _ _ _ _ _=>le_eq (m169_2 hj169_l1 (sj169_3 H0 hj169_l1) _ _ _ _ _) (e169_2 H0 _ _ _ _ _)
def rj169_l1 (n:Nat):A4:=@Nat.rec (fun _=>A4) (fun _ _ _ _ _=>none) (fun _ j169_l1=>b169_l1 (rj169_1) (rj169_2 j169_l1)) n
theorem sj169_l1 (H0:Hp) (n:Nat):L4 (rj169_l1 n) (j169_l1 H0):=by
 induction n with
 | zero=>exact fun _ _ _ _ _=>le_none _
 | succ n hj169_l1=>exact fun _ _ _ _ _=>le_eq (m169_l1 (sj169_1 H0) (sj169_2 H0 hj169_l1) _ _ _ _ _) (e169_l1 H0 _ _ _ _ _)
def bc169 (j169_l1:A4) (p0 p1 p2 p3 p4:AV) (H:Hp):Res:=
 bnd (anil p0) fun t15=>
 bnd (afield 4100 t15) fun t16=>
 bnd (aload false 1 t16 H) fun t17=>
 bnd (asliceV 1 t17 none (some (.int .i64 0)) none) fun t18=>
 bnd ((setElems 1 [(0,p2)] [(.int .i64 0)]).map (.vs 1 .clip)) fun t20=>
 bnd (aappEL false 1 8 t18 t20 H) fun r21=>
 bnd (anil p0) fun t22=>
 bnd (afield 4100 t22) fun t23=>
 bnd (astoreU 1 t23 r21.1 r21.2) fun r_9=>
 j169_l1 p0 p1 p3 p4 r_9.2
theorem ec169 (p0 p1 p2 p3 p4:AV) (H:Hp):c169 p0 p1 p2 p3 p4 H=bc169 (j169_l1 H) p0 p1 p2 p3 p4 H:=(callw_cxm (C:=cfg) (fn:=Tryz.f169) (c:=bodyOf Tryz.f169) (n:=153) [3,6,20] Tryz.func169 (by kernel_rfl) (by kernel_rfl) [p0,p1,p2,p3,p4] (by kernel_rfl) H).trans (by kernel_rfl)
theorem mc169 {j169_l1 dj169_l1:A4} (hj169_l1:L4 j169_l1 dj169_l1):L5 (bc169 j169_l1) (bc169 dj169_l1):=fun _ _ _ _ _ _=>
 bR fun _=>bR fun _=>bR fun _=>bR fun _=>bR fun _=>bR fun _=>bR fun _=>bR fun _=>bR fun _=>hj169_l1 _ _ _ _ _
def rc169:A5:=fun p0 p1 p2 p3 p4 H=>bc169 (rj169_l1 100000) p0 p1 p2 p3 p4 H
theorem sc169:L5 rc169 c169:=fun _ _ _ _ _ H=>le_eq (mc169 (sj169_l1 H 100000) _ _ _ _ _ _) (ec169 _ _ _ _ _ _)

def c170 (p0 p1 p2 p3:AV) (H:Hp):Res:=callw cfg 170 [p0,p1,p2,p3] H
def j170_1 (H0:Hp) (x9:AV) (H:Hp):Res:=CXf 170 66 (sub (bodyOf Tryz.f170) [1,1,1,1]) (retL cfg 66 170 Tryz.f170 H0) [(9,x9)] H
def k170_1 (H0:Hp):KL:=seqL (fun k al H=>CXf 170 66 (sub (bodyOf Tryz.f170) [1,1,1,1]) k (trimL (cfg.keep 170) (sub (bodyOf Tryz.f170) [1,1,1,1]) al) H) (retL cfg 66 170 Tryz.f170 H0)
theorem k170_1_tame (H0:Hp):Tame 66 (k170_1 H0):=tame_seq (C:=cfg) (kp:=cfg.keep 170) (sub (bodyOf Tryz.f170) [1,1,1,1]) (tame_ret 170 Tryz.f170 H0)
def j170_3 (H0:Hp) (x0 x2 x3 x9 x20 x21 x22:AV) (H:Hp):Res:=CXf 170 66 (sub (bodyOf Tryz.f170) [1,1,1,0,1,0,0,1,1,1]) (seqL (fun k al H=>LPf 170 66 (sub (bodyOf Tryz.f170) [1,1,1,0,1,0,0]) k (trimL (cfg.keep 170) (sub (bodyOf Tryz.f170) [1,1,1,0,1,0,0]) al) H) (blockL 0 (k170_1 H0))) [(0,x0),(2,x2),(3,x3),(9,x9),(20,x20),(21,x21),(22,x22)] H
def j170_2 (H0:Hp) (x0 x2 x3 x9 x20 x21 x22 x23:AV) (H:Hp):Res:=CXf 170 66 (sub (bodyOf Tryz.f170) [1,1,1,0,1,0,0,1,1]) (seqL (fun k al H=>LPf 170 66 (sub (bodyOf Tryz.f170) [1,1,1,0,1,0,0]) k (trimL (cfg.keep 170) (sub (bodyOf Tryz.f170) [1,1,1,0,1,0,0]) al) H) (blockL 0 (k170_1 H0))) [(0,x0),(2,x2),(3,x3),(9,x9),(20,x20),(21,x21),(22,x22),(23,x23)] H
def j170_l1 (H0:Hp) (x0 x2 x3 x9 x20 x21 x22:AV) (H:Hp):Res:=LPf 170 66 (sub (bodyOf Tryz.f170) [1,1,1,0,1,0,0]) (blockL 0 (k170_1 H0)) [(0,x0),(2,x2),(3,x3),(9,x9),(20,x20),(21,x21),(22,x22)] H
def b170_1 (x9:AV) (H:Hp):Res:=
 some (x9,H)
theorem e170_1 (H0:Hp) (x9:AV) (H:Hp):j170_1 H0 x9 H=b170_1 x9 H:=(CXM_eq [5,9,10] _ _ _ _).trans (by kernel_rfl)
theorem m170_1:L1 (b170_1) (b170_1):=fun _ _=>
 le_refl _
def b170_3 (j170_l1:A7) (x0 x2 x3 x9 x20 x21 x22:AV) (H:Hp):Res:=
 bnd (ibin .add x22 (.int .i64 1)) fun t64=>
 j170_l1 x0 x2 x3 x9 x20 x21 t64 H
theorem e170_3 (H0:Hp) (x0 x2 x3 x9 x20 x21 x22:AV) (H:Hp):j170_3 H0 x0 x2 x3 x9 x20 x21 x22 H=b170_3 (j170_l1 H0) x0 x2 x3 x9 x20 x21 x22 H:=(CXM_eq [5,9,10] _ _ _ _).trans (by kernel_rfl)
theorem m170_3 {j170_l1 dj170_l1:A7} (hj170_l1:L7 j170_l1 dj170_l1):L7 (b170_3 j170_l1) (b170_3 dj170_l1):=fun _ _ _ _ _ _ _ _=>
 bR fun _=>hj170_l1 _ _ _ _ _ _ _ _
def b170_2 (c112:A2) (c169:A5) (j170_3:A7) (cV:AV→List AV→Hp→Res) (x0 x2 x3 x9 x20 x21 x22 x23:AV) (H:Hp):Res:=
 bnd (aindexS 2 x20 x22) fun t24=>
 bnd (aload true 2 t24 H) fun t25=>
 bnd (some ((.ptr H.length 0),H++[.cells [(.int .i64 0),(.int .i64 0)]])) fun r11=>
 bnd (astoreU 2 r11.1 t25 r11.2) fun r_14=>
 bnd (anil x0) fun t27=>
 bnd (afield 0 t27) fun t28=>
 bnd (afield 0 t28) fun t29=>
 bnd (aload false 1 t29 r_14.2) fun t30=>
 bnd (afield 0 r11.1) fun t31=>
 bnd (aload false 1 t31 r_14.2) fun t32=>
 bnd (aindexS 7 t30 t32) fun t33=>
 bnd (aload true 7 t33 r_14.2) fun t34=>
 bnd (some ((.ptr r_14.2.length 0),r_14.2++[.cells [(.int .i64 0),(.int .u64 0),(.int .u64 0),(.int .u64 0),(.int .u64 0),(.int .i64 0),(.int .i64 0)]])) fun r12=>
 bnd (astoreU 7 r12.1 t34 r12.2) fun r_24=>
 bnd (afield 0 r12.1) fun t35=>
 bnd (aload false 1 t35 r_24.2) fun t36=>
 bnd (ibin .eql t36 (.int .i64 1)) fun t37=>
 bnd (gdv t37 true (.tuple []) (some x3)) fun t39=>
 bnd (gdv t37 true (.tuple []) (aload true 2 r11.1 r_24.2)) fun t40=>
 bnd (gdv t37 true ((.tuple []),r_24.2) (cV t39 [t40] r_24.2)) fun r41=>
 bnd (apick t37 r41.1 (.bool false)) fun t42=>
 bnd (gdv t42 true (.tuple []) (afield 1 r12.1)) fun t44=>
 bnd (gdv t42 true (.tuple []) (aload true 4 t44 r41.2)) fun t45=>
 bnd (gdv t42 true (.tuple []) (some x0)) fun t46=>
 bnd (gdv t42 true (.tuple []) (anil t46)) fun t47=>
 bnd (gdv t42 true (.tuple []) (afield 2 t47)) fun t48=>
 bnd (gdv t42 true (.tuple []) (aload false 1 t48 r41.2)) fun t49=>
 bnd (gdv t42 true (.tuple []) (some x2)) fun t50=>
 bnd (gdv t42 true (.tuple []) (aindexStr t49 t50)) fun t51=>
 bnd (gdv t42 true ((.tuple []),r41.2) (c112 t45 t51 r41.2)) fun r52=>
 bnd (apick t42 r52.1 (.bool false)) fun t53=>
 cnd t53
  (bnd (afield 0 r11.1) fun t56=>
  bnd (aload false 1 t56 r52.2) fun t57=>
  bnd (ibin .add t57 (.int .i64 1)) fun t58=>
  bnd (afield 1 r11.1) fun t59=>
  bnd (aload false 1 t59 r52.2) fun t60=>
  bnd (ibin .add x2 (.int .i64 1)) fun t62=>
  bnd (c169 x0 x9 t58 t60 t62 r52.2) fun r63=>
  j170_3 x0 x2 x3 r63.1 x20 x21 x22 r63.2)
  (j170_3 x0 x2 x3 x9 x20 x21 x22 r52.2)
theorem e170_2 (H0:Hp) (x0 x2 x3 x9 x20 x21 x22 x23:AV) (H:Hp):j170_2 H0 x0 x2 x3 x9 x20 x21 x22 x23 H=b170_2 c112 c169 (j170_3 H0) (acall cfg (callw cfg)) x0 x2 x3 x9 x20 x21 x22 x23 H:=(CXM_eq [5,9,10] _ _ _ _).trans (by kernel_rfl)
theorem m170_2 {c112 dc112:A2} (hc112:L2 c112 dc112) {c169 dc169:A5} (hc169:L5 c169 dc169) {j170_3 dj170_3:A7} (hj170_3:L7 j170_3 dj170_3) {cV dcV:AV→List AV→Hp→Res} (hcV:LV cV dcV):L8 (b170_2 c112 c169 j170_3 cV) (b170_2 dc112 dc169 dj170_3 dcV):=fun _ _ _ _ _ _ _ _ _=>
 bR fun _=>bR fun _=>bR fun _=>bR fun _=>bR fun _=>bR fun _=>bR fun _=>bR fun _=>bR fun _=>bR fun _=>bR fun _=>bR fun _=>bR fun _=>bR fun _=>bR fun _=>bR fun _=>bR fun _=>bR fun _=>bR fun _=>bG (hcV _ _ _) fun _=>bR fun _=>bR fun _=>bR fun _=>bR fun _=>bR fun _=>bR fun _=>bR fun _=>bR fun _=>bR fun _=>bG (hc112 _ _ _) fun _=>bR fun _=>bK (bR fun _=>bR fun _=>bR fun _=>bR fun _=>bR fun _=>bR fun _=>bC (hc169 _ _ _ _ _ _) fun _=>hj170_3 _ _ _ _ _ _ _ _) (hj170_3 _ _ _ _ _ _ _ _)
def b170_l1 (j170_1:A1) (j170_2:A8) (x0 x2 x3 x9 x20 x21 x22:AV) (H:Hp):Res:=
 bnd (ibin .lss x22 x21) fun t23=>
 cnd t23
  (j170_2 x0 x2 x3 x9 x20 x21 x22 t23 H)
  (j170_1 x9 H)
theorem e170_l1 (H0:Hp) (x0 x2 x3 x9 x20 x21 x22:AV) (H:Hp):j170_l1 H0 x0 x2 x3 x9 x20 x21 x22 H=b170_l1 (j170_1 H0) (j170_2 H0) x0 x2 x3 x9 x20 x21 x22 H:=(LPL_eqm (C:=cfg) [5,9,10] (tame_block 0 (k170_1_tame H0)) _ _).trans (by kernel_rfl)
theorem m170_l1 {j170_1 dj170_1:A1} (hj170_1:L1 j170_1 dj170_1) {j170_2 dj170_2:A8} (hj170_2:L8 j170_2 dj170_2):L7 (b170_l1 j170_1 j170_2) (b170_l1 dj170_1 dj170_2):=fun _ _ _ _ _ _ _ _=>
 bR fun _=>bK (hj170_2 _ _ _ _ _ _ _ _ _) (hj170_1 _ _)
def rj170_1 (gV:AV→List AV→Hp→Res):A1:=b170_1
theorem sj170_1 (H0:Hp) {gV:AV→List AV→Hp→Res} (hV:LV gV (acall cfg (callw cfg))):L1 (rj170_1 gV) (j170_1 H0):=fun _ _=>le_eq (m170_1 _ _) (e170_1 H0 _ _)
def rj170_3 (gV:AV→List AV→Hp→Res) (j170_l1:A7):A7:=b170_3 j170_l1
theorem sj170_3 (H0:Hp) {gV:AV→List AV→Hp→Res} (hV:LV gV (acall cfg (callw cfg))) {yj170_l1:A7} (hj170_l1:L7 yj170_l1 (j170_l1 H0)):L7 (rj170_3 gV yj170_l1) (j170_3 H0):=fun _ _ _ _ _ _ _ _=>le_eq (m170_3 hj170_l1 _ _ _ _ _ _ _ _) (e170_3 H0 _ _ _ _ _ _ _ _)
def rj170_2 (gV:AV→List AV→Hp→Res) (j170_l1:A7):A8:=b170_2 rc112 rc169 (rj170_3 gV j170_l1) gV
theorem sj170_2 (H0:Hp) {gV:AV→List AV→Hp→Res} (hV:LV gV (acall cfg (callw cfg))) {yj170_l1:A7} (hj170_l1:L7 yj170_l1 (j170_l1 H0)):L8 (rj170_2 gV yj170_l1) (j170_2 H0):=fun _ _ _ _ _ _ _ _ _=>le_eq (m170_2 sc112 sc169 (sj170_3 H0 hV hj170_l1) hV _ _ _ _ _ _ _ _ _) (e170_2 H0 _ _ _ _ _ _ _ _ _)
def rj170_l1 (gV:AV→List AV→Hp→Res) (n:Nat):A7:=@Nat.rec (fun _=>A7) (fun _ _ _ _ _ _ _ _=>none) (fun _ j170_l1=>b170_l1 (rj170_1 gV) (rj170_2 gV j170_l1)) n
theorem sj170_l1 (H0:Hp) {gV:AV→List AV→Hp→Res} (hV:LV gV (acall cfg (callw cfg))) (n:Nat):L7 (rj170_l1 gV n) (j170_l1 H0):=by
 induction n with
 | zero=>exact fun _ _ _ _ _ _ _ _=>le_none _
 | succ n hj170_l1=>exact fun _ _ _ _ _ _ _ _=>le_eq (m170_l1 (sj170_1 H0 hV) (sj170_2 H0 hV hj170_l1) _ _ _ _ _ _ _ _) (e170_l1 H0 _ _ _ _ _ _ _ _)
def bc170 (j170_l1:A7) (p0 p1 p2 p3:AV) (H:Hp):Res:=
 bnd (anil p0) fun t14=>
 bnd (afield 4099 t14) fun t15=>
 bnd (aload false 1 t15 H) fun t16=>
 bnd (ibin .add t16 (.int .i64 1)) fun t17=>
 bnd (anil p0) fun t18=>
 bnd (afield 4099 t18) fun t19=>
 bnd (astoreU 1 t19 t17 H) fun r_7=>
 bnd (alenD (.slice 226) p1) fun t21=>
 j170_l1 p0 p2 p3 .nils p1 t21 (.int .i64 0) r_7.2
theorem ec170 (p0 p1 p2 p3:AV) (H:Hp):c170 p0 p1 p2 p3 H=bc170 (j170_l1 H) p0 p1 p2 p3 H:=(callw_cxm (C:=cfg) (fn:=Tryz.f170) (c:=bodyOf Tryz.f170) (n:=66) [5,9,10] Tryz.func170 (by kernel_rfl) (by kernel_rfl) [p0,p1,p2,p3] (by kernel_rfl) H).trans (by kernel_rfl)
theorem mc170 {j170_l1 dj170_l1:A7} (hj170_l1:L7 j170_l1 dj170_l1):L4 (bc170 j170_l1) (bc170 dj170_l1):=fun _ _ _ _ _=>
 bR fun _=>bR fun _=>bR fun _=>bR fun _=>bR fun _=>bR fun _=>bR fun _=>bR fun _=>hj170_l1 _ _ _ _ _ _ _ _
def rc170 (gV:AV→List AV→Hp→Res):A4:=fun p0 p1 p2 p3 H=>bc170 (rj170_l1 gV 100000) p0 p1 p2 p3 H
theorem sc170 {gV:AV→List AV→Hp→Res} (hV:LV gV (acall cfg (callw cfg))):L4 (rc170 gV) c170:=fun _ _ _ _ H=>le_eq (mc170 (sj170_l1 H hV 100000) _ _ _ _ _) (ec170 _ _ _ _ _)

def c167 (p0 p1 p2:AV) (H:Hp):Res:=callw cfg 167 [p0,p1,p2] H
def j167_2 (H0:Hp) (x6 x9 x10:AV) (H:Hp):Res:=CXf 167 95 (sub (bodyOf Tryz.f167) [1,0,1,1,1,1,1,1,1,1]) (retL cfg 95 167 Tryz.f167 H0) [(6,x6),(9,x9),(10,x10)] H
def k167_1 (H0:Hp):KL:=seqL (fun k al H=>CXf 167 95 (sub (bodyOf Tryz.f167) [1,0,1,1,1,1,1,1,1,1]) k (trimL (cfg.keep 167) (sub (bodyOf Tryz.f167) [1,0,1,1,1,1,1,1,1,1]) al) H) (retL cfg 95 167 Tryz.f167 H0)
theorem k167_1_tame (H0:Hp):Tame 95 (k167_1 H0):=tame_seq (C:=cfg) (kp:=cfg.keep 167) (sub (bodyOf Tryz.f167) [1,0,1,1,1,1,1,1,1,1]) (tame_ret 167 Tryz.f167 H0)
def j167_3 (H0:Hp) (x1 x3 x6 x8 x9 x10 x11 x12:AV) (H:Hp):Res:=CXf 167 95 (sub (bodyOf Tryz.f167) [1,0,1,1,1,1,1,1,1,0,1,0,0,1]) (seqL (fun k al H=>LPf 167 95 (sub (bodyOf Tryz.f167) [1,0,1,1,1,1,1,1,1,0,1,0,0]) k (trimL (cfg.keep 167) (sub (bodyOf Tryz.f167) [1,0,1,1,1,1,1,1,1,0,1,0,0]) al) H) (blockL 0 (k167_1 H0))) [(1,x1),(3,x3),(6,x6),(8,x8),(9,x9),(10,x10),(11,x11),(12,x12)] H
def k167_2 (H0:Hp):KL:=seqL (fun k al H=>CXf 167 95 (sub (bodyOf Tryz.f167) [1,0,1,1,1,1,1,1,1,0,1,0,0,1]) k (trimL (cfg.keep 167) (sub (bodyOf Tryz.f167) [1,0,1,1,1,1,1,1,1,0,1,0,0,1]) al) H) (seqL (fun k al H=>LPf 167 95 (sub (bodyOf Tryz.f167) [1,0,1,1,1,1,1,1,1,0,1,0,0]) k (trimL (cfg.keep 167) (sub (bodyOf Tryz.f167) [1,0,1,1,1,1,1,1,1,0,1,0,0]) al) H) (blockL 0 (k167_1 H0)))
theorem k167_2_tame (H0:Hp):Tame 95 (k167_2 H0):=tame_seq (C:=cfg) (kp:=cfg.keep 167) (sub (bodyOf Tryz.f167) [1,0,1,1,1,1,1,1,1,0,1,0,0,1]) (tame_loop (C:=cfg) (kp:=cfg.keep 167) (sub (bodyOf Tryz.f167) [1,0,1,1,1,1,1,1,1,0,1,0,0]) (tame_block 0 (k167_1_tame H0)))
def j167_6 (H0:Hp) (x1 x3 x6 x8 x9 x10 x11 x12:AV) (H:Hp):Res:=CXf 167 95 (sub (bodyOf Tryz.f167) [1,0,1,1,1,1,1,1,1,0,1,0,0,0,0,1,1,1]) (blockL 1 (k167_2 H0)) [(1,x1),(3,x3),(6,x6),(8,x8),(9,x9),(10,x10),(11,x11),(12,x12)] H
def j167_5 (H0:Hp) (x1 x3 x6 x8 x9 x10 x11 x12:AV) (H:Hp):Res:=CXf 167 95 (sub (bodyOf Tryz.f167) [1,0,1,1,1,1,1,1,1,0,1,0,0,0,0,1,1]) (blockL 1 (k167_2 H0)) [(1,x1),(3,x3),(6,x6),(8,x8),(9,x9),(10,x10),(11,x11),(12,x12)] H
def k167_3 (H0:Hp):KL:=seqL (fun k al H=>CXf 167 95 (sub (bodyOf Tryz.f167) [1,0,1,1,1,1,1,1,1,0,1,0,0,0,0,1,1]) k (trimL (cfg.keep 167) (sub (bodyOf Tryz.f167) [1,0,1,1,1,1,1,1,1,0,1,0,0,0,0,1,1]) al) H) (blockL 1 (k167_2 H0))
theorem k167_3_tame (H0:Hp):Tame 95 (k167_3 H0):=tame_seq (C:=cfg) (kp:=cfg.keep 167) (sub (bodyOf Tryz.f167) [1,0,1,1,1,1,1,1,1,0,1,0,0,0,0,1,1]) (tame_block 1 (k167_2_tame H0))
def j167_8 (H0:Hp) (x1 x3 x6 x8 x9 x10 x11 x12 x48 x49 x50:AV) (H:Hp):Res:=CXf 167 95 (sub (bodyOf Tryz.f167) [1,0,1,1,1,1,1,1,1,0,1,0,0,0,0,1,0,1,0,0,1,1,1]) (seqL (fun k al H=>LPf 167 95 (sub (bodyOf Tryz.f167) [1,0,1,1,1,1,1,1,1,0,1,0,0,0,0,1,0,1,0,0]) k (trimL (cfg.keep 167) (sub (bodyOf Tryz.f167) [1,0,1,1,1,1,1,1,1,0,1,0,0,0,0,1,0,1,0,0]) al) H) (blockL 2 (k167_3 H0))) [(1,x1),(3,x3),(6,x6),(8,x8),(9,x9),(10,x10),(11,x11),(12,x12),(48,x48),(49,x49),(50,x50)] H
def j167_7 (H0:Hp) (x1 x3 x6 x8 x9 x10 x11 x12 x48 x49 x50 x51:AV) (H:Hp):Res:=CXf 167 95 (sub (bodyOf Tryz.f167) [1,0,1,1,1,1,1,1,1,0,1,0,0,0,0,1,0,1,0,0,1,1]) (seqL (fun k al H=>LPf 167 95 (sub (bodyOf Tryz.f167) [1,0,1,1,1,1,1,1,1,0,1,0,0,0,0,1,0,1,0,0]) k (trimL (cfg.keep 167) (sub (bodyOf Tryz.f167) [1,0,1,1,1,1,1,1,1,0,1,0,0,0,0,1,0,1,0,0]) al) H) (blockL 2 (k167_3 H0))) [(1,x1),(3,x3),(6,x6),(8,x8),(9,x9),(10,x10),(11,x11),(12,x12),(48,x48),(49,x49),(50,x50),(51,x51)] H
def j167_l2 (H0:Hp) (x1 x3 x6 x8 x9 x10 x11 x12 x48 x49 x50:AV) (H:Hp):Res:=LPf 167 95 (sub (bodyOf Tryz.f167) [1,0,1,1,1,1,1,1,1,0,1,0,0,0,0,1,0,1,0,0]) (blockL 2 (k167_3 H0)) [(1,x1),(3,x3),(6,x6),(8,x8),(9,x9),(10,x10),(11,x11),(12,x12),(48,x48),(49,x49),(50,x50)] H
def j167_4 (H0:Hp) (x1 x3 x6 x8 x9 x10 x11 x12:AV) (H:Hp):Res:=CXf 167 95 (sub (bodyOf Tryz.f167) [1,0,1,1,1,1,1,1,1,0,1,0,0,0,0,1]) (blockL 1 (k167_2 H0)) [(1,x1),(3,x3),(6,x6),(8,x8),(9,x9),(10,x10),(11,x11),(12,x12)] H
def j167_l1 (H0:Hp) (x1 x3 x6 x8 x9 x10 x11 x12:AV) (H:Hp):Res:=LPf 167 95 (sub (bodyOf Tryz.f167) [1,0,1,1,1,1,1,1,1,0,1,0,0]) (blockL 0 (k167_1 H0)) [(1,x1),(3,x3),(6,x6),(8,x8),(9,x9),(10,x10),(11,x11),(12,x12)] H
def j167_1 (H0:Hp) (x1 x2 x3 x6 x8:AV) (H:Hp):Res:=CXf 167 95 (sub (bodyOf Tryz.f167) [1,0,1,1]) (retL cfg 95 167 Tryz.f167 H0) [(1,x1),(2,x2),(3,x3),(6,x6),(8,x8)] H
def b167_2 (x6 x9 x10:AV) (H:Hp):Res:=
 frzK x10 H fun z10 z10H=>
 bnd (aload true 2 x9 z10H) fun t93=>
 bnd (aloadv false 1 z10) fun t94=>
 bnd (astoreU 2 x6 t93 z10H) fun r_18=>
 bnd (aload true 2 x6 r_18.2) fun v6=>
 some ((.tuple [v6,t94]),r_18.2)
theorem e167_2 (H0:Hp) (x6 x9 x10:AV) (H:Hp):j167_2 H0 x6 x9 x10 H=b167_2 x6 x9 x10 H:=(CXM_eq [4,9,12,14,17,18,19,21] _ _ _ _).trans (by kernel_rfl)
theorem m167_2:L3 (b167_2) (b167_2):=fun _ _ _ _=>
 bF fun _ _=>bR fun _=>bR fun _=>bR fun _=>bR fun _=>le_refl _
def b167_3 (j167_l1:A8) (x1 x3 x6 x8 x9 x10 x11 x12:AV) (H:Hp):Res:=
 bnd (ibin .add x12 (.int .i64 1)) fun t40=>
 j167_l1 x1 x3 x6 x8 x9 x10 x11 t40 H
theorem e167_3 (H0:Hp) (x1 x3 x6 x8 x9 x10 x11 x12:AV) (H:Hp):j167_3 H0 x1 x3 x6 x8 x9 x10 x11 x12 H=b167_3 (j167_l1 H0) x1 x3 x6 x8 x9 x10 x11 x12 H:=(CXM_eq [4,9,12,14,17,18,19,21] _ _ _ _).trans (by kernel_rfl)
theorem m167_3 {j167_l1 dj167_l1:A8} (hj167_l1:L8 j167_l1 dj167_l1):L8 (b167_3 j167_l1) (b167_3 dj167_l1):=fun _ _ _ _ _ _ _ _ _=>
 bR fun _=>hj167_l1 _ _ _ _ _ _ _ _ _
def b167_6 (c170:A4) (j167_2:A3) (j167_3:A8) (x1 x3 x6 x8 x9 x10 x11 x12:AV) (H:Hp):Res:=
 bnd (some (.fn (.func 171) [] [x10,x9])) fun t85=>
 bnd (c170 x8 x11 x12 t85 H) fun r86=>
 bnd (aload false 1 x10 r86.2) fun t87=>
 bnd (gdv t87 true (.tuple []) (some r86.1)) fun t89=>
 bnd (gdv t87 true (.tuple []) (alenD (.slice 226) t89)) fun t90=>
 bnd (gdv t87 true (.tuple []) (ibin .eql t90 (.int .i64 0))) fun t91=>
 bnd (apick t87 t91 (.bool false)) fun t92=>
 cnd t92
  (j167_2 x6 x9 x10 r86.2)
  (j167_3 x1 x3 x6 x8 x9 x10 r86.1 x12 r86.2)
theorem e167_6 (H0:Hp) (x1 x3 x6 x8 x9 x10 x11 x12:AV) (H:Hp):j167_6 H0 x1 x3 x6 x8 x9 x10 x11 x12 H=b167_6 c170 (j167_2 H0) (j167_3 H0) x1 x3 x6 x8 x9 x10 x11 x12 H:=(CXM_eq [4,9,12,14,17,18,19,21] _ _ _ _).trans (by kernel_rfl)
theorem m167_6 {c170 dc170:A4} (hc170:L4 c170 dc170) {j167_2 dj167_2:A3} (hj167_2:L3 j167_2 dj167_2) {j167_3 dj167_3:A8} (hj167_3:L8 j167_3 dj167_3):L8 (b167_6 c170 j167_2 j167_3) (b167_6 dc170 dj167_2 dj167_3):=fun _ _ _ _ _ _ _ _ _=>
 bR fun _=>bC (hc170 _ _ _ _ _) fun _=>bR fun _=>bR fun _=>bR fun _=>bR fun _=>bR fun _=>bK (hj167_2 _ _ _ _) (hj167_3 _ _ _ _ _ _ _ _ _)
def b167_5 (j167_2:A3) (j167_6:A8) (x1 x3 x6 x8 x9 x10 x11 x12:AV) (H:Hp):Res:=
 bnd (alenD .string x1) fun t80=>
 bnd (ibin .eql x12 t80) fun t81=>
 cnd t81
  (j167_2 x6 x9 x10 H)
  (j167_6 x1 x3 x6 x8 x9 x10 x11 x12 H)
theorem e167_5 (H0:Hp) (x1 x3 x6 x8 x9 x10 x11 x12:AV) (H:Hp):j167_5 H0 x1 x3 x6 x8 x9 x10 x11 x12 H=b167_5 (j167_2 H0) (j167_6 H0) x1 x3 x6 x8 x9 x10 x11 x12 H:=(CXM_eq [4,9,12,14,17,18,19,21] _ _ _ _).trans (by kernel_rfl)
theorem m167_5 {j167_2 dj167_2:A3} (hj167_2:L3 j167_2 dj167_2) {j167_6 dj167_6:A8} (hj167_6:L8 j167_6 dj167_6):L8 (b167_5 j167_2 j167_6) (b167_5 dj167_2 dj167_6):=fun _ _ _ _ _ _ _ _ _=>
 bR fun _=>bR fun _=>bK (hj167_2 _ _ _ _) (hj167_6 _ _ _ _ _ _ _ _ _)
def b167_8 (j167_l2:A11) (x1 x3 x6 x8 x9 x10 x11 x12 x48 x49 x50:AV) (H:Hp):Res:=
 bnd (ibin .add x50 (.int .i64 1)) fun t77=>
 j167_l2 x1 x3 x6 x8 x9 x10 x11 x12 x48 x49 t77 H
theorem e167_8 (H0:Hp) (x1 x3 x6 x8 x9 x10 x11 x12 x48 x49 x50:AV) (H:Hp):j167_8 H0 x1 x3 x6 x8 x9 x10 x11 x12 x48 x49 x50 H=b167_8 (j167_l2 H0) x1 x3 x6 x8 x9 x10 x11 x12 x48 x49 x50 H:=(CXM_eq [4,9,12,14,17,18,19,21] _ _ _ _).trans (by kernel_rfl)
theorem m167_8 {j167_l2 dj167_l2:A11} (hj167_l2:L11 j167_l2 dj167_l2):L11 (b167_8 j167_l2) (b167_8 dj167_l2):=fun _ _ _ _ _ _ _ _ _ _ _ _=>
 bR fun _=>hj167_l2 _ _ _ _ _ _ _ _ _ _ _ _
def b167_7 (j167_8:A11) (x1 x3 x6 x8 x9 x10 x11 x12 x48 x49 x50 x51:AV) (H:Hp):Res:=
 bnd (aindexS 2 x48 x50) fun t52=>
 bnd (aload true 2 t52 H) fun t53=>
 bnd (some ((.ptr H.length 0),H++[.cells [(.int .i64 0),(.int .i64 0)]])) fun r14=>
 bnd (astoreU 2 r14.1 t53 r14.2) fun r_36=>
 bnd (afield 0 x3) fun t54=>
 bnd (aload false 1 t54 r_36.2) fun t55=>
 bnd (afield 0 r14.1) fun t56=>
 bnd (aload false 1 t56 r_36.2) fun t57=>
 bnd (aindexS 7 t55 t57) fun t58=>
 bnd (afield 0 t58) fun t59=>
 bnd (aload false 1 t59 r_36.2) fun t60=>
 bnd (ibin .eql t60 (.int .i64 6)) fun t61=>
 bnd (gdv t61 true (.tuple []) (aload false 1 x10 r_36.2)) fun t63=>
 bnd (gdv t61 true (.tuple []) (aun .not t63)) fun t64=>
 bnd (gdv t61 true (.tuple []) (some t64)) fun t65=>
 bnd (gdv t65 false (.tuple []) (afield 1 r14.1)) fun t66=>
 bnd (gdv t65 false (.tuple []) (aload false 1 t66 r_36.2)) fun t67=>
 bnd (gdv t65 false (.tuple []) (afield 0 x9)) fun t68=>
 bnd (gdv t65 false (.tuple []) (aload false 1 t68 r_36.2)) fun t69=>
 bnd (gdv t65 false (.tuple []) (ibin .leq t67 t69)) fun t70=>
 bnd (gdv t61 true (.tuple []) (apick t65 (.bool true) t70)) fun t71=>
 bnd (apick t61 t71 (.bool false)) fun t72=>
 cnd t72
  (bnd (afield 1 r14.1) fun t73=>
  bnd (aload false 1 t73 r_36.2) fun t74=>
  bnd ((afill [(0,1,t74),(1,1,x12)] [(.int .i64 0),(.int .i64 0)]).map .agg) fun t76=>
  bnd (astoreU 2 x9 t76 r_36.2) fun r_58=>
  bnd (astoreU 1 x10 (.bool true) r_58.2) fun r_59=>
  j167_8 x1 x3 x6 x8 x9 x10 x11 x12 x48 x49 x50 r_59.2)
  (j167_8 x1 x3 x6 x8 x9 x10 x11 x12 x48 x49 x50 r_36.2)
theorem e167_7 (H0:Hp) (x1 x3 x6 x8 x9 x10 x11 x12 x48 x49 x50 x51:AV) (H:Hp):j167_7 H0 x1 x3 x6 x8 x9 x10 x11 x12 x48 x49 x50 x51 H=b167_7 (j167_8 H0) x1 x3 x6 x8 x9 x10 x11 x12 x48 x49 x50 x51 H:=(CXM_eq [4,9,12,14,17,18,19,21] _ _ _ _).trans (by kernel_rfl)
theorem m167_7 {j167_8 dj167_8:A11} (hj167_8:L11 j167_8 dj167_8):L12 (b167_7 j167_8) (b167_7 dj167_8):=fun _ _ _ _ _ _ _ _ _ _ _ _ _=>
 bR fun _=>bR fun _=>bR fun _=>bR fun _=>bR fun _=>bR fun _=>bR fun _=>bR fun _=>bR fun _=>bR fun _=>bR fun _=>bR fun _=>bR fun _=>bR fun _=>bR fun _=>bR fun _=>bR fun _=>bR fun _=>bR fun _=>bR fun _=>bR fun _=>bR fun _=>bK (bR fun _=>bR fun _=>bR fun _=>bR fun _=>bR fun _=>hj167_8 _ _ _ _ _ _ _ _ _ _ _ _) (hj167_8 _ _ _ _ _ _ _ _ _ _ _ _)
def b167_l2 (j167_5:A8) (j167_7:A12) (x1 x3 x6 x8 x9 x10 x11 x12 x48 x49 x50:AV) (H:Hp):Res:=
 bnd (ibin .lss x50 x49) fun t51=>
 cnd t51
  (j167_7 x1 x3 x6 x8 x9 x10 x11 x12 x48 x49 x50 t51 H)
  (j167_5 x1 x3 x6 x8 x9 x10 x11 x12 H)
theorem e167_l2 (H0:Hp) (x1 x3 x6 x8 x9 x10 x11 x12 x48 x49 x50:AV) (H:Hp):j167_l2 H0 x1 x3 x6 x8 x9 x10 x11 x12 x48 x49 x50 H=b167_l2 (j167_5 H0) (j167_7 H0) x1 x3 x6 x8 x9 x10 x11 x12 x48 x49 x50 H:=(LPL_eqm (C:=cfg) [4,9,12,14,17,18,19,21] (tame_block 2 (k167_3_tame H0)) _ _).trans (by kernel_rfl)
theorem m167_l2 {j167_5 dj167_5:A8} (hj167_5:L8 j167_5 dj167_5) {j167_7 dj167_7:A12} (hj167_7:L12 j167_7 dj167_7):L11 (b167_l2 j167_5 j167_7) (b167_l2 dj167_5 dj167_7):=fun _ _ _ _ _ _ _ _ _ _ _ _=>
 bR fun _=>bK (hj167_7 _ _ _ _ _ _ _ _ _ _ _ _ _) (hj167_5 _ _ _ _ _ _ _ _ _)
def b167_4 (j167_l2:A11) (x1 x3 x6 x8 x9 x10 x11 x12:AV) (H:Hp):Res:=
 bnd (alenD (.slice 226) x11) fun t49=>
 j167_l2 x1 x3 x6 x8 x9 x10 x11 x12 x11 t49 (.int .i64 0) H
theorem e167_4 (H0:Hp) (x1 x3 x6 x8 x9 x10 x11 x12:AV) (H:Hp):j167_4 H0 x1 x3 x6 x8 x9 x10 x11 x12 H=b167_4 (j167_l2 H0) x1 x3 x6 x8 x9 x10 x11 x12 H:=(CXM_eq [4,9,12,14,17,18,19,21] _ _ _ _).trans (by kernel_rfl)
theorem m167_4 {j167_l2 dj167_l2:A11} (hj167_l2:L11 j167_l2 dj167_l2):L8 (b167_4 j167_l2) (b167_4 dj167_l2):=fun _ _ _ _ _ _ _ _ _=>
 bR fun _=>hj167_l2 _ _ _ _ _ _ _ _ _ _ _ _
def b167_l1 (c169:A5) (j167_4:A8) (x1 x3 x6 x8 x9 x10 x11 x12:AV) (H:Hp):Res:=
 bnd (aload false 1 x10 H) fun t41=>
 bnd (aun .not t41) fun t42=>
 cnd t42
  (bnd (c169 x8 x11 (.int .i64 0) x12 x12 H) fun r47=>
  j167_4 x1 x3 x6 x8 x9 x10 r47.1 x12 r47.2)
  (j167_4 x1 x3 x6 x8 x9 x10 x11 x12 H)
theorem e167_l1 (H0:Hp) (x1 x3 x6 x8 x9 x10 x11 x12:AV) (H:Hp):j167_l1 H0 x1 x3 x6 x8 x9 x10 x11 x12 H=b167_l1 c169 (j167_4 H0) x1 x3 x6 x8 x9 x10 x11 x12 H:=(LPL_eqm (C:=cfg) [4,9,12,14,17,18,19,21] (tame_block 0 (k167_1_tame H0)) _ _).trans (by kernel_rfl)
theorem m167_l1 {c169 dc169:A5} (hc169:L5 c169 dc169) {j167_4 dj167_4:A8} (hj167_4:L8 j167_4 dj167_4):L8 (b167_l1 c169 j167_4) (b167_l1 dc169 dj167_4):=fun _ _ _ _ _ _ _ _ _=>
 bR fun _=>bR fun _=>bK (bC (hc169 _ _ _ _ _ _) fun _=>hj167_4 _ _ _ _ _ _ _ _ _) (hj167_4 _ _ _ _ _ _ _ _ _)
def b167_1 (j167_l1:A8) (x1 x2 x3 x6 x8:AV) (H:Hp):Res:=
 bnd (some ((.ptr H.length 0),H++[.cells [(.int .i64 0),(.int .i64 0)]])) fun r9=>
 bnd (some ((.ptr r9.2.length 0),r9.2++[.cells [(.bool false)]])) fun r10=>
 bnd (astoreU 1 r10.1 (.bool false) r10.2) fun r_7=>
 bnd (anil x8) fun t32=>
 bnd (afield 4099 t32) fun t33=>
 bnd (aload false 1 t33 r_7.2) fun t34=>
 bnd (ibin .add t34 (.int .i64 1)) fun t35=>
 bnd (anil x8) fun t36=>
 bnd (afield 4099 t36) fun t37=>
 bnd (astoreU 1 t37 t35 r_7.2) fun r_14=>
 j167_l1 x1 x3 x6 x8 r9.1 r10.1 .nils x2 r_14.2
theorem e167_1 (H0:Hp) (x1 x2 x3 x6 x8:AV) (H:Hp):j167_1 H0 x1 x2 x3 x6 x8 H=b167_1 (j167_l1 H0) x1 x2 x3 x6 x8 H:=(CXM_eq [4,9,12,14,17,18,19,21] _ _ _ _).trans (by kernel_rfl)
theorem m167_1 {j167_l1 dj167_l1:A8} (hj167_l1:L8 j167_l1 dj167_l1):L5 (b167_1 j167_l1) (b167_1 dj167_l1):=fun _ _ _ _ _ _=>
 bR fun _=>bR fun _=>bR fun _=>bR fun _=>bR fun _=>bR fun _=>bR fun _=>bR fun _=>bR fun _=>bR fun _=>hj167_l1 _ _ _ _ _ _ _ _ _
def rj167_2 (gV:AV→List AV→Hp→Res):A3:=b167_2
theorem sj167_2 (H0:Hp) {gV:AV→List AV→Hp→Res} (hV:LV gV (acall cfg (callw cfg))):L3 (rj167_2 gV) (j167_2 H0):=fun _ _ _ _=>le_eq (m167_2 _ _ _ _) (e167_2 H0 _ _ _ _)
def rj167_3 (gV:AV→List AV→Hp→Res) (j167_l1:A8):A8:=b167_3 j167_l1
theorem sj167_3 (H0:Hp) {gV:AV→List AV→Hp→Res} (hV:LV gV (acall cfg (callw cfg))) {yj167_l1:A8} (hj167_l1:L8 yj167_l1 (j167_l1 H0)):L8 (rj167_3 gV yj167_l1) (j167_3 H0):=fun _ _ _ _ _ _ _ _ _=>le_eq (m167_3 hj167_l1 _ _ _ _ _ _ _ _ _) (e167_3 H0 _ _ _ _ _ _ _ _ _)
def rj167_6 (gV:AV→List AV→Hp→Res) (j167_l1:A8):A8:=b167_6 (rc170 gV) (rj167_2 gV) (rj167_3 gV j167_l1)
theorem sj167_6 (H0:Hp) {gV:AV→List AV→Hp→Res} (hV:LV gV (acall cfg (callw cfg))) {yj167_l1:A8} (hj167_l1:L8 yj167_l1 (j167_l1 H0)):L8 (rj167_6 gV yj167_l1) (j167_6 H0):=fun _ _ _ _ _ _ _ _ _=>le_eq (m167_6 (sc170 hV) (sj167_2 H0 hV) (sj167_3 H0 hV hj167_l1) _ _ _ _ _ _ _ _ _) (e167_6 H0 _ _ _ _ _ _ _ _ _)
def rj167_5 (gV:AV→List AV→Hp→Res) (j167_l1:A8):A8:=b167_5 (rj167_2 gV) (rj167_6 gV j167_l1)
theorem sj167_5 (H0:Hp) {gV:AV→List AV→Hp→Res} (hV:LV gV (acall cfg (callw cfg))) {yj167_l1:A8} (hj167_l1:L8 yj167_l1 (j167_l1 H0)):L8 (rj167_5 gV yj167_l1) (j167_5 H0):=fun _ _ _ _ _ _ _ _ _=>le_eq (m167_5 (sj167_2 H0 hV) (sj167_6 H0 hV hj167_l1) _ _ _ _ _ _ _ _ _) (e167_5 H0 _ _ _ _ _ _ _ _ _)
def rj167_8 (gV:AV→List AV→Hp→Res) (j167_l2:A11):A11:=b167_8 j167_l2
theorem sj167_8 (H0:Hp) {gV:AV→List AV→Hp→Res} (hV:LV gV (acall cfg (callw cfg))) {yj167_l2:A11} (hj167_l2:L11 yj167_l2 (j167_l2 H0)):L11 (rj167_8 gV yj167_l2) (j167_8 H0):=fun _ _ _ _ _ _ _ _ _ _ _ _=>le_eq (m167_8 hj167_l2 _ _ _ _ _ _ _ _ _ _ _ _) (e167_8 H0 _ _ _ _ _ _ _ _ _ _ _ _)
def rj167_7 (gV:AV→List AV→Hp→Res) (j167_l2:A11):A12:=b167_7 (rj167_8 gV j167_l2)
theorem sj167_7 (H0:Hp) {gV:AV→List AV→Hp→Res} (hV:LV gV (acall cfg (callw cfg))) {yj167_l2:A11} (hj167_l2:L11 yj167_l2 (j167_l2 H0)):L12 (rj167_7 gV yj167_l2) (j167_7 H0):=fun _ _ _ _ _ _ _ _ _ _ _ _ _=>le_eq (m167_7 (sj167_8 H0 hV hj167_l2) _ _ _ _ _ _ _ _ _ _ _ _ _) (e167_7 H0 _ _ _ _ _ _ _ _ _ _ _ _ _)
def rj167_l2 (gV:AV→List AV→Hp→Res) (j167_l1:A8) (n:Nat):A11:=@Nat.rec (fun _=>A11) (fun _ _ _ _ _ _ _ _ _ _ _ _=>none) (fun _ j167_l2=>b167_l2 (rj167_5 gV j167_l1) (rj167_7 gV j167_l2)) n
theorem sj167_l2 (H0:Hp) {gV:AV→List AV→Hp→Res} (hV:LV gV (acall cfg (callw cfg))) {yj167_l1:A8} (hj167_l1:L8 yj167_l1 (j167_l1 H0)) (n:Nat):L11 (rj167_l2 gV yj167_l1 n) (j167_l2 H0):=by
 induction n with
 | zero=>exact fun _ _ _ _ _ _ _ _ _ _ _ _=>le_none _
 | succ n hj167_l2=>exact fun _ _ _ _ _ _ _ _ _ _ _ _=>le_eq (m167_l2 (sj167_5 H0 hV hj167_l1) (sj167_7 H0 hV hj167_l2) _ _ _ _ _ _ _ _ _ _ _ _) (e167_l2 H0 _ _ _ _ _ _ _ _ _ _ _ _)
def rj167_4 (gV:AV→List AV→Hp→Res) (j167_l1:A8):A8:=b167_4 (rj167_l2 gV j167_l1 100000)
theorem sj167_4 (H0:Hp) {gV:AV→List AV→Hp→Res} (hV:LV gV (acall cfg (callw cfg))) {yj167_l1:A8} (hj167_l1:L8 yj167_l1 (j167_l1 H0)):L8 (rj167_4 gV yj167_l1) (j167_4 H0):=fun _ _ _ _ _ _ _ _ _=>le_eq (m167_4 (sj167_l2 H0 hV hj167_l1 100000) _ _ _ _ _ _ _ _ _) (e167_4 H0 _ _ _ _ _ _ _ _ _)
def rj167_l1 (gV:AV→List AV→Hp→Res) (n:Nat):A8:=@Nat.rec (fun _=>A8) (fun _ _ _ _ _ _ _ _ _=>none) (fun _ j167_l1=>b167_l1 rc169 (rj167_4 gV j167_l1)) n
theorem sj167_l1 (H0:Hp) {gV:AV→List AV→Hp→Res} (hV:LV gV (acall cfg (callw cfg))) (n:Nat):L8 (rj167_l1 gV n) (j167_l1 H0):=by
 induction n with
 | zero=>exact fun _ _ _ _ _ _ _ _ _=>le_none _
 | succ n hj167_l1=>exact fun _ _ _ _ _ _ _ _ _=>le_eq (m167_l1 sc169 (sj167_4 H0 hV hj167_l1) _ _ _ _ _ _ _ _ _) (e167_l1 H0 _ _ _ _ _ _ _ _ _)
def rj167_1 (gV:AV→List AV→Hp→Res):A5:=b167_1 (rj167_l1 gV 100000)
theorem sj167_1 (H0:Hp) {gV:AV→List AV→Hp→Res} (hV:LV gV (acall cfg (callw cfg))):L5 (rj167_1 gV) (j167_1 H0):=fun _ _ _ _ _ _=>le_eq (m167_1 (sj167_l1 H0 hV 100000) _ _ _ _ _ _) (e167_1 H0 _ _ _ _ _ _)
def bc167 (c168:A2) (j167_1:A5) (p0 p1 p2:AV) (H:Hp):Res:=
 bnd (abox p0 H) fun r3=>
 bnd (some ((.ptr r3.2.length 0),r3.2++[.cells [(.int .i64 0),(.int .i64 0)]])) fun r6=>
 bnd (aload true 2 r3.1 r6.2) fun t15=>
 bnd (c168 t15 p1 r6.2) fun r17=>
 bnd (ebin (.pointer 223) .eql r17.1 .nilp) fun t19=>
 bnd (gdv t19 false (.tuple []) (some p2)) fun t21=>
 bnd (gdv t19 false (.tuple []) (ibin .lss t21 (.int .i64 0))) fun t22=>
 bnd (apick t19 (.bool true) t22) fun t23=>
 bnd (gdv t23 false (.tuple []) (some p2)) fun t25=>
 bnd (gdv t23 false (.tuple []) (some p1)) fun t26=>
 bnd (gdv t23 false (.tuple []) (alenD .string t26)) fun t27=>
 bnd (gdv t23 false (.tuple []) (ibin .gtr t25 t27)) fun t28=>
 bnd (apick t23 (.bool true) t28) fun t29=>
 cnd t29
  (bnd (some (.agg [(.int .i64 0),(.int .i64 0)])) fun t30=>
  bnd (astoreU 2 r6.1 t30 r17.2) fun r_73=>
  bnd (aload true 2 r6.1 r_73.2) fun v6=>
  some ((.tuple [v6,(.bool false)]),r_73.2))
  (j167_1 p1 p2 r3.1 r6.1 r17.1 r17.2)
theorem ec167 (p0 p1 p2:AV) (H:Hp):c167 p0 p1 p2 H=bc167 c168 (j167_1 H) p0 p1 p2 H:=(callw_cxm (C:=cfg) (fn:=Tryz.f167) (c:=bodyOf Tryz.f167) (n:=95) [4,9,12,14,17,18,19,21] Tryz.func167 (by kernel_rfl) (by kernel_rfl) [p0,p1,p2] (by kernel_rfl) H).trans (by kernel_rfl)
theorem mc167 {c168 dc168:A2} (hc168:L2 c168 dc168) {j167_1 dj167_1:A5} (hj167_1:L5 j167_1 dj167_1):L3 (bc167 c168 j167_1) (bc167 dc168 dj167_1):=fun _ _ _ _=>
 bR fun _=>bR fun _=>bR fun _=>bC (hc168 _ _ _) fun _=>bR fun _=>bR fun _=>bR fun _=>bR fun _=>bR fun _=>bR fun _=>bR fun _=>bR fun _=>bR fun _=>bK (bR fun _=>bR fun _=>bR fun _=>le_refl _) (hj167_1 _ _ _ _ _ _)
def rc167 (gV:AV→List AV→Hp→Res):A3:=fun p0 p1 p2 H=>bc167 (rc168 gV) (rj167_1 gV) p0 p1 p2 H
theorem sc167 {gV:AV→List AV→Hp→Res} (hV:LV gV (acall cfg (callw cfg))):L3 (rc167 gV) c167:=fun _ _ _ H=>le_eq (mc167 (sc168 hV) (sj167_1 H hV) _ _ _ _) (ec167 _ _ _ _)
def q167:A3:=fun p0 p1 p2 H=>flatC (callw cfg 167) [p0,p1,p2] H
def rq167 (gV:AV→List AV→Hp→Res):A3:=fun p0 p1 p2 H=>flatC (ofL3 (rc167 gV)) [p0,p1,p2] H
theorem sq167 {gV:AV→List AV→Hp→Res} (hV:LV gV (acall cfg (callw cfg))):L3 (rq167 gV) q167:=fun _ _ _ _=>flat_le (ofL3_le (sc167 hV)) _ _

def c166 (p0 p1 p2:AV) (H:Hp):Res:=callw cfg 166 [p0,p1,p2] H
def j166_1 (H0:Hp) (x6 x9:AV) (H:Hp):Res:=CXf 166 27 (sub (bodyOf Tryz.f166) [1,1,1]) (retL cfg 27 166 Tryz.f166 H0) [(6,x6),(9,x9)] H
def b166_1 (x6 x9:AV) (H:Hp):Res:=
 bnd (aload true 2 x9 H) fun t24=>
 bnd ((setElems 2 [(0,t24)] [(.agg [(.int .i64 0),(.int .i64 0)])]).map (.vs 2 .clip)) fun t25=>
 bnd ((afill [(0,1,t25)] [.nils]).map .agg) fun t26=>
 bnd (astoreU 1 x6 t26 H) fun r_13=>
 bnd (aload true 1 x6 r_13.2) fun v6=>
 some ((.tuple [v6,(.bool true),(.int .i64 0)]),r_13.2)
theorem e166_1 (H0:Hp) (x6 x9:AV) (H:Hp):j166_1 H0 x6 x9 H=b166_1 x6 x9 H:=(CXM_eq [4] _ _ _ _).trans (by kernel_rfl)
theorem m166_1:L2 (b166_1) (b166_1):=fun _ _ _=>
 bR fun _=>bR fun _=>bR fun _=>bR fun _=>bR fun _=>le_refl _
def rj166_1 (gV:AV→List AV→Hp→Res):A2:=b166_1
theorem sj166_1 (H0:Hp) {gV:AV→List AV→Hp→Res} (hV:LV gV (acall cfg (callw cfg))):L2 (rj166_1 gV) (j166_1 H0):=fun _ _ _=>le_eq (m166_1 _ _ _) (e166_1 H0 _ _ _)
def bc166 (q167:A3) (j166_1:A2) (p0 p1 p2:AV) (H:Hp):Res:=
 bnd (some ((.ptr H.length 0),H++[.cells [.nils]])) fun r6=>
 bnd (anil p0) fun t13=>
 bnd (afield 9 t13) fun t14=>
 bnd (aload true 2 t14 r6.2) fun t15=>
 bnd (q167 t15 p1 p2 r6.2) fun r18=>
 bnd (aext r18.1 0) fun t19=>
 bnd (aext r18.1 1) fun t20=>
 bnd (some ((.ptr r18.2.length 0),r18.2++[.cells [(.int .i64 0),(.int .i64 0)]])) fun r9=>
 bnd (astoreU 2 r9.1 t19 r9.2) fun r_9=>
 bnd (aun .not t20) fun t22=>
 cnd t22
  (bnd (some (.agg [.nils])) fun t23=>
  bnd (astoreU 1 r6.1 t23 r_9.2) fun r_17=>
  bnd (aload true 1 r6.1 r_17.2) fun v6=>
  some ((.tuple [v6,(.bool false),(.int .i64 0)]),r_17.2))
  (j166_1 r6.1 r9.1 r_9.2)
theorem ec166 (p0 p1 p2:AV) (H:Hp):c166 p0 p1 p2 H=bc166 q167 (j166_1 H) p0 p1 p2 H:=(callw_cxm (C:=cfg) (fn:=Tryz.f166) (c:=bodyOf Tryz.f166) (n:=27) [4] Tryz.func166 (by kernel_rfl) (by kernel_rfl) [p0,p1,p2] (by kernel_rfl) H).trans (by kernel_rfl)
theorem mc166 {q167 dq167:A3} (hq167:L3 q167 dq167) {j166_1 dj166_1:A2} (hj166_1:L2 j166_1 dj166_1):L3 (bc166 q167 j166_1) (bc166 dq167 dj166_1):=fun _ _ _ _=>
 bR fun _=>bR fun _=>bR fun _=>bR fun _=>bC (hq167 _ _ _ _) fun _=>bR fun _=>bR fun _=>bR fun _=>bR fun _=>bR fun _=>bK (bR fun _=>bR fun _=>bR fun _=>le_refl _) (hj166_1 _ _ _)
def rc166 (gV:AV→List AV→Hp→Res):A3:=fun p0 p1 p2 H=>bc166 (rq167 gV) (rj166_1 gV) p0 p1 p2 H
theorem sc166 {gV:AV→List AV→Hp→Res} (hV:LV gV (acall cfg (callw cfg))):L3 (rc166 gV) c166:=fun _ _ _ H=>le_eq (mc166 (sq167 hV) (sj166_1 H hV) _ _ _ _) (ec166 _ _ _ _)

def c171 (p0 p1 p2:AV) (H:Hp):Res:=callw cfg 171 [p0,p1,p2] H
def bc171 (p0 p1 p2:AV) (H:Hp):Res:=
 bnd (abox p0 H) fun r3=>
 bnd (aload false 1 p1 r3.2) fun t5=>
 bnd (aun .not t5) fun t6=>
 bnd (gdv t6 false (.tuple []) (afield 1 r3.1)) fun t8=>
 bnd (gdv t6 false (.tuple []) (aload false 1 t8 r3.2)) fun t9=>
 bnd (gdv t6 false (.tuple []) (afield 0 p2)) fun t10=>
 bnd (gdv t6 false (.tuple []) (aload false 1 t10 r3.2)) fun t11=>
 bnd (gdv t6 false (.tuple []) (ibin .leq t9 t11)) fun t12=>
 bnd (apick t6 (.bool true) t12) fun t13=>
 some (t13,r3.2)
theorem ec171 (p0 p1 p2:AV) (H:Hp):c171 p0 p1 p2 H=bc171 p0 p1 p2 H:=(callw_cxm (C:=cfg) (fn:=Tryz.f171) (c:=bodyOf Tryz.f171) (n:=14) [] Tryz.func171 (by kernel_rfl) (by kernel_rfl) [p0,p1,p2] (by kernel_rfl) H).trans (by kernel_rfl)
theorem mc171:L3 (bc171) (bc171):=fun _ _ _ _=>
 bR fun _=>bR fun _=>bR fun _=>bR fun _=>bR fun _=>bR fun _=>bR fun _=>bR fun _=>bR fun _=>le_refl _
def rc171:A3:=fun p0 p1 p2 H=>bc171 p0 p1 p2 H
theorem sc171:L3 rc171 c171:=fun _ _ _ H=>le_eq (mc171 _ _ _ _) (ec171 _ _ _ _)

def c175 (p0 p1:AV) (H:Hp):Res:=callw cfg 175 [p0,p1] H
def bc175 (p0 p1:AV) (H:Hp):Res:=
 bnd (ibin .geq p0 (.int .i64 0)) fun t5=>
 bnd (gdv t5 true (.tuple []) (some p0)) fun t7=>
 bnd (gdv t5 true (.tuple []) (aload false 1 p1 H)) fun t8=>
 bnd (gdv t5 true (.tuple []) (ibin .lss t7 t8)) fun t9=>
 bnd (apick t5 t9 (.bool false)) fun t10=>
 some (t10,H)
theorem ec175 (p0 p1:AV) (H:Hp):c175 p0 p1 H=bc175 p0 p1 H:=(callw_cxm (C:=cfg) (fn:=Tryz.f175) (c:=bodyOf Tryz.f175) (n:=11) [] Tryz.func175 (by kernel_rfl) (by kernel_rfl) [p0,p1] (by kernel_rfl) H).trans (by kernel_rfl)
theorem mc175:L2 (bc175) (bc175):=fun _ _ _=>
 bR fun _=>bR fun _=>bR fun _=>bR fun _=>bR fun _=>le_refl _
def rc175:A2:=fun p0 p1 H=>bc175 p0 p1 H
theorem sc175:L2 rc175 c175:=fun _ _ H=>le_eq (mc175 _ _ _) (ec175 _ _ _)

def tabV (g:AV→List AV→Hp→Res) (f:Nat) (l:List AV) (H:Hp):Res:=cond (Nat.beq f 19) (ofL2 (rc19) l H) (cond (Nat.beq f 26) (ofL1 (rc26 g) l H) (cond (Nat.beq f 34) (ofL1 (rc34 g) l H) (cond (Nat.beq f 35) (ofL1 (rc35 g) l H) (cond (Nat.beq f 46) (ofL2 (rc46 g) l H) (cond (Nat.beq f 53) (ofL1 (rc53 g) l H) (cond (Nat.beq f 54) (ofL2 (rc54 g) l H) (cond (Nat.beq f 55) (ofL2 (rc55 g) l H) (cond (Nat.beq f 56) (ofL1 (rc56 g) l H) (cond (Nat.beq f 57) (ofL1 (rc57 g) l H) (cond (Nat.beq f 58) (ofL1 (rc58 g) l H) (cond (Nat.beq f 59) (flatC (ofL1 (rc59 g)) l H) (cond (Nat.beq f 80) (ofL2 (rc80 g) l H) (cond (Nat.beq f 83) (ofL2 (rc83 g) l H) (cond (Nat.beq f 104) (ofL2 (rc104 g) l H) (cond (Nat.beq f 105) (ofL3 (rc105) l H) (cond (Nat.beq f 106) (ofL1 (rc106 g) l H) (cond (Nat.beq f 107) (ofL1 (rc107 g) l H) (cond (Nat.beq f 108) (flatC (ofL1 (rc108 g)) l H) (cond (Nat.beq f 166) (ofL3 (rc166 g) l H) (cond (Nat.beq f 171) (ofL3 (rc171) l H) (cond (Nat.beq f 175) (ofL2 (rc175) l H) (none))))))))))))))))))))))
def rV (n:Nat):AV→List AV→Hp→Res:=@Nat.rec (fun _=>AV→List AV→Hp→Res) (fun _ _ _=>none) (fun _ ih=>valV (tabV ih)) n
theorem sV (n:Nat):LV (rV n) (acall cfg (callw cfg)):=by
 induction n with
 | zero=>exact fun _ _ _=>le_none _
 | succ n ih=>
  refine valV_le ?_
  intro f a b l H r h
  unfold tabV at h
  refine tab_step h (fun e h=>?_) (fun h=>?_)
  ·subst e
   have e:acall cfg (callw cfg) (.fn (.func 19) a b) l H=callw cfg 19 (a++l++b) H:=by kernel_rfl
   rw [e]
   exact ofL2_le (sc19) _ _ _ h
  refine tab_step h (fun e h=>?_) (fun h=>?_)
  ·subst e
   have e:acall cfg (callw cfg) (.fn (.func 26) a b) l H=callw cfg 26 (a++l++b) H:=by kernel_rfl
   rw [e]
   exact ofL1_le (sc26 ih) _ _ _ h
  refine tab_step h (fun e h=>?_) (fun h=>?_)
  ·subst e
   have e:acall cfg (callw cfg) (.fn (.func 34) a b) l H=callw cfg 34 (a++l++b) H:=by kernel_rfl
   rw [e]
   exact ofL1_le (sc34 ih) _ _ _ h
  refine tab_step h (fun e h=>?_) (fun h=>?_)
  ·subst e
   have e:acall cfg (callw cfg) (.fn (.func 35) a b) l H=callw cfg 35 (a++l++b) H:=by kernel_rfl
   rw [e]
   exact ofL1_le (sc35 ih) _ _ _ h
  refine tab_step h (fun e h=>?_) (fun h=>?_)
  ·subst e
   have e:acall cfg (callw cfg) (.fn (.func 46) a b) l H=callw cfg 46 (a++l++b) H:=by kernel_rfl
   rw [e]
   exact ofL2_le (sc46 ih) _ _ _ h
  refine tab_step h (fun e h=>?_) (fun h=>?_)
  ·subst e
   have e:acall cfg (callw cfg) (.fn (.func 53) a b) l H=callw cfg 53 (a++l++b) H:=by kernel_rfl
   rw [e]
   exact ofL1_le (sc53 ih) _ _ _ h
  refine tab_step h (fun e h=>?_) (fun h=>?_)
  ·subst e
   have e:acall cfg (callw cfg) (.fn (.func 54) a b) l H=callw cfg 54 (a++l++b) H:=by kernel_rfl
   rw [e]
   exact ofL2_le (sc54 ih) _ _ _ h
  refine tab_step h (fun e h=>?_) (fun h=>?_)
  ·subst e
   have e:acall cfg (callw cfg) (.fn (.func 55) a b) l H=callw cfg 55 (a++l++b) H:=by kernel_rfl
   rw [e]
   exact ofL2_le (sc55 ih) _ _ _ h
  refine tab_step h (fun e h=>?_) (fun h=>?_)
  ·subst e
   have e:acall cfg (callw cfg) (.fn (.func 56) a b) l H=callw cfg 56 (a++l++b) H:=by kernel_rfl
   rw [e]
   exact ofL1_le (sc56 ih) _ _ _ h
  refine tab_step h (fun e h=>?_) (fun h=>?_)
  ·subst e
   have e:acall cfg (callw cfg) (.fn (.func 57) a b) l H=callw cfg 57 (a++l++b) H:=by kernel_rfl
   rw [e]
   exact ofL1_le (sc57 ih) _ _ _ h
  refine tab_step h (fun e h=>?_) (fun h=>?_)
  ·subst e
   have e:acall cfg (callw cfg) (.fn (.func 58) a b) l H=callw cfg 58 (a++l++b) H:=by kernel_rfl
   rw [e]
   exact ofL1_le (sc58 ih) _ _ _ h
  refine tab_step h (fun e h=>?_) (fun h=>?_)
  ·subst e
   have e:acall cfg (callw cfg) (.fn (.func 59) a b) l H=flatC (callw cfg 59) (a++l++b) H:=by kernel_rfl
   rw [e]
   exact flat_le (ofL1_le (sc59 ih)) _ _ _ h
  refine tab_step h (fun e h=>?_) (fun h=>?_)
  ·subst e
   have e:acall cfg (callw cfg) (.fn (.func 80) a b) l H=callw cfg 80 (a++l++b) H:=by kernel_rfl
   rw [e]
   exact ofL2_le (sc80 ih) _ _ _ h
  refine tab_step h (fun e h=>?_) (fun h=>?_)
  ·subst e
   have e:acall cfg (callw cfg) (.fn (.func 83) a b) l H=callw cfg 83 (a++l++b) H:=by kernel_rfl
   rw [e]
   exact ofL2_le (sc83 ih) _ _ _ h
  refine tab_step h (fun e h=>?_) (fun h=>?_)
  ·subst e
   have e:acall cfg (callw cfg) (.fn (.func 104) a b) l H=callw cfg 104 (a++l++b) H:=by kernel_rfl
   rw [e]
   exact ofL2_le (sc104 ih) _ _ _ h
  refine tab_step h (fun e h=>?_) (fun h=>?_)
  ·subst e
   have e:acall cfg (callw cfg) (.fn (.func 105) a b) l H=callw cfg 105 (a++l++b) H:=by kernel_rfl
   rw [e]
   exact ofL3_le (sc105) _ _ _ h
  refine tab_step h (fun e h=>?_) (fun h=>?_)
  ·subst e
   have e:acall cfg (callw cfg) (.fn (.func 106) a b) l H=callw cfg 106 (a++l++b) H:=by kernel_rfl
   rw [e]
   exact ofL1_le (sc106 ih) _ _ _ h
  refine tab_step h (fun e h=>?_) (fun h=>?_)
  ·subst e
   have e:acall cfg (callw cfg) (.fn (.func 107) a b) l H=callw cfg 107 (a++l++b) H:=by kernel_rfl
   rw [e]
   exact ofL1_le (sc107 ih) _ _ _ h
  refine tab_step h (fun e h=>?_) (fun h=>?_)
  ·subst e
   have e:acall cfg (callw cfg) (.fn (.func 108) a b) l H=flatC (callw cfg 108) (a++l++b) H:=by kernel_rfl
   rw [e]
   exact flat_le (ofL1_le (sc108 ih)) _ _ _ h
  refine tab_step h (fun e h=>?_) (fun h=>?_)
  ·subst e
   have e:acall cfg (callw cfg) (.fn (.func 166) a b) l H=callw cfg 166 (a++l++b) H:=by kernel_rfl
   rw [e]
   exact ofL3_le (sc166 ih) _ _ _ h
  refine tab_step h (fun e h=>?_) (fun h=>?_)
  ·subst e
   have e:acall cfg (callw cfg) (.fn (.func 171) a b) l H=callw cfg 171 (a++l++b) H:=by kernel_rfl
   rw [e]
   exact ofL3_le (sc171) _ _ _ h
  refine tab_step h (fun e h=>?_) (fun h=>?_)
  ·subst e
   have e:acall cfg (callw cfg) (.fn (.func 175) a b) l H=callw cfg 175 (a++l++b) H:=by kernel_rfl
   rw [e]
   exact ofL2_le (sc175) _ _ _ h
  cases h

end
end Go.Am
