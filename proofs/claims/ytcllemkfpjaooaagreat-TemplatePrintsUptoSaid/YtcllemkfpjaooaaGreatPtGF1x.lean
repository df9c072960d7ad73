/-
  Functions of the translation that are worked out at given arguments: written by program (wip/gen.py).
-/
import Derived.Test.YtcllemkfpjaooaaGreatPtGx
import Derived.Test.YtcllemkfpjaooaaGreatHmWx
namespace Go.Am
open Go.Proofs
set_option maxRecDepth 100000
set_option linter.unusedVariables false
noncomputable section

noncomputable abbrev CXf (f n:Nat):=CXL cfg (callw cfg) (LPL cfg (cfg.keep f) n) (cfg.keep f) n seqL blockL
noncomputable abbrev LPf (f n:Nat):=LPL cfg (cfg.keep f) n
def c7 (p0 p1:AV) (H:Hp):Res:=callw cfg 7 [p0,p1] H
def j7_1 (H0:Hp) (x7:AV) (H:Hp):Res:=CXf 7 90 (sub (bodyOf Tryz.f7) [1,1,1,1]) (retL cfg 90 7 Tryz.f7 H0) [(7,x7)] H
def k7_1 (H0:Hp):KL:=seqL (fun k al H=>CXf 7 90 (sub (bodyOf Tryz.f7) [1,1,1,1]) k (trimL (cfg.keep 7) (sub (bodyOf Tryz.f7) [1,1,1,1]) al) H) (retL cfg 90 7 Tryz.f7 H0)
theorem k7_1_tame (H0:Hp):Tame 90 (k7_1 H0):=tame_seq (C:=cfg) (kp:=cfg.keep 7) (sub (bodyOf Tryz.f7) [1,1,1,1]) (tame_ret 7 Tryz.f7 H0)
def j7_3 (H0:Hp) (x0 x1 x7 x8 x9:AV) (H:Hp):Res:=CXf 7 90 (sub (bodyOf Tryz.f7) [1,1,1,0,1,0,0,1,1]) (seqL (fun k al H=>LPf 7 90 (sub (bodyOf Tryz.f7) [1,1,1,0,1,0,0]) k (trimL (cfg.keep 7) (sub (bodyOf Tryz.f7) [1,1,1,0,1,0,0]) al) H) (blockL 0 (k7_1 H0))) [(0,x0),(1,x1),(7,x7),(8,x8),(9,x9)] H
def k7_2 (H0:Hp):KL:=seqL (fun k al H=>CXf 7 90 (sub (bodyOf Tryz.f7) [1,1,1,0,1,0,0,1,1]) k (trimL (cfg.keep 7) (sub (bodyOf Tryz.f7) [1,1,1,0,1,0,0,1,1]) al) H) (seqL (fun k al H=>LPf 7 90 (sub (bodyOf Tryz.f7) [1,1,1,0,1,0,0]) k (trimL (cfg.keep 7) (sub (bodyOf Tryz.f7) [1,1,1,0,1,0,0]) al) H) (blockL 0 (k7_1 H0)))
def j7_7 (H0:Hp) (x0 x1 x7 x8 x9:AV) (H:Hp):Res:=CXf 7 90 (sub (bodyOf Tryz.f7) [1,1,1,0,1,0,0,1,0,0,1,1,1,1,1]) (blockL 1 (k7_2 H0)) [(0,x0),(1,x1),(7,x7),(8,x8),(9,x9)] H
def k7_3 (H0:Hp):KL:=seqL (fun k al H=>CXf 7 90 (sub (bodyOf Tryz.f7) [1,1,1,0,1,0,0,1,0,0,1,1,1,1,1]) k (trimL (cfg.keep 7) (sub (bodyOf Tryz.f7) [1,1,1,0,1,0,0,1,0,0,1,1,1,1,1]) al) H) (blockL 1 (k7_2 H0))
def j7_8 (H0:Hp) (x0 x1 x7 x8 x9 x12:AV) (H:Hp):Res:=CXf 7 90 (sub (bodyOf Tryz.f7) [1,1,1,0,1,0,0,1,0,0,1,1,1,1,0,1,0,1,0,1,1]) (blockL 2 (k7_3 H0)) [(0,x0),(1,x1),(7,x7),(8,x8),(9,x9),(12,x12)] H
def j7_6 (H0:Hp) (x0 x1 x7 x8 x9:AV) (H:Hp):Res:=CXf 7 90 (sub (bodyOf Tryz.f7) [1,1,1,0,1,0,0,1,0,0,1,1,1,1]) (blockL 1 (k7_2 H0)) [(0,x0),(1,x1),(7,x7),(8,x8),(9,x9)] H
def j7_5 (H0:Hp) (x0 x1 x7 x8 x9:AV) (H:Hp):Res:=CXf 7 90 (sub (bodyOf Tryz.f7) [1,1,1,0,1,0,0,1,0,0,1,1,1]) (blockL 1 (k7_2 H0)) [(0,x0),(1,x1),(7,x7),(8,x8),(9,x9)] H
def j7_4 (H0:Hp) (x0 x1 x7 x8 x9 x10:AV) (H:Hp):Res:=CXf 7 90 (sub (bodyOf Tryz.f7) [1,1,1,0,1,0,0,1,0,0,1,1]) (blockL 1 (k7_2 H0)) [(0,x0),(1,x1),(7,x7),(8,x8),(9,x9),(10,x10)] H
def j7_2 (H0:Hp) (x0 x1 x7 x8 x9:AV) (H:Hp):Res:=CXf 7 90 (sub (bodyOf Tryz.f7) [1,1,1,0,1,0,0,1]) (seqL (fun k al H=>LPf 7 90 (sub (bodyOf Tryz.f7) [1,1,1,0,1,0,0]) k (trimL (cfg.keep 7) (sub (bodyOf Tryz.f7) [1,1,1,0,1,0,0]) al) H) (blockL 0 (k7_1 H0))) [(0,x0),(1,x1),(7,x7),(8,x8),(9,x9)] H
def j7_l1 (H0:Hp) (x0 x1 x7 x8 x9:AV) (H:Hp):Res:=LPf 7 90 (sub (bodyOf Tryz.f7) [1,1,1,0,1,0,0]) (blockL 0 (k7_1 H0)) [(0,x0),(1,x1),(7,x7),(8,x8),(9,x9)] H
def b7_1 (x7:AV) (H:Hp):Res:=
 bnd (aload false 1 x7 H) fun t89=>
 some ((.tuple [t89,(.int .i64 0),(.int .i64 0)]),H)
theorem e7_1 (H0:Hp) (x7:AV) (H:Hp):j7_1 H0 x7 H=b7_1 x7 H:=(CXM_eq [5,6,9,11,13,19,24,25] _ _ _ _).trans (by kernel_rfl)
theorem m7_1:L1 (b7_1) (b7_1):=fun _ _=>
 bR fun _=>le_refl _
def b7_3 (j7_l1:A5) (x0 x1 x7 x8 x9:AV) (H:Hp):Res:=
 bnd (ibin .add x9 (.int .i64 1)) fun t19=>
 j7_l1 x0 x1 x7 x8 t19 H
theorem e7_3 (H0:Hp) (x0 x1 x7 x8 x9:AV) (H:Hp):j7_3 H0 x0 x1 x7 x8 x9 H=b7_3 (j7_l1 H0) x0 x1 x7 x8 x9 H:=(CXM_eq [5,6,9,11,13,19,24,25] _ _ _ _).trans (by kernel_rfl)
theorem m7_3 {j7_l1 dj7_l1:A5} (hj7_l1:L5 j7_l1 dj7_l1):L5 (b7_3 j7_l1) (b7_3 dj7_l1):=fun _ _ _ _ _ _=>
 bR fun _=>hj7_l1 _ _ _ _ _ _
def b7_7 (j7_3:A5) (x0 x1 x7 x8 x9:AV) (H:Hp):Res:=
 bnd (ibin .add x9 (.int .i64 1)) fun t88=>
 j7_3 x0 x1 x7 x8 t88 H
theorem e7_7 (H0:Hp) (x0 x1 x7 x8 x9:AV) (H:Hp):j7_7 H0 x0 x1 x7 x8 x9 H=b7_7 (j7_3 H0) x0 x1 x7 x8 x9 H:=(CXM_eq [5,6,9,11,13,19,24,25] _ _ _ _).trans (by kernel_rfl)
theorem m7_7 {j7_3 dj7_3:A5} (hj7_3:L5 j7_3 dj7_3):L5 (b7_7 j7_3) (b7_7 dj7_3):=fun _ _ _ _ _ _=>
 bR fun _=>hj7_3 _ _ _ _ _ _
def b7_8 (j7_7:A5) (x0 x1 x7 x8 x9 x12:AV) (H:Hp):Res:=
 bnd (aload false 1 x7 H) fun t63=>
 bnd ((afill [(0,1,(.int .i64 2)),(1,1,x12)] [(.int .i64 0),(.int .i64 0),(.str [])]).map .agg) fun t65=>
 bnd ((setElems 3 [(0,t65)] [(.agg [(.int .i64 0),(.int .i64 0),(.str [])])]).map (.vs 3 .clip)) fun t66=>
 bnd (aappEL true 3 32 t63 t66 H) fun r67=>
 bnd (astoreU 1 x7 r67.1 r67.2) fun r_19=>
 j7_7 x0 x1 x7 x8 x9 r_19.2
theorem e7_8 (H0:Hp) (x0 x1 x7 x8 x9 x12:AV) (H:Hp):j7_8 H0 x0 x1 x7 x8 x9 x12 H=b7_8 (j7_7 H0) x0 x1 x7 x8 x9 x12 H:=(CXM_eq [5,6,9,11,13,19,24,25] _ _ _ _).trans (by kernel_rfl)
theorem m7_8 {j7_7 dj7_7:A5} (hj7_7:L5 j7_7 dj7_7):L6 (b7_8 j7_7) (b7_8 dj7_7):=fun _ _ _ _ _ _ _=>
 bR fun _=>bR fun _=>bR fun _=>bR fun _=>bR fun _=>hj7_7 _ _ _ _ _ _
def b7_6 (j7_7:A5) (j7_8:A6) (cV:AV→List AV→Hp→Res) (x0 x1 x7 x8 x9:AV) (H:Hp):Res:=
 bnd (ibin .add x9 (.int .i64 1)) fun t42=>
 bnd (aindexStr x0 t42) fun t43=>
 bnd (ibin .geq t43 (.int .u8 48)) fun t47=>
 bnd (gdv t47 true (.tuple []) (some t43)) fun t49=>
 bnd (gdv t47 true (.tuple []) (ibin .leq t49 (.int .u8 57))) fun t50=>
 bnd (apick t47 t50 (.bool false)) fun t51=>
 cnd t51
  (bnd (ibin .sub t43 (.int .u8 48)) fun t53=>
  bnd (cvInt .i64 t53) fun t54=>
  bnd (ibin .gtr t54 (.int .i64 0)) fun t56=>
  bnd (gdv t56 true (.tuple []) (some t54)) fun t58=>
  bnd (gdv t56 true (.tuple []) (some x1)) fun t59=>
  bnd (gdv t56 true (.tuple []) (ibin .gtr t58 t59)) fun t60=>
  bnd (apick t56 t60 (.bool false)) fun t61=>
  cnd t61
   (some ((.tuple [.nils,(.int .i64 2),x9]),H))
   (j7_8 x0 x1 x7 x8 x9 t54 H))
  (bnd (ibin .eql t43 (.int .u8 110)) fun t70=>
  bnd (gdv t70 false (.tuple []) (some t43)) fun t72=>
  bnd (gdv t70 false (.tuple []) (ibin .eql t72 (.int .u8 10))) fun t73=>
  bnd (apick t70 (.bool true) t73) fun t74=>
  cnd t74
   (bnd (cV x8 [(.int .u8 10)] H) fun r76=>
   j7_7 x0 x1 x7 x8 x9 r76.2)
   (bnd (ibin .eql t43 (.int .u8 38)) fun t79=>
   bnd (gdv t79 false (.tuple []) (some t43)) fun t81=>
   bnd (gdv t79 false (.tuple []) (ibin .eql t81 (.int .u8 92))) fun t82=>
   bnd (apick t79 (.bool true) t82) fun t83=>
   cnd t83
    (bnd (cV x8 [t43] H) fun r86=>
    j7_7 x0 x1 x7 x8 x9 r86.2)
    (some ((.tuple [.nils,(.int .i64 1),x9]),H))))
theorem e7_6 (H0:Hp) (x0 x1 x7 x8 x9:AV) (H:Hp):j7_6 H0 x0 x1 x7 x8 x9 H=b7_6 (j7_7 H0) (j7_8 H0) (acall cfg (callw cfg)) x0 x1 x7 x8 x9 H:=(CXM_eq [5,6,9,11,13,19,24,25] _ _ _ _).trans (by kernel_rfl)
theorem m7_6 {j7_7 dj7_7:A5} (hj7_7:L5 j7_7 dj7_7) {j7_8 dj7_8:A6} (hj7_8:L6 j7_8 dj7_8) {cV dcV:AV→List AV→Hp→Res} (hcV:LV cV dcV):L5 (b7_6 j7_7 j7_8 cV) (b7_6 dj7_7 dj7_8 dcV):=fun _ _ _ _ _ _=>
 bR fun _=>bR fun _=>bR fun _=>bR fun _=>bR fun _=>bR fun _=>bK (bR fun _=>bR fun _=>bR fun _=>bR fun _=>bR fun _=>bR fun _=>bR fun _=>bK (le_refl _) (hj7_8 _ _ _ _ _ _ _)) (bR fun _=>bR fun _=>bR fun _=>bR fun _=>bK (bC (hcV _ _ _) fun _=>hj7_7 _ _ _ _ _ _) (bR fun _=>bR fun _=>bR fun _=>bR fun _=>bK (bC (hcV _ _ _) fun _=>hj7_7 _ _ _ _ _ _) (le_refl _)))
def b7_5 (j7_6:A5) (x0 x1 x7 x8 x9:AV) (H:Hp):Res:=
 bnd (ibin .add x9 (.int .i64 1)) fun t35=>
 bnd (alenD .string x0) fun t37=>
 bnd (ibin .geq t35 t37) fun t38=>
 cnd t38
  (some ((.tuple [.nils,(.int .i64 1),x9]),H))
  (j7_6 x0 x1 x7 x8 x9 H)
theorem e7_5 (H0:Hp) (x0 x1 x7 x8 x9:AV) (H:Hp):j7_5 H0 x0 x1 x7 x8 x9 H=b7_5 (j7_6 H0) x0 x1 x7 x8 x9 H:=(CXM_eq [5,6,9,11,13,19,24,25] _ _ _ _).trans (by kernel_rfl)
theorem m7_5 {j7_6 dj7_6:A5} (hj7_6:L5 j7_6 dj7_6):L5 (b7_5 j7_6) (b7_5 dj7_6):=fun _ _ _ _ _ _=>
 bR fun _=>bR fun _=>bR fun _=>bK (le_refl _) (hj7_6 _ _ _ _ _ _)
def b7_4 (j7_3:A5) (j7_5:A5) (cV:AV→List AV→Hp→Res) (x0 x1 x7 x8 x9 x10:AV) (H:Hp):Res:=
 bnd (ibin .neq x10 (.int .u8 92)) fun t30=>
 cnd t30
  (bnd (cV x8 [x10] H) fun r33=>
  j7_3 x0 x1 x7 x8 x9 r33.2)
  (j7_5 x0 x1 x7 x8 x9 H)
theorem e7_4 (H0:Hp) (x0 x1 x7 x8 x9 x10:AV) (H:Hp):j7_4 H0 x0 x1 x7 x8 x9 x10 H=b7_4 (j7_3 H0) (j7_5 H0) (acall cfg (callw cfg)) x0 x1 x7 x8 x9 x10 H:=(CXM_eq [5,6,9,11,13,19,24,25] _ _ _ _).trans (by kernel_rfl)
theorem m7_4 {j7_3 dj7_3:A5} (hj7_3:L5 j7_3 dj7_3) {j7_5 dj7_5:A5} (hj7_5:L5 j7_5 dj7_5) {cV dcV:AV→List AV→Hp→Res} (hcV:LV cV dcV):L6 (b7_4 j7_3 j7_5 cV) (b7_4 dj7_3 dj7_5 dcV):=fun _ _ _ _ _ _ _=>
 bR fun _=>bK (bC (hcV _ _ _) fun _=>hj7_3 _ _ _ _ _ _) (hj7_5 _ _ _ _ _ _)
def b7_2 (j7_3:A5) (j7_4:A6) (x0 x1 x7 x8 x9:AV) (H:Hp):Res:=
 bnd (aindexStr x0 x9) fun t22=>
 bnd (ibin .eql t22 (.int .u8 38)) fun t24=>
 cnd t24
  (bnd (aload false 1 x7 H) fun t25=>
  bnd ((afill [(0,1,(.int .i64 2))] [(.int .i64 0),(.int .i64 0),(.str [])]).map .agg) fun t26=>
  bnd ((setElems 3 [(0,t26)] [(.agg [(.int .i64 0),(.int .i64 0),(.str [])])]).map (.vs 3 .clip)) fun t27=>
  bnd (aappEL true 3 32 t25 t27 H) fun r28=>
  bnd (astoreU 1 x7 r28.1 r28.2) fun r_45=>
  j7_3 x0 x1 x7 x8 x9 r_45.2)
  (j7_4 x0 x1 x7 x8 x9 t22 H)
theorem e7_2 (H0:Hp) (x0 x1 x7 x8 x9:AV) (H:Hp):j7_2 H0 x0 x1 x7 x8 x9 H=b7_2 (j7_3 H0) (j7_4 H0) x0 x1 x7 x8 x9 H:=(CXM_eq [5,6,9,11,13,19,24,25] _ _ _ _).trans (by kernel_rfl)
theorem m7_2 {j7_3 dj7_3:A5} (hj7_3:L5 j7_3 dj7_3) {j7_4 dj7_4:A6} (hj7_4:L6 j7_4 dj7_4):L5 (b7_2 j7_3 j7_4) (b7_2 dj7_3 dj7_4):=fun _ _ _ _ _ _=>
 bR fun _=>bR fun _=>bK (bR fun _=>bR fun _=>bR fun _=>bR fun _=>bR fun _=>hj7_3 _ _ _ _ _ _) (hj7_4 _ _ _ _ _ _ _)
def b7_l1 (j7_1:A1) (j7_2:A5) (x0 x1 x7 x8 x9:AV) (H:Hp):Res:=
 bnd (alenD .string x0) fun t16=>
 bnd (ibin .lss x9 t16) fun t17=>
 cnd t17
  (j7_2 x0 x1 x7 x8 x9 H)
  (j7_1 x7 H)
theorem e7_l1 (H0:Hp) (x0 x1 x7 x8 x9:AV) (H:Hp):j7_l1 H0 x0 x1 x7 x8 x9 H=b7_l1 (j7_1 H0) (j7_2 H0) x0 x1 x7 x8 x9 H:=(LPL_eqm (C:=cfg) [5,6,9,11,13,19,24,25] (tame_block 0 (k7_1_tame H0)) _ _).trans (by kernel_rfl)
theorem m7_l1 {j7_1 dj7_1:A1} (hj7_1:L1 j7_1 dj7_1) {j7_2 dj7_2:A5} (hj7_2:L5 j7_2 dj7_2):L5 (b7_l1 j7_1 j7_2) (b7_l1 dj7_1 dj7_2):=fun _ _ _ _ _ _=>
 bR fun _=>bR fun _=>bK (hj7_2 _ _ _ _ _ _) (hj7_1 _ _)
def rj7_1 (gV:AV→List AV→Hp→Res):A1:=b7_1
theorem sj7_1 (H0:Hp) {gV:AV→List AV→Hp→Res} (hV:LV gV (acall cfg (callw cfg))):L1 (rj7_1 gV) (j7_1 H0):=fun _ _=>le_eq (m7_1 _ _) (e7_1 H0 _ _)
def rj7_3 (gV:AV→List AV→Hp→Res) (j7_l1:A5):A5:=b7_3 j7_l1
theorem sj7_3 (H0:Hp) {gV:AV→List AV→Hp→Res} (hV:LV gV (acall cfg (callw cfg))) {yj7_l1:A5} (hj7_l1:L5 yj7_l1 (j7_l1 H0)):L5 (rj7_3 gV yj7_l1) (j7_3 H0):=fun _ _ _ _ _ _=>le_eq (m7_3 hj7_l1 _ _ _ _ _ _) (e7_3 H0 _ _ _ _ _ _)
def rj7_7 (gV:AV→List AV→Hp→Res) (j7_l1:A5):A5:=b7_7 (rj7_3 gV j7_l1)
theorem sj7_7 (H0:Hp) {gV:AV→List AV→Hp→Res} (hV:LV gV (acall cfg (callw cfg))) {yj7_l1:A5} (hj7_l1:L5 yj7_l1 (j7_l1 H0)):L5 (rj7_7 gV yj7_l1) (j7_7 H0):=fun _ _ _ _ _ _=>le_eq (m7_7 (sj7_3 H0 hV hj7_l1) _ _ _ _ _ _) (e7_7 H0 _ _ _ _ _ _)
def rj7_8 (gV:AV→List AV→Hp→Res) (j7_l1:A5):A6:=b7_8 (rj7_7 gV j7_l1)
theorem sj7_8 (H0:Hp) {gV:AV→List AV→Hp→Res} (hV:LV gV (acall cfg (callw cfg))) {yj7_l1:A5} (hj7_l1:L5 yj7_l1 (j7_l1 H0)):L6 (rj7_8 gV yj7_l1) (j7_8 H0):=fun _ _ _ _ _ _ _=>le_eq (m7_8 (sj7_7 H0 hV hj7_l1) _ _ _ _ _ _ _) (e7_8 H0 _ _ _ _ _ _ _)
def rj7_6 (gV:AV→List AV→Hp→Res) (j7_l1:A5):A5:=b7_6 (rj7_7 gV j7_l1) (rj7_8 gV j7_l1) gV
theorem sj7_6 (H0:Hp) {gV:AV→List AV→Hp→Res} (hV:LV gV (acall cfg (callw cfg))) {yj7_l1:A5} (hj7_l1:L5 yj7_l1 (j7_l1 H0)):L5 (rj7_6 gV yj7_l1) (j7_6 H0):=fun _ _ _ _ _ _=>le_eq (m7_6 (sj7_7 H0 hV hj7_l1) (sj7_8 H0 hV hj7_l1) hV _ _ _ _ _ _) (e7_6 H0 _ _ _ _ _ _)
def rj7_5 (gV:AV→List AV→Hp→Res) (j7_l1:A5):A5:=b7_5 (rj7_6 gV j7_l1)
theorem sj7_5 (H0:Hp) {gV:AV→List AV→Hp→Res} (hV:LV gV (acall cfg (callw cfg))) {yj7_l1:A5} (hj7_l1:L5 yj7_l1 (j7_l1 H0)):L5 (rj7_5 gV yj7_l1) (j7_5 H0):=fun _ _ _ _ _ _=>le_eq (m7_5 (sj7_6 H0 hV hj7_l1) _ _ _ _ _ _) (e7_5 H0 _ _ _ _ _ _)
def rj7_4 (gV:AV→List AV→Hp→Res) (j7_l1:A5):A6:=b7_4 (rj7_3 gV j7_l1) (rj7_5 gV j7_l1) gV
theorem sj7_4 (H0:Hp) {gV:AV→List AV→Hp→Res} (hV:LV gV (acall cfg (callw cfg))) {yj7_l1:A5} (hj7_l1:L5 yj7_l1 (j7_l1 H0)):L6 (rj7_4 gV yj7_l1) (j7_4 H0):=fun _ _ _ _ _ _ _=>le_eq (m7_4 (sj7_3 H0 hV hj7_l1) (sj7_5 H0 hV hj7_l1) hV _ _ _ _ _ _ _) (e7_4 H0 _ _ _ _ _ _ _)
def rj7_2 (gV:AV→List AV→Hp→Res) (j7_l1:A5):A5:=b7_2 (rj7_3 gV j7_l1) (rj7_4 gV j7_l1)
theorem sj7_2 (H0:Hp) {gV:AV→List AV→Hp→Res} (hV:LV gV (acall cfg (callw cfg))) {yj7_l1:A5} (hj7_l1:L5 yj7_l1 (j7_l1 H0)):L5 (rj7_2 gV yj7_l1) (j7_2 H0):=fun _ _ _ _ _ _=>le_eq (m7_2 (sj7_3 H0 hV hj7_l1) (sj7_4 H0 hV hj7_l1) _ _ _ _ _ _) (e7_2 H0 _ _ _ _ _ _)
def rj7_l1 (gV:AV→List AV→Hp→Res) (n:Nat):A5:=@Nat.rec (fun _=>A5) (fun _ _ _ _ _ _=>none) (fun _ j7_l1=>b7_l1 (rj7_1 gV) (rj7_2 gV j7_l1)) n
theorem sj7_l1 (H0:Hp) {gV:AV→List AV→Hp→Res} (hV:LV gV (acall cfg (callw cfg))) (n:Nat):L5 (rj7_l1 gV n) (j7_l1 H0):=by
 induction n with
 | zero=>exact fun _ _ _ _ _ _=>le_none _
 | succ n hj7_l1=>exact fun _ _ _ _ _ _=>le_eq (m7_l1 (sj7_1 H0 hV) (sj7_2 H0 hV hj7_l1) _ _ _ _ _ _) (e7_l1 H0 _ _ _ _ _ _)
def bc7 (j7_l1:A5) (p0 p1:AV) (H:Hp):Res:=
 bnd (some ((.ptr H.length 0),H++[.cells [.nils]])) fun r7=>
 bnd (some (.fn (.func 19) [] [r7.1])) fun t13=>
 j7_l1 p0 p1 r7.1 t13 (.int .i64 0) r7.2
theorem ec7 (p0 p1:AV) (H:Hp):c7 p0 p1 H=bc7 (j7_l1 H) p0 p1 H:=(callw_cxm (C:=cfg) (fn:=Tryz.f7) (c:=bodyOf Tryz.f7) (n:=90) [5,6,9,11,13,19,24,25] Tryz.func7 (by kernel_rfl) (by kernel_rfl) [p0,p1] (by kernel_rfl) H).trans (by kernel_rfl)
theorem mc7 {j7_l1 dj7_l1:A5} (hj7_l1:L5 j7_l1 dj7_l1):L2 (bc7 j7_l1) (bc7 dj7_l1):=fun _ _ _=>
 bR fun _=>bR fun _=>hj7_l1 _ _ _ _ _ _
def rc7 (gV:AV→List AV→Hp→Res):A2:=fun p0 p1 H=>bc7 (rj7_l1 gV 100000) p0 p1 H
theorem sc7 {gV:AV→List AV→Hp→Res} (hV:LV gV (acall cfg (callw cfg))):L2 (rc7 gV) c7:=fun _ _ H=>le_eq (mc7 (sj7_l1 H hV 100000) _ _ _) (ec7 _ _ _)

def c11 (p0:AV) (H:Hp):Res:=callw cfg 11 [p0] H
def j11_1 (H0:Hp) (x3:AV) (H:Hp):Res:=CXf 11 77 (sub (bodyOf Tryz.f11) [1,1,1]) (retL cfg 77 11 Tryz.f11 H0) [(3,x3)] H
def k11_1 (H0:Hp):KL:=seqL (fun k al H=>CXf 11 77 (sub (bodyOf Tryz.f11) [1,1,1]) k (trimL (cfg.keep 11) (sub (bodyOf Tryz.f11) [1,1,1]) al) H) (retL cfg 77 11 Tryz.f11 H0)
theorem k11_1_tame (H0:Hp):Tame 77 (k11_1 H0):=tame_seq (C:=cfg) (kp:=cfg.keep 11) (sub (bodyOf Tryz.f11) [1,1,1]) (tame_ret 11 Tryz.f11 H0)
def j11_3 (H0:Hp) (x3 x8 x9 x10:AV) (H:Hp):Res:=CXf 11 77 (sub (bodyOf Tryz.f11) [1,1,0,1,0,0,1,1,1]) (seqL (fun k al H=>LPf 11 77 (sub (bodyOf Tryz.f11) [1,1,0,1,0,0]) k (trimL (cfg.keep 11) (sub (bodyOf Tryz.f11) [1,1,0,1,0,0]) al) H) (blockL 0 (k11_1 H0))) [(3,x3),(8,x8),(9,x9),(10,x10)] H
def k11_2 (H0:Hp):KL:=seqL (fun k al H=>CXf 11 77 (sub (bodyOf Tryz.f11) [1,1,0,1,0,0,1,1,1]) k (trimL (cfg.keep 11) (sub (bodyOf Tryz.f11) [1,1,0,1,0,0,1,1,1]) al) H) (seqL (fun k al H=>LPf 11 77 (sub (bodyOf Tryz.f11) [1,1,0,1,0,0]) k (trimL (cfg.keep 11) (sub (bodyOf Tryz.f11) [1,1,0,1,0,0]) al) H) (blockL 0 (k11_1 H0)))
theorem k11_2_tame (H0:Hp):Tame 77 (k11_2 H0):=tame_seq (C:=cfg) (kp:=cfg.keep 11) (sub (bodyOf Tryz.f11) [1,1,0,1,0,0,1,1,1]) (tame_loop (C:=cfg) (kp:=cfg.keep 11) (sub (bodyOf Tryz.f11) [1,1,0,1,0,0]) (tame_block 0 (k11_1_tame H0)))
def j11_5 (H0:Hp) (x3 x5 x8 x9 x10 x52 x53:AV) (H:Hp):Res:=CXf 11 77 (sub (bodyOf Tryz.f11) [1,1,0,1,0,0,1,1,0,0,1,0,1,1,1,1,1,0,1,0,0,1,1,1]) (seqL (fun k al H=>LPf 11 77 (sub (bodyOf Tryz.f11) [1,1,0,1,0,0,1,1,0,0,1,0,1,1,1,1,1,0,1,0,0]) k (trimL (cfg.keep 11) (sub (bodyOf Tryz.f11) [1,1,0,1,0,0,1,1,0,0,1,0,1,1,1,1,1,0,1,0,0]) al) H) (blockL 3 (blockL 2 (blockL 1 (k11_2 H0))))) [(3,x3),(5,x5),(8,x8),(9,x9),(10,x10),(52,x52),(53,x53)] H
def j11_4 (H0:Hp) (x3 x5 x8 x9 x10 x52 x53 x54:AV) (H:Hp):Res:=CXf 11 77 (sub (bodyOf Tryz.f11) [1,1,0,1,0,0,1,1,0,0,1,0,1,1,1,1,1,0,1,0,0,1,1]) (seqL (fun k al H=>LPf 11 77 (sub (bodyOf Tryz.f11) [1,1,0,1,0,0,1,1,0,0,1,0,1,1,1,1,1,0,1,0,0]) k (trimL (cfg.keep 11) (sub (bodyOf Tryz.f11) [1,1,0,1,0,0,1,1,0,0,1,0,1,1,1,1,1,0,1,0,0]) al) H) (blockL 3 (blockL 2 (blockL 1 (k11_2 H0))))) [(3,x3),(5,x5),(8,x8),(9,x9),(10,x10),(52,x52),(53,x53),(54,x54)] H
def j11_l2 (H0:Hp) (x3 x5 x8 x9 x10 x52 x53:AV) (H:Hp):Res:=LPf 11 77 (sub (bodyOf Tryz.f11) [1,1,0,1,0,0,1,1,0,0,1,0,1,1,1,1,1,0,1,0,0]) (blockL 3 (blockL 2 (blockL 1 (k11_2 H0)))) [(3,x3),(5,x5),(8,x8),(9,x9),(10,x10),(52,x52),(53,x53)] H
def j11_2 (H0:Hp) (x3 x8 x9 x10 x11:AV) (H:Hp):Res:=CXf 11 77 (sub (bodyOf Tryz.f11) [1,1,0,1,0,0,1,1]) (seqL (fun k al H=>LPf 11 77 (sub (bodyOf Tryz.f11) [1,1,0,1,0,0]) k (trimL (cfg.keep 11) (sub (bodyOf Tryz.f11) [1,1,0,1,0,0]) al) H) (blockL 0 (k11_1 H0))) [(3,x3),(8,x8),(9,x9),(10,x10),(11,x11)] H
def j11_l1 (H0:Hp) (x3 x8 x9 x10:AV) (H:Hp):Res:=LPf 11 77 (sub (bodyOf Tryz.f11) [1,1,0,1,0,0]) (blockL 0 (k11_1 H0)) [(3,x3),(8,x8),(9,x9),(10,x10)] H
def b11_1 (x3:AV) (H:Hp):Res:=
 bnd (stringE.run [x3] H) fun r76=>
 some (r76.1,r76.2)
theorem e11_1 (H0:Hp) (x3:AV) (H:Hp):j11_1 H0 x3 H=b11_1 x3 H:=(CXM_eq [4,12,21,22,23] _ _ _ _).trans (by kernel_rfl)
theorem m11_1:L1 (b11_1) (b11_1):=fun _ _=>
 bR fun _=>le_refl _
def b11_3 (j11_l1:A4) (x3 x8 x9 x10:AV) (H:Hp):Res:=
 bnd (ibin .add x10 (.int .i64 1)) fun t75=>
 j11_l1 x3 x8 x9 t75 H
theorem e11_3 (H0:Hp) (x3 x8 x9 x10:AV) (H:Hp):j11_3 H0 x3 x8 x9 x10 H=b11_3 (j11_l1 H0) x3 x8 x9 x10 H:=(CXM_eq [4,12,21,22,23] _ _ _ _).trans (by kernel_rfl)
theorem m11_3 {j11_l1 dj11_l1:A4} (hj11_l1:L4 j11_l1 dj11_l1):L4 (b11_3 j11_l1) (b11_3 dj11_l1):=fun _ _ _ _ _=>
 bR fun _=>hj11_l1 _ _ _ _ _
def b11_5 (j11_l2:A7) (x3 x5 x8 x9 x10 x52 x53:AV) (H:Hp):Res:=
 bnd (ibin .add x53 (.int .i64 1)) fun t74=>
 j11_l2 x3 x5 x8 x9 x10 x52 t74 H
theorem e11_5 (H0:Hp) (x3 x5 x8 x9 x10 x52 x53:AV) (H:Hp):j11_5 H0 x3 x5 x8 x9 x10 x52 x53 H=b11_5 (j11_l2 H0) x3 x5 x8 x9 x10 x52 x53 H:=(CXM_eq [4,12,21,22,23] _ _ _ _).trans (by kernel_rfl)
theorem m11_5 {j11_l2 dj11_l2:A7} (hj11_l2:L7 j11_l2 dj11_l2):L7 (b11_5 j11_l2) (b11_5 dj11_l2):=fun _ _ _ _ _ _ _ _=>
 bR fun _=>hj11_l2 _ _ _ _ _ _ _ _
def b11_4 (j11_5:A7) (x3 x5 x8 x9 x10 x52 x53 x54:AV) (H:Hp):Res:=
 bnd (afield 2 x5) fun t56=>
 bnd (aload false 1 t56 H) fun t57=>
 bnd (aindexStr t57 x53) fun t59=>
 bnd (ibin .eql t59 (.int .u8 38)) fun t64=>
 cnd t64
  (cnd t64
   (bnd ((setElems 1 [(0,t59)] [(.int .u8 0)]).map (.vs 1 .clip)) fun t67=>
   bnd (cvRd t67 H) fun t68=>
   bnd (sbin .add (.str [92]) t68) fun t69=>
   bnd (textE.run [x3,t69] H) fun r70=>
   j11_5 x3 x5 x8 x9 x10 x52 x53 r70.2)
   (bnd (ibin .eql t59 (.int .u8 10)) fun t72=>
   cnd t72
    (bnd (textE.run [x3,(.str [92,110])] H) fun r73=>
    j11_5 x3 x5 x8 x9 x10 x52 x53 r73.2)
    (bnd (byteE.run [x3,t59] H) fun r62=>
    j11_5 x3 x5 x8 x9 x10 x52 x53 r62.2)))
  (bnd (ibin .eql t59 (.int .u8 92)) fun t65=>
  cnd t65
   (bnd ((setElems 1 [(0,t59)] [(.int .u8 0)]).map (.vs 1 .clip)) fun t67=>
   bnd (cvRd t67 H) fun t68=>
   bnd (sbin .add (.str [92]) t68) fun t69=>
   bnd (textE.run [x3,t69] H) fun r70=>
   j11_5 x3 x5 x8 x9 x10 x52 x53 r70.2)
   (bnd (ibin .eql t59 (.int .u8 10)) fun t72=>
   cnd t72
    (bnd (textE.run [x3,(.str [92,110])] H) fun r73=>
    j11_5 x3 x5 x8 x9 x10 x52 x53 r73.2)
    (bnd (byteE.run [x3,t59] H) fun r62=>
    j11_5 x3 x5 x8 x9 x10 x52 x53 r62.2)))
theorem e11_4 (H0:Hp) (x3 x5 x8 x9 x10 x52 x53 x54:AV) (H:Hp):j11_4 H0 x3 x5 x8 x9 x10 x52 x53 x54 H=b11_4 (j11_5 H0) x3 x5 x8 x9 x10 x52 x53 x54 H:=(CXM_eq [4,12,21,22,23] _ _ _ _).trans (by kernel_rfl)
theorem m11_4 {j11_5 dj11_5:A7} (hj11_5:L7 j11_5 dj11_5):L8 (b11_4 j11_5) (b11_4 dj11_5):=fun _ _ _ _ _ _ _ _ _=>
 bR fun _=>bR fun _=>bR fun _=>bR fun _=>bK (bK (bR fun _=>bR fun _=>bR fun _=>bR fun _=>hj11_5 _ _ _ _ _ _ _ _) (bR fun _=>bK (bR fun _=>hj11_5 _ _ _ _ _ _ _ _) (bR fun _=>hj11_5 _ _ _ _ _ _ _ _))) (bR fun _=>bK (bR fun _=>bR fun _=>bR fun _=>bR fun _=>hj11_5 _ _ _ _ _ _ _ _) (bR fun _=>bK (bR fun _=>hj11_5 _ _ _ _ _ _ _ _) (bR fun _=>hj11_5 _ _ _ _ _ _ _ _)))
def b11_l2 (j11_3:A4) (j11_4:A8) (x3 x5 x8 x9 x10 x52 x53:AV) (H:Hp):Res:=
 bnd (ibin .lss x53 x52) fun t54=>
 cnd t54
  (j11_4 x3 x5 x8 x9 x10 x52 x53 t54 H)
  (j11_3 x3 x8 x9 x10 H)
theorem e11_l2 (H0:Hp) (x3 x5 x8 x9 x10 x52 x53:AV) (H:Hp):j11_l2 H0 x3 x5 x8 x9 x10 x52 x53 H=b11_l2 (j11_3 H0) (j11_4 H0) x3 x5 x8 x9 x10 x52 x53 H:=(LPL_eqm (C:=cfg) [4,12,21,22,23] (tame_block 3 (tame_block 2 (tame_block 1 (k11_2_tame H0)))) _ _).trans (by kernel_rfl)
theorem m11_l2 {j11_3 dj11_3:A4} (hj11_3:L4 j11_3 dj11_3) {j11_4 dj11_4:A8} (hj11_4:L8 j11_4 dj11_4):L7 (b11_l2 j11_3 j11_4) (b11_l2 dj11_3 dj11_4):=fun _ _ _ _ _ _ _ _=>
 bR fun _=>bK (hj11_4 _ _ _ _ _ _ _ _ _) (hj11_3 _ _ _ _ _)
def b11_2 (j11_3:A4) (j11_l2:A7) (x3 x8 x9 x10 x11:AV) (H:Hp):Res:=
 bnd (aindexS 3 x8 x10) fun t12=>
 bnd (aload true 3 t12 H) fun t13=>
 bnd (some ((.ptr H.length 0),H++[.cells [(.int .i64 0),(.int .i64 0),(.str [])]])) fun r5=>
 bnd (astoreU 3 r5.1 t13 r5.2) fun r_9=>
 bnd (afield 0 r5.1) fun t15=>
 bnd (aload false 1 t15 r_9.2) fun t16=>
 bnd (ibin .eql t16 (.int .i64 2)) fun t17=>
 bnd (gdv t17 true (.tuple []) (afield 1 r5.1)) fun t19=>
 bnd (gdv t17 true (.tuple []) (aload false 1 t19 r_9.2)) fun t20=>
 bnd (gdv t17 true (.tuple []) (ibin .eql t20 (.int .i64 0))) fun t21=>
 bnd (apick t17 t21 (.bool false)) fun t22=>
 cnd t22
  (bnd (byteE.run [x3,(.int .u8 38)] r_9.2) fun r23=>
  j11_3 x3 x8 x9 x10 r23.2)
  (bnd (afield 0 r5.1) fun t25=>
  bnd (aload false 1 t25 r_9.2) fun t26=>
  bnd (ibin .eql t26 (.int .i64 2)) fun t27=>
  bnd (gdv t27 true (.tuple []) (afield 1 r5.1)) fun t29=>
  bnd (gdv t27 true (.tuple []) (aload false 1 t29 r_9.2)) fun t30=>
  bnd (gdv t27 true (.tuple []) (ibin .geq t30 (.int .i64 1))) fun t31=>
  bnd (apick t27 t31 (.bool false)) fun t32=>
  bnd (gdv t32 true (.tuple []) (afield 1 r5.1)) fun t34=>
  bnd (gdv t32 true (.tuple []) (aload false 1 t34 r_9.2)) fun t35=>
  bnd (gdv t32 true (.tuple []) (ibin .leq t35 (.int .i64 9))) fun t36=>
  bnd (apick t32 t36 (.bool false)) fun t37=>
  cnd t37
   (bnd (afield 1 r5.1) fun t38=>
   bnd (aload false 1 t38 r_9.2) fun t39=>
   bnd (ibin .add (.int .i64 48) t39) fun t40=>
   bnd (cvInt .u8 t40) fun t41=>
   bnd ((setElems 1 [(0,t41)] [(.int .u8 0)]).map (.vs 1 .clip)) fun t42=>
   bnd (cvRd t42 r_9.2) fun t43=>
   bnd (sbin .add (.str [92]) t43) fun t44=>
   bnd (textE.run [x3,t44] r_9.2) fun r45=>
   j11_3 x3 x8 x9 x10 r45.2)
   (bnd (afield 0 r5.1) fun t47=>
   bnd (aload false 1 t47 r_9.2) fun t48=>
   bnd (ibin .eql t48 (.int .i64 1)) fun t49=>
   cnd t49
    (bnd (afield 2 r5.1) fun t50=>
    bnd (aload false 1 t50 r_9.2) fun t51=>
    bnd (alenD .string t51) fun t52=>
    j11_l2 x3 r5.1 x8 x9 x10 t52 (.int .i64 0) r_9.2)
    (j11_3 x3 x8 x9 x10 r_9.2)))
theorem e11_2 (H0:Hp) (x3 x8 x9 x10 x11:AV) (H:Hp):j11_2 H0 x3 x8 x9 x10 x11 H=b11_2 (j11_3 H0) (j11_l2 H0) x3 x8 x9 x10 x11 H:=(CXM_eq [4,12,21,22,23] _ _ _ _).trans (by kernel_rfl)
theorem m11_2 {j11_3 dj11_3:A4} (hj11_3:L4 j11_3 dj11_3) {j11_l2 dj11_l2:A7} (hj11_l2:L7 j11_l2 dj11_l2):L5 (b11_2 j11_3 j11_l2) (b11_2 dj11_3 dj11_l2):=fun _ _ _ _ _ _=>
 bR fun _=>bR fun _=>bR fun _=>bR fun _=>bR fun _=>bR fun _=>bR fun _=>bR fun _=>bR fun _=>bR fun _=>bR fun _=>bK (bR fun _=>hj11_3 _ _ _ _ _) (bR fun _=>bR fun _=>bR fun _=>bR fun _=>bR fun _=>bR fun _=>bR fun _=>bR fun _=>bR fun _=>bR fun _=>bR fun _=>bK (bR fun _=>bR fun _=>bR fun _=>bR fun _=>bR fun _=>bR fun _=>bR fun _=>bR fun _=>hj11_3 _ _ _ _ _) (bR fun _=>bR fun _=>bR fun _=>bK (bR fun _=>bR fun _=>bR fun _=>hj11_l2 _ _ _ _ _ _ _ _) (hj11_3 _ _ _ _ _)))
def b11_l1 (j11_1:A1) (j11_2:A5) (x3 x8 x9 x10:AV) (H:Hp):Res:=
 bnd (ibin .lss x10 x9) fun t11=>
 cnd t11
  (j11_2 x3 x8 x9 x10 t11 H)
  (j11_1 x3 H)
theorem e11_l1 (H0:Hp) (x3 x8 x9 x10:AV) (H:Hp):j11_l1 H0 x3 x8 x9 x10 H=b11_l1 (j11_1 H0) (j11_2 H0) x3 x8 x9 x10 H:=(LPL_eqm (C:=cfg) [4,12,21,22,23] (tame_block 0 (k11_1_tame H0)) _ _).trans (by kernel_rfl)
theorem m11_l1 {j11_1 dj11_1:A1} (hj11_1:L1 j11_1 dj11_1) {j11_2 dj11_2:A5} (hj11_2:L5 j11_2 dj11_2):L4 (b11_l1 j11_1 j11_2) (b11_l1 dj11_1 dj11_2):=fun _ _ _ _ _=>
 bR fun _=>bK (hj11_2 _ _ _ _ _ _) (hj11_1 _ _)
def rj11_1:A1:=b11_1
theorem sj11_1 (H0:Hp):L1 (rj11_1) (j11_1 H0):=fun _ _=>le_eq (m11_1 _ _) (e11_1 H0 _ _)
def rj11_3 (j11_l1:A4):A4:=b11_3 j11_l1
theorem sj11_3 (H0:Hp) {yj11_l1:A4} (hj11_l1:L4 yj11_l1 (j11_l1 H0)):L4 (rj11_3 yj11_l1) (j11_3 H0):=fun _ _ _ _ _=>le_eq (m11_3 hj11_l1 _ _ _ _ _) (e11_3 H0 _ _ _ _ _)
def rj11_5 (j11_l2:A7):A7:=b11_5 j11_l2
theorem sj11_5 (H0:Hp) {yj11_l2:A7} (hj11_l2:L7 yj11_l2 (j11_l2 H0)):L7 (rj11_5 yj11_l2) (j11_5 H0):=fun _ _ _ _ _ _ _ _=>le_eq (m11_5 hj11_l2 _ _ _ _ _ _ _ _) (e11_5 H0 _ _ _ _ _ _ _ _)
def rj11_4 (j11_l2:A7):A8:=b11_4 (rj11_5 j11_l2)
theorem sj11_4 (H0:Hp) {yj11_l2:A7} (hj11_l2:L7 yj11_l2 (j11_l2 H0)):L8 (rj11_4 yj11_l2) (j11_4 H0):=fun _ _ _ _ _ _ _ _ _=>le_eq (m11_4 (sj11_5 H0 hj11_l2) _ _ _ _ _ _ _ _ _) (e11_4 H0 _ _ _ _ _ _ _ _ _)
def rj11_l2 (j11_l1:A4) (n:Nat):A7:=@Nat.rec (fun _=>A7) (fun _ _ _ _ _ _ _ _=>none) (fun _ j11_l2=>b11_l2 (rj11_3 j11_l1) (rj11_4 j11_l2)) n
theorem sj11_l2 (H0:Hp) {yj11_l1:A4} (hj11_l1:L4 yj11_l1 (j11_l1 H0)) (n:Nat):L7 (rj11_l2 yj11_l1 n) (j11_l2 H0):=by
 induction n with
 | zero=>exact fun _ _ _ _ _ _ _ _=>le_none _
 | succ n hj11_l2=>exact fun _ _ _ _ _ _ _ _=>le_eq (m11_l2 (sj11_3 H0 hj11_l1) (sj11_4 H0 hj11_l2) _ _ _ _ _ _ _ _) (e11_l2 H0 _ _ _ _ _ _ _ _)
def rj11_2 (j11_l1:A4):A5:=b11_2 (rj11_3 j11_l1) (rj11_l2 j11_l1 100000)
theorem sj11_2 (H0:Hp) {yj11_l1:A4} (hj11_l1:L4 yj11_l1 (j11_l1 H0)):L5 (rj11_2 yj11_l1) (j11_2 H0):=fun _ _ _ _ _ _=>le_eq (m11_2 (sj11_3 H0 hj11_l1) (sj11_l2 H0 hj11_l1 100000) _ _ _ _ _ _) (e11_2 H0 _ _ _ _ _ _)
def rj11_l1 (n:Nat):A4:=@Nat.rec (fun _=>A4) (fun _ _ _ _ _=>none) (fun _ j11_l1=>b11_l1 (rj11_1) (rj11_2 j11_l1)) n
theorem sj11_l1 (H0:Hp) (n:Nat):L4 (rj11_l1 n) (j11_l1 H0):=by
 induction n with
 | zero=>exact fun _ _ _ _ _=>le_none _
 | succ n hj11_l1=>exact fun _ _ _ _ _=>le_eq (m11_l1 (sj11_1 H0) (sj11_2 H0 hj11_l1) _ _ _ _ _) (e11_l1 H0 _ _ _ _ _)
def bc11 (j11_l1:A4) (p0:AV) (H:Hp):Res:=
 bnd (some ((.ptr H.length 0),H++[.bld 66 5 []])) fun r3=>
 bnd (alenD (.slice 56) p0) fun t9=>
 j11_l1 r3.1 p0 t9 (.int .i64 0) r3.2
theorem ec11 (p0:AV) (H:Hp):c11 p0 H=bc11 (j11_l1 H) p0 H:=(callw_cxm (C:=cfg) (fn:=Tryz.f11) (c:=bodyOf Tryz.f11) (n:=77) [4,12,21,22,23] Tryz.func11 (by kernel_rfl) (by kernel_rfl) [p0] (by kernel_rfl) H).trans (by kernel_rfl)
theorem mc11 {j11_l1 dj11_l1:A4} (hj11_l1:L4 j11_l1 dj11_l1):L1 (bc11 j11_l1) (bc11 dj11_l1):=fun _ _=>
 bR fun _=>bR fun _=>hj11_l1 _ _ _ _ _
def rc11:A1:=fun p0 H=>bc11 (rj11_l1 100000) p0 H
theorem sc11:L1 rc11 c11:=fun _ H=>le_eq (mc11 (sj11_l1 H 100000) _ _) (ec11 _ _)

def c13 (p0 p1 p2:AV) (H:Hp):Res:=callw cfg 13 [p0,p1,p2] H
def j13_1 (H0:Hp) (x7:AV) (H:Hp):Res:=CXf 13 76 (sub (bodyOf Tryz.f13) [1,1,1]) (retL cfg 76 13 Tryz.f13 H0) [(7,x7)] H
def k13_1 (H0:Hp):KL:=seqL (fun k al H=>CXf 13 76 (sub (bodyOf Tryz.f13) [1,1,1]) k (trimL (cfg.keep 13) (sub (bodyOf Tryz.f13) [1,1,1]) al) H) (retL cfg 76 13 Tryz.f13 H0)
theorem k13_1_tame (H0:Hp):Tame 76 (k13_1 H0):=tame_seq (C:=cfg) (kp:=cfg.keep 13) (sub (bodyOf Tryz.f13) [1,1,1]) (tame_ret 13 Tryz.f13 H0)
def j13_3 (H0:Hp) (x1 x5 x7 x11 x12 x13:AV) (H:Hp):Res:=CXf 13 76 (sub (bodyOf Tryz.f13) [1,1,0,1,0,0,1,1,1]) (seqL (fun k al H=>LPf 13 76 (sub (bodyOf Tryz.f13) [1,1,0,1,0,0]) k (trimL (cfg.keep 13) (sub (bodyOf Tryz.f13) [1,1,0,1,0,0]) al) H) (blockL 0 (k13_1 H0))) [(1,x1),(5,x5),(7,x7),(11,x11),(12,x12),(13,x13)] H
def k13_2 (H0:Hp):KL:=seqL (fun k al H=>CXf 13 76 (sub (bodyOf Tryz.f13) [1,1,0,1,0,0,1,1,1]) k (trimL (cfg.keep 13) (sub (bodyOf Tryz.f13) [1,1,0,1,0,0,1,1,1]) al) H) (seqL (fun k al H=>LPf 13 76 (sub (bodyOf Tryz.f13) [1,1,0,1,0,0]) k (trimL (cfg.keep 13) (sub (bodyOf Tryz.f13) [1,1,0,1,0,0]) al) H) (blockL 0 (k13_1 H0)))
def j13_5 (H0:Hp) (x1 x5 x7 x9 x11 x12 x13:AV) (H:Hp):Res:=CXf 13 76 (sub (bodyOf Tryz.f13) [1,1,0,1,0,0,1,1,0,0,1,1,1]) (blockL 1 (k13_2 H0)) [(1,x1),(5,x5),(7,x7),(9,x9),(11,x11),(12,x12),(13,x13)] H
def j13_4 (H0:Hp) (x1 x5 x7 x9 x11 x12 x13:AV) (H:Hp):Res:=CXf 13 76 (sub (bodyOf Tryz.f13) [1,1,0,1,0,0,1,1,0,0,1,1]) (blockL 1 (k13_2 H0)) [(1,x1),(5,x5),(7,x7),(9,x9),(11,x11),(12,x12),(13,x13)] H
def j13_2 (H0:Hp) (x1 x5 x7 x11 x12 x13 x14:AV) (H:Hp):Res:=CXf 13 76 (sub (bodyOf Tryz.f13) [1,1,0,1,0,0,1,1]) (seqL (fun k al H=>LPf 13 76 (sub (bodyOf Tryz.f13) [1,1,0,1,0,0]) k (trimL (cfg.keep 13) (sub (bodyOf Tryz.f13) [1,1,0,1,0,0]) al) H) (blockL 0 (k13_1 H0))) [(1,x1),(5,x5),(7,x7),(11,x11),(12,x12),(13,x13),(14,x14)] H
def j13_l1 (H0:Hp) (x1 x5 x7 x11 x12 x13:AV) (H:Hp):Res:=LPf 13 76 (sub (bodyOf Tryz.f13) [1,1,0,1,0,0]) (blockL 0 (k13_1 H0)) [(1,x1),(5,x5),(7,x7),(11,x11),(12,x12),(13,x13)] H
def b13_1 (x7:AV) (H:Hp):Res:=
 bnd (stringE.run [x7] H) fun r75=>
 some (r75.1,r75.2)
theorem e13_1 (H0:Hp) (x7:AV) (H:Hp):j13_1 H0 x7 H=b13_1 x7 H:=(CXM_eq [4,7,8,11,12] _ _ _ _).trans (by kernel_rfl)
theorem m13_1:L1 (b13_1) (b13_1):=fun _ _=>
 bR fun _=>le_refl _
def b13_3 (j13_l1:A6) (x1 x5 x7 x11 x12 x13:AV) (H:Hp):Res:=
 bnd (ibin .add x13 (.int .i64 1)) fun t74=>
 j13_l1 x1 x5 x7 x11 x12 t74 H
theorem e13_3 (H0:Hp) (x1 x5 x7 x11 x12 x13:AV) (H:Hp):j13_3 H0 x1 x5 x7 x11 x12 x13 H=b13_3 (j13_l1 H0) x1 x5 x7 x11 x12 x13 H:=(CXM_eq [4,7,8,11,12] _ _ _ _).trans (by kernel_rfl)
theorem m13_3 {j13_l1 dj13_l1:A6} (hj13_l1:L6 j13_l1 dj13_l1):L6 (b13_3 j13_l1) (b13_3 dj13_l1):=fun _ _ _ _ _ _ _=>
 bR fun _=>hj13_l1 _ _ _ _ _ _ _
def b13_5 (j13_3:A6) (x1 x5 x7 x9 x11 x12 x13:AV) (H:Hp):Res:=
 bnd (afield 0 x5) fun t44=>
 bnd (aload false 1 t44 H) fun t45=>
 bnd (afield 1 x9) fun t46=>
 bnd (aload false 1 t46 H) fun t47=>
 bnd (aindexS 2 t45 t47) fun t48=>
 bnd (aload true 2 t48 H) fun t49=>
 bnd (some ((.ptr H.length 0),H++[.cells [(.int .i64 0),(.int .i64 0)]])) fun r10=>
 bnd (astoreU 2 r10.1 t49 r10.2) fun r_18=>
 bnd (afield 0 r10.1) fun t50=>
 bnd (aload false 1 t50 r_18.2) fun t51=>
 bnd (ibin .geq t51 (.int .i64 0)) fun t52=>
 bnd (gdv t52 true (.tuple []) (afield 0 r10.1)) fun t54=>
 bnd (gdv t52 true (.tuple []) (aload false 1 t54 r_18.2)) fun t55=>
 bnd (gdv t52 true (.tuple []) (afield 1 r10.1)) fun t56=>
 bnd (gdv t52 true (.tuple []) (aload false 1 t56 r_18.2)) fun t57=>
 bnd (gdv t52 true (.tuple []) (ibin .leq t55 t57)) fun t58=>
 bnd (apick t52 t58 (.bool false)) fun t59=>
 bnd (gdv t59 true (.tuple []) (afield 1 r10.1)) fun t61=>
 bnd (gdv t59 true (.tuple []) (aload false 1 t61 r_18.2)) fun t62=>
 bnd (gdv t59 true (.tuple []) (some x1)) fun t63=>
 bnd (gdv t59 true (.tuple []) (alenD .string t63)) fun t64=>
 bnd (gdv t59 true (.tuple []) (ibin .leq t62 t64)) fun t65=>
 bnd (apick t59 t65 (.bool false)) fun t66=>
 cnd t66
  (bnd (afield 0 r10.1) fun t68=>
  bnd (aload false 1 t68 r_18.2) fun t69=>
  bnd (afield 1 r10.1) fun t70=>
  bnd (aload false 1 t70 r_18.2) fun t71=>
  bnd (asliceS x1 (some t69) (some t71) none) fun t72=>
  bnd (textE.run [x7,t72] r_18.2) fun r73=>
  j13_3 x1 x5 x7 x11 x12 x13 r73.2)
  (j13_3 x1 x5 x7 x11 x12 x13 r_18.2)
theorem e13_5 (H0:Hp) (x1 x5 x7 x9 x11 x12 x13:AV) (H:Hp):j13_5 H0 x1 x5 x7 x9 x11 x12 x13 H=b13_5 (j13_3 H0) x1 x5 x7 x9 x11 x12 x13 H:=(CXM_eq [4,7,8,11,12] _ _ _ _).trans (by kernel_rfl)
theorem m13_5 {j13_3 dj13_3:A6} (hj13_3:L6 j13_3 dj13_3):L7 (b13_5 j13_3) (b13_5 dj13_3):=fun _ _ _ _ _ _ _ _=>
 bR fun _=>bR fun _=>bR fun _=>bR fun _=>bR fun _=>bR fun _=>bR fun _=>bR fun _=>bR fun _=>bR fun _=>bR fun _=>bR fun _=>bR fun _=>bR fun _=>bR fun _=>bR fun _=>bR fun _=>bR fun _=>bR fun _=>bR fun _=>bR fun _=>bR fun _=>bR fun _=>bK (bR fun _=>bR fun _=>bR fun _=>bR fun _=>bR fun _=>bR fun _=>hj13_3 _ _ _ _ _ _ _) (hj13_3 _ _ _ _ _ _ _)
def b13_4 (j13_3:A6) (j13_5:A7) (x1 x5 x7 x9 x11 x12 x13:AV) (H:Hp):Res:=
 bnd (afield 0 x9) fun t23=>
 bnd (aload false 1 t23 H) fun t24=>
 bnd (ibin .neq t24 (.int .i64 2)) fun t25=>
 bnd (gdv t25 false (.tuple []) (afield 1 x9)) fun t27=>
 bnd (gdv t25 false (.tuple []) (aload false 1 t27 H)) fun t28=>
 bnd (gdv t25 false (.tuple []) (ibin .lss t28 (.int .i64 0))) fun t29=>
 bnd (apick t25 (.bool true) t29) fun t30=>
 bnd (gdv t30 false (.tuple []) (afield 1 x9)) fun t32=>
 bnd (gdv t30 false (.tuple []) (aload false 1 t32 H)) fun t33=>
 bnd (gdv t30 false (.tuple []) (ibin .gtr t33 (.int .i64 9))) fun t34=>
 bnd (apick t30 (.bool true) t34) fun t35=>
 bnd (gdv t35 false (.tuple []) (afield 1 x9)) fun t37=>
 bnd (gdv t35 false (.tuple []) (aload false 1 t37 H)) fun t38=>
 bnd (gdv t35 false (.tuple []) (afield 0 x5)) fun t39=>
 bnd (gdv t35 false (.tuple []) (aload false 1 t39 H)) fun t40=>
 bnd (gdv t35 false (.tuple []) (alenD (.slice 63) t40)) fun t41=>
 bnd (gdv t35 false (.tuple []) (ibin .geq t38 t41)) fun t42=>
 bnd (apick t35 (.bool true) t42) fun t43=>
 cnd t43
  (j13_3 x1 x5 x7 x11 x12 x13 H)
  (j13_5 x1 x5 x7 x9 x11 x12 x13 H)
theorem e13_4 (H0:Hp) (x1 x5 x7 x9 x11 x12 x13:AV) (H:Hp):j13_4 H0 x1 x5 x7 x9 x11 x12 x13 H=b13_4 (j13_3 H0) (j13_5 H0) x1 x5 x7 x9 x11 x12 x13 H:=(CXM_eq [4,7,8,11,12] _ _ _ _).trans (by kernel_rfl)
theorem m13_4 {j13_3 dj13_3:A6} (hj13_3:L6 j13_3 dj13_3) {j13_5 dj13_5:A7} (hj13_5:L7 j13_5 dj13_5):L7 (b13_4 j13_3 j13_5) (b13_4 dj13_3 dj13_5):=fun _ _ _ _ _ _ _ _=>
 bR fun _=>bR fun _=>bR fun _=>bR fun _=>bR fun _=>bR fun _=>bR fun _=>bR fun _=>bR fun _=>bR fun _=>bR fun _=>bR fun _=>bR fun _=>bR fun _=>bR fun _=>bR fun _=>bR fun _=>bR fun _=>bK (hj13_3 _ _ _ _ _ _ _) (hj13_5 _ _ _ _ _ _ _ _)
def b13_2 (j13_4:A7) (x1 x5 x7 x11 x12 x13 x14:AV) (H:Hp):Res:=
 bnd (aindexS 3 x11 x13) fun t15=>
 bnd (aload true 3 t15 H) fun t16=>
 bnd (some ((.ptr H.length 0),H++[.cells [(.int .i64 0),(.int .i64 0),(.str [])]])) fun r9=>
 bnd (astoreU 3 r9.1 t16 r9.2) fun r_10=>
 bnd (afield 0 r9.1) fun t17=>
 bnd (aload false 1 t17 r_10.2) fun t18=>
 bnd (ibin .eql t18 (.int .i64 1)) fun t19=>
 cnd t19
  (bnd (afield 2 r9.1) fun t20=>
  bnd (aload false 1 t20 r_10.2) fun t21=>
  bnd (textE.run [x7,t21] r_10.2) fun r22=>
  j13_4 x1 x5 x7 r9.1 x11 x12 x13 r22.2)
  (j13_4 x1 x5 x7 r9.1 x11 x12 x13 r_10.2)
theorem e13_2 (H0:Hp) (x1 x5 x7 x11 x12 x13 x14:AV) (H:Hp):j13_2 H0 x1 x5 x7 x11 x12 x13 x14 H=b13_2 (j13_4 H0) x1 x5 x7 x11 x12 x13 x14 H:=(CXM_eq [4,7,8,11,12] _ _ _ _).trans (by kernel_rfl)
theorem m13_2 {j13_4 dj13_4:A7} (hj13_4:L7 j13_4 dj13_4):L7 (b13_2 j13_4) (b13_2 dj13_4):=fun _ _ _ _ _ _ _ _=>
 bR fun _=>bR fun _=>bR fun _=>bR fun _=>bR fun _=>bR fun _=>bR fun _=>bK (bR fun _=>bR fun _=>bR fun _=>hj13_4 _ _ _ _ _ _ _ _) (hj13_4 _ _ _ _ _ _ _ _)
def b13_l1 (j13_1:A1) (j13_2:A7) (x1 x5 x7 x11 x12 x13:AV) (H:Hp):Res:=
 bnd (ibin .lss x13 x12) fun t14=>
 cnd t14
  (j13_2 x1 x5 x7 x11 x12 x13 t14 H)
  (j13_1 x7 H)
theorem e13_l1 (H0:Hp) (x1 x5 x7 x11 x12 x13:AV) (H:Hp):j13_l1 H0 x1 x5 x7 x11 x12 x13 H=b13_l1 (j13_1 H0) (j13_2 H0) x1 x5 x7 x11 x12 x13 H:=(LPL_eqm (C:=cfg) [4,7,8,11,12] (tame_block 0 (k13_1_tame H0)) _ _).trans (by kernel_rfl)
theorem m13_l1 {j13_1 dj13_1:A1} (hj13_1:L1 j13_1 dj13_1) {j13_2 dj13_2:A7} (hj13_2:L7 j13_2 dj13_2):L6 (b13_l1 j13_1 j13_2) (b13_l1 dj13_1 dj13_2):=fun _ _ _ _ _ _ _=>
 bR fun _=>bK (hj13_2 _ _ _ _ _ _ _ _) (hj13_1 _ _)
def rj13_1:A1:=b13_1
theorem sj13_1 (H0:Hp):L1 (rj13_1) (j13_1 H0):=fun _ _=>le_eq (m13_1 _ _) (e13_1 H0 _ _)
def rj13_3 (j13_l1:A6):A6:=b13_3 j13_l1
theorem sj13_3 (H0:Hp) {yj13_l1:A6} (hj13_l1:L6 yj13_l1 (j13_l1 H0)):L6 (rj13_3 yj13_l1) (j13_3 H0):=fun _ _ _ _ _ _ _=>le_eq (m13_3 hj13_l1 _ _ _ _ _ _ _) (e13_3 H0 _ _ _ _ _ _ _)
def rj13_5 (j13_l1:A6):A7:=b13_5 (rj13_3 j13_l1)
theorem sj13_5 (H0:Hp) {yj13_l1:A6} (hj13_l1:L6 yj13_l1 (j13_l1 H0)):L7 (rj13_5 yj13_l1) (j13_5 H0):=fun _ _ _ _ _ _ _ _=>le_eq (m13_5 (sj13_3 H0 hj13_l1) _ _ _ _ _ _ _ _) (e13_5 H0 _ _ _ _ _ _ _ _)
def rj13_4 (j13_l1:A6):A7:=b13_4 (rj13_3 j13_l1) (rj13_5 j13_l1)
theorem sj13_4 (H0:Hp) {yj13_l1:A6} (hj13_l1:L6 yj13_l1 (j13_l1 H0)):L7 (rj13_4 yj13_l1) (j13_4 H0):=fun _ _ _ _ _ _ _ _=>le_eq (m13_4 (sj13_3 H0 hj13_l1) (sj13_5 H0 hj13_l1) _ _ _ _ _ _ _ _) (e13_4 H0 _ _ _ _ _ _ _ _)
def rj13_2 (j13_l1:A6):A7:=b13_2 (rj13_4 j13_l1)
theorem sj13_2 (H0:Hp) {yj13_l1:A6} (hj13_l1:L6 yj13_l1 (j13_l1 H0)):L7 (rj13_2 yj13_l1) (j13_2 H0):=fun _ _ _ _ _ _ _ _=>le_eq (m13_2 (sj13_4 H0 hj13_l1) _ _ _ _ _ _ _ _) (e13_2 H0 _ _ _ _ _ _ _ _)
def rj13_l1 (n:Nat):A6:=@Nat.rec (fun _=>A6) (fun _ _ _ _ _ _ _=>none) (fun _ j13_l1=>b13_l1 (rj13_1) (rj13_2 j13_l1)) n
theorem sj13_l1 (H0:Hp) (n:Nat):L6 (rj13_l1 n) (j13_l1 H0):=by
 induction n with
 | zero=>exact fun _ _ _ _ _ _ _=>le_none _
 | succ n hj13_l1=>exact fun _ _ _ _ _ _ _=>le_eq (m13_l1 (sj13_1 H0) (sj13_2 H0 hj13_l1) _ _ _ _ _ _ _) (e13_l1 H0 _ _ _ _ _ _ _)
def bc13 (j13_l1:A6) (p0 p1 p2:AV) (H:Hp):Res:=
 bnd (abox p2 H) fun r5=>
 bnd (some ((.ptr r5.2.length 0),r5.2++[.bld 66 5 []])) fun r7=>
 bnd (alenD (.slice 56) p0) fun t12=>
 j13_l1 p1 r5.1 r7.1 p0 t12 (.int .i64 0) r7.2
theorem ec13 (p0 p1 p2:AV) (H:Hp):c13 p0 p1 p2 H=bc13 (j13_l1 H) p0 p1 p2 H:=(callw_cxm (C:=cfg) (fn:=Tryz.f13) (c:=bodyOf Tryz.f13) (n:=76) [4,7,8,11,12] Tryz.func13 (by kernel_rfl) (by kernel_rfl) [p0,p1,p2] (by kernel_rfl) H).trans (by kernel_rfl)
theorem mc13 {j13_l1 dj13_l1:A6} (hj13_l1:L6 j13_l1 dj13_l1):L3 (bc13 j13_l1) (bc13 dj13_l1):=fun _ _ _ _=>
 bR fun _=>bR fun _=>bR fun _=>hj13_l1 _ _ _ _ _ _ _
def rc13:A3:=fun p0 p1 p2 H=>bc13 (rj13_l1 100000) p0 p1 p2 H
theorem sc13:L3 rc13 c13:=fun _ _ _ H=>le_eq (mc13 (sj13_l1 H 100000) _ _ _ _) (ec13 _ _ _ _)

def c33 (p0 p1 p2:AV) (H:Hp):Res:=callw cfg 33 [p0,p1,p2] H
def j33_1 (H0:Hp) (x6:AV) (H:Hp):Res:=CXf 33 21 (sub (bodyOf Tryz.f33) [1,1]) (retL cfg 21 33 Tryz.f33 H0) [(6,x6)] H
def b33_1 (x6:AV) (H:Hp):Res:=
 bnd (some (.agg [(.int .i64 0),(.int .u64 0),(.int .u64 0),(.int .u64 0),(.int .u64 0),(.int .i64 0),(.int .i64 0),(.int .i64 0),.nils])) fun t20=>
 bnd (astoreU 9 x6 t20 H) fun r_3=>
 bnd (aload true 9 x6 r_3.2) fun v6=>
 some (v6,r_3.2)
theorem e33_1 (H0:Hp) (x6:AV) (H:Hp):j33_1 H0 x6 H=b33_1 x6 H:=(CXM_eq [4] _ _ _ _).trans (by kernel_rfl)
theorem m33_1:L1 (b33_1) (b33_1):=fun _ _=>
 bR fun _=>bR fun _=>bR fun _=>le_refl _
def rj33_1:A1:=b33_1
theorem sj33_1 (H0:Hp):L1 (rj33_1) (j33_1 H0):=fun _ _=>le_eq (m33_1 _ _) (e33_1 H0 _ _)
def bc33 (j33_1:A1) (p0 p1 p2:AV) (H:Hp):Res:=
 bnd (some ((.ptr H.length 0),H++[.cells [(.int .i64 0),(.int .u64 0),(.int .u64 0),(.int .u64 0),(.int .u64 0),(.int .i64 0),(.int .i64 0),(.int .i64 0),.nils]])) fun r6=>
 bnd (anil p0) fun t8=>
 bnd (afield 21 t8) fun t9=>
 bnd (aload false 1 t9 r6.2) fun t10=>
 bnd (ibin .eql t10 (.int .i64 0)) fun t11=>
 cnd t11
  (bnd (anil p0) fun t14=>
  bnd (afield 21 t14) fun t15=>
  bnd (astoreU 1 t15 p1 r6.2) fun r_11=>
  bnd (anil p0) fun t18=>
  bnd (afield 22 t18) fun t19=>
  bnd (astoreU 1 t19 p2 r_11.2) fun r_14=>
  j33_1 r6.1 r_14.2)
  (j33_1 r6.1 r6.2)
theorem ec33 (p0 p1 p2:AV) (H:Hp):c33 p0 p1 p2 H=bc33 (j33_1 H) p0 p1 p2 H:=(callw_cxm (C:=cfg) (fn:=Tryz.f33) (c:=bodyOf Tryz.f33) (n:=21) [4] Tryz.func33 (by kernel_rfl) (by kernel_rfl) [p0,p1,p2] (by kernel_rfl) H).trans (by kernel_rfl)
theorem mc33 {j33_1 dj33_1:A1} (hj33_1:L1 j33_1 dj33_1):L3 (bc33 j33_1) (bc33 dj33_1):=fun _ _ _ _=>
 bR fun _=>bR fun _=>bR fun _=>bR fun _=>bR fun _=>bK (bR fun _=>bR fun _=>bR fun _=>bR fun _=>bR fun _=>bR fun _=>hj33_1 _ _) (hj33_1 _ _)
def rc33:A3:=fun p0 p1 p2 H=>bc33 (rj33_1) p0 p1 p2 H
theorem sc33:L3 rc33 c33:=fun _ _ _ H=>le_eq (mc33 (sj33_1 H) _ _ _ _) (ec33 _ _ _ _)

def c41 (p0:AV) (H:Hp):Res:=callw cfg 41 [p0] H
def bc41 (p0:AV) (H:Hp):Res:=
 bnd (anil p0) fun t4=>
 bnd (afield 2 t4) fun t5=>
 bnd (aload false 1 t5 H) fun t6=>
 bnd (ibin .and t6 (.int .i64 1)) fun t7=>
 bnd (ibin .neq t7 (.int .i64 0)) fun t8=>
 some (t8,H)
theorem ec41 (p0:AV) (H:Hp):c41 p0 H=bc41 p0 H:=(callw_cxm (C:=cfg) (fn:=Tryz.f41) (c:=bodyOf Tryz.f41) (n:=9) [] Tryz.func41 (by kernel_rfl) (by kernel_rfl) [p0] (by kernel_rfl) H).trans (by kernel_rfl)
theorem mc41:L1 (bc41) (bc41):=fun _ _=>
 bR fun _=>bR fun _=>bR fun _=>bR fun _=>bR fun _=>le_refl _
def rc41:A1:=fun p0 H=>bc41 p0 H
theorem sc41:L1 rc41 c41:=fun _ H=>le_eq (mc41 _ _) (ec41 _ _)

def c42 (p0 p1 p2:AV) (H:Hp):Res:=callw cfg 42 [p0,p1,p2] H
def bc42 (p0 p1 p2:AV) (H:Hp):Res:=
 bnd (alenD .string p2) fun t9=>
 bnd (ibin .add p1 t9) fun t10=>
 bnd (anil p0) fun t12=>
 bnd (afield 0 t12) fun t13=>
 bnd (aload false 1 t13 H) fun t14=>
 bnd (alenD .string t14) fun t15=>
 bnd (ibin .leq t10 t15) fun t16=>
 bnd (gdv t16 true (.tuple []) (some p0)) fun t18=>
 bnd (gdv t16 true (.tuple []) (anil t18)) fun t19=>
 bnd (gdv t16 true (.tuple []) (afield 0 t19)) fun t20=>
 bnd (gdv t16 true (.tuple []) (aload false 1 t20 H)) fun t21=>
 bnd (gdv t16 true (.tuple []) (some p1)) fun t22=>
 bnd (gdv t16 true (.tuple []) (some p1)) fun t23=>
 bnd (gdv t16 true (.tuple []) (some p2)) fun t24=>
 bnd (gdv t16 true (.tuple []) (alenD .string t24)) fun t25=>
 bnd (gdv t16 true (.tuple []) (ibin .add t23 t25)) fun t26=>
 bnd (gdv t16 true (.tuple []) (asliceS t21 (some t22) (some t26) none)) fun t27=>
 bnd (gdv t16 true (.tuple []) (some p2)) fun t28=>
 bnd (gdv t16 true (.tuple []) (sbin .eql t27 t28)) fun t29=>
 bnd (apick t16 t29 (.bool false)) fun t30=>
 some (t30,H)
theorem ec42 (p0 p1 p2:AV) (H:Hp):c42 p0 p1 p2 H=bc42 p0 p1 p2 H:=(callw_cxm (C:=cfg) (fn:=Tryz.f42) (c:=bodyOf Tryz.f42) (n:=31) [] Tryz.func42 (by kernel_rfl) (by kernel_rfl) [p0,p1,p2] (by kernel_rfl) H).trans (by kernel_rfl)
theorem mc42:L3 (bc42) (bc42):=fun _ _ _ _=>
 bR fun _=>bR fun _=>bR fun _=>bR fun _=>bR fun _=>bR fun _=>bR fun _=>bR fun _=>bR fun _=>bR fun _=>bR fun _=>bR fun _=>bR fun _=>bR fun _=>bR fun _=>bR fun _=>bR fun _=>bR fun _=>bR fun _=>bR fun _=>le_refl _
def rc42:A3:=fun p0 p1 p2 H=>bc42 p0 p1 p2 H
theorem sc42:L3 rc42 c42:=fun _ _ _ H=>le_eq (mc42 _ _ _ _) (ec42 _ _ _ _)

def c43 (p0 p1:AV) (H:Hp):Res:=callw cfg 43 [p0,p1] H
def j43_1 (H0:Hp) (x0 x1 x4:AV) (H:Hp):Res:=CXf 43 14 (sub (bodyOf Tryz.f43) [1,1]) (retL cfg 14 43 Tryz.f43 H0) [(0,x0),(1,x1),(4,x4)] H
def b43_1 (x0 x1 x4:AV) (H:Hp):Res:=
 bnd ((afill [(0,1,x0),(8,1,x1)] [(.int .i64 0),(.int .u64 0),(.int .u64 0),(.int .u64 0),(.int .u64 0),(.int .i64 0),(.int .i64 0),(.int .i64 0),.nils]).map .agg) fun t13=>
 bnd (astoreU 9 x4 t13 H) fun r_3=>
 bnd (aload true 9 x4 r_3.2) fun v4=>
 some (v4,r_3.2)
theorem e43_1 (H0:Hp) (x0 x1 x4:AV) (H:Hp):j43_1 H0 x0 x1 x4 H=b43_1 x0 x1 x4 H:=(CXM_eq [3] _ _ _ _).trans (by kernel_rfl)
theorem m43_1:L3 (b43_1) (b43_1):=fun _ _ _ _=>
 bR fun _=>bR fun _=>bR fun _=>le_refl _
def rj43_1:A3:=b43_1
theorem sj43_1 (H0:Hp):L3 (rj43_1) (j43_1 H0):=fun _ _ _ _=>le_eq (m43_1 _ _ _ _) (e43_1 H0 _ _ _ _)
def bc43 (j43_1:A3) (p0 p1:AV) (H:Hp):Res:=
 bnd (some ((.ptr H.length 0),H++[.cells [(.int .i64 0),(.int .u64 0),(.int .u64 0),(.int .u64 0),(.int .u64 0),(.int .i64 0),(.int .i64 0),(.int .i64 0),.nils]])) fun r4=>
 bnd (alenD (.slice 41) p1) fun t6=>
 bnd (ibin .eql t6 (.int .i64 1)) fun t7=>
 cnd t7
  (bnd (aindexS 9 p1 (.int .i64 0)) fun t9=>
  bnd (aload true 9 t9 r4.2) fun t10=>
  bnd (astoreU 9 r4.1 t10 r4.2) fun r_9=>
  bnd (aload true 9 r4.1 r_9.2) fun v4=>
  some (v4,r_9.2))
  (j43_1 p0 p1 r4.1 r4.2)
theorem ec43 (p0 p1:AV) (H:Hp):c43 p0 p1 H=bc43 (j43_1 H) p0 p1 H:=(callw_cxm (C:=cfg) (fn:=Tryz.f43) (c:=bodyOf Tryz.f43) (n:=14) [3] Tryz.func43 (by kernel_rfl) (by kernel_rfl) [p0,p1] (by kernel_rfl) H).trans (by kernel_rfl)
theorem mc43 {j43_1 dj43_1:A3} (hj43_1:L3 j43_1 dj43_1):L2 (bc43 j43_1) (bc43 dj43_1):=fun _ _ _=>
 bR fun _=>bR fun _=>bR fun _=>bK (bR fun _=>bR fun _=>bR fun _=>bR fun _=>le_refl _) (hj43_1 _ _ _ _)
def rc43:A2:=fun p0 p1 H=>bc43 (rj43_1) p0 p1 H
theorem sc43:L2 rc43 c43:=fun _ _ H=>le_eq (mc43 (sj43_1 H) _ _ _) (ec43 _ _ _)

def c49 (p0 p1:AV) (H:Hp):Res:=callw cfg 49 [p0,p1] H
def j49_2 (H0:Hp) (x0 x1:AV) (H:Hp):Res:=CXf 49 47 (sub (bodyOf Tryz.f49) [1,1,1]) (retL cfg 47 49 Tryz.f49 H0) [(0,x0),(1,x1)] H
def j49_1 (H0:Hp) (x0 x1:AV) (H:Hp):Res:=CXf 49 47 (sub (bodyOf Tryz.f49) [1,1]) (retL cfg 47 49 Tryz.f49 H0) [(0,x0),(1,x1)] H
def b49_2 (c42:A3) (x0 x1:AV) (H:Hp):Res:=
 bnd (c42 x0 x1 (.str [92,41]) H) fun r39=>
 bnd (gdv r39.1 true (.tuple []) (some x0)) fun t41=>
 bnd (gdv r39.1 true (.tuple []) (anil t41)) fun t42=>
 bnd (gdv r39.1 true (.tuple []) (afield 20 t42)) fun t43=>
 bnd (gdv r39.1 true (.tuple []) (aload false 1 t43 r39.2)) fun t44=>
 bnd (gdv r39.1 true (.tuple []) (ibin .gtr t44 (.int .i64 0))) fun t45=>
 bnd (apick r39.1 t45 (.bool false)) fun t46=>
 some (t46,r39.2)
theorem e49_2 (H0:Hp) (x0 x1:AV) (H:Hp):j49_2 H0 x0 x1 H=b49_2 c42 x0 x1 H:=(CXM_eq [3,5] _ _ _ _).trans (by kernel_rfl)
theorem m49_2 {c42 dc42:A3} (hc42:L3 c42 dc42):L2 (b49_2 c42) (b49_2 dc42):=fun _ _ _=>
 bC (hc42 _ _ _ _) fun _=>bR fun _=>bR fun _=>bR fun _=>bR fun _=>bR fun _=>bR fun _=>le_refl _
def b49_1 (c41:A1) (j49_2:A2) (x0 x1:AV) (H:Hp):Res:=
 bnd (c41 x0 H) fun r13=>
 cnd r13.1
  (bnd (anil x0) fun t15=>
  bnd (afield 0 t15) fun t16=>
  bnd (aload false 1 t16 r13.2) fun t17=>
  bnd (aindexStr t17 x1) fun t19=>
  bnd (ibin .eql t19 (.int .u8 124)) fun t20=>
  bnd (gdv t20 false (.tuple []) (some x0)) fun t22=>
  bnd (gdv t20 false (.tuple []) (anil t22)) fun t23=>
  bnd (gdv t20 false (.tuple []) (afield 0 t23)) fun t24=>
  bnd (gdv t20 false (.tuple []) (aload false 1 t24 r13.2)) fun t25=>
  bnd (gdv t20 false (.tuple []) (some x1)) fun t26=>
  bnd (gdv t20 false (.tuple []) (aindexStr t25 t26)) fun t27=>
  bnd (gdv t20 false (.tuple []) (ibin .eql t27 (.int .u8 41))) fun t28=>
  bnd (gdv t20 false (.tuple []) (some t28)) fun t29=>
  bnd (gdv t29 true (.tuple []) (some x0)) fun t30=>
  bnd (gdv t29 true (.tuple []) (anil t30)) fun t31=>
  bnd (gdv t29 true (.tuple []) (afield 20 t31)) fun t32=>
  bnd (gdv t29 true (.tuple []) (aload false 1 t32 r13.2)) fun t33=>
  bnd (gdv t29 true (.tuple []) (ibin .gtr t33 (.int .i64 0))) fun t34=>
  bnd (gdv t20 false (.tuple []) (apick t29 t34 (.bool false))) fun t35=>
  bnd (apick t20 (.bool true) t35) fun t36=>
  some (t36,r13.2))
  (j49_2 x0 x1 r13.2)
theorem e49_1 (H0:Hp) (x0 x1:AV) (H:Hp):j49_1 H0 x0 x1 H=b49_1 c41 (j49_2 H0) x0 x1 H:=(CXM_eq [3,5] _ _ _ _).trans (by kernel_rfl)
theorem m49_1 {c41 dc41:A1} (hc41:L1 c41 dc41) {j49_2 dj49_2:A2} (hj49_2:L2 j49_2 dj49_2):L2 (b49_1 c41 j49_2) (b49_1 dc41 dj49_2):=fun _ _ _=>
 bC (hc41 _ _) fun _=>bK (bR fun _=>bR fun _=>bR fun _=>bR fun _=>bR fun _=>bR fun _=>bR fun _=>bR fun _=>bR fun _=>bR fun _=>bR fun _=>bR fun _=>bR fun _=>bR fun _=>bR fun _=>bR fun _=>bR fun _=>bR fun _=>bR fun _=>bR fun _=>le_refl _) (hj49_2 _ _ _)
def rj49_2:A2:=b49_2 rc42
theorem sj49_2 (H0:Hp):L2 (rj49_2) (j49_2 H0):=fun _ _ _=>le_eq (m49_2 sc42 _ _ _) (e49_2 H0 _ _ _)
def rj49_1:A2:=b49_1 rc41 (rj49_2)
theorem sj49_1 (H0:Hp):L2 (rj49_1) (j49_1 H0):=fun _ _ _=>le_eq (m49_1 sc41 (sj49_2 H0) _ _ _) (e49_1 H0 _ _ _)
def bc49 (j49_1:A2) (p0 p1:AV) (H:Hp):Res:=
 bnd (anil p0) fun t7=>
 bnd (afield 0 t7) fun t8=>
 bnd (aload false 1 t8 H) fun t9=>
 bnd (alenD .string t9) fun t10=>
 bnd (ibin .geq p1 t10) fun t11=>
 cnd t11
  (some ((.bool true),H))
  (j49_1 p0 p1 H)
theorem ec49 (p0 p1:AV) (H:Hp):c49 p0 p1 H=bc49 (j49_1 H) p0 p1 H:=(callw_cxm (C:=cfg) (fn:=Tryz.f49) (c:=bodyOf Tryz.f49) (n:=47) [3,5] Tryz.func49 (by kernel_rfl) (by kernel_rfl) [p0,p1] (by kernel_rfl) H).trans (by kernel_rfl)
theorem mc49 {j49_1 dj49_1:A2} (hj49_1:L2 j49_1 dj49_1):L2 (bc49 j49_1) (bc49 dj49_1):=fun _ _ _=>
 bR fun _=>bR fun _=>bR fun _=>bR fun _=>bR fun _=>bK (le_refl _) (hj49_1 _ _ _)
def rc49:A2:=fun p0 p1 H=>bc49 (rj49_1) p0 p1 H
theorem sc49:L2 rc49 c49:=fun _ _ H=>le_eq (mc49 (sj49_1 H) _ _ _) (ec49 _ _ _)

def c50 (p0 p1:AV) (H:Hp):Res:=callw cfg 50 [p0,p1] H
def j50_2 (H0:Hp) (x0 x4 x5:AV) (H:Hp):Res:=CXf 50 100 (sub (bodyOf Tryz.f50) [1,1,1,1]) (retL cfg 100 50 Tryz.f50 H0) [(0,x0),(4,x4),(5,x5)] H
def j50_1 (H0:Hp) (x0 x3 x4:AV) (H:Hp):Res:=CXf 50 100 (sub (bodyOf Tryz.f50) [1,1]) (retL cfg 100 50 Tryz.f50 H0) [(0,x0),(3,x3),(4,x4)] H
def b50_2 (x0 x4 x5:AV) (H:Hp):Res:=
 bnd (anil x0) fun t93=>
 bnd (afield 1 t93) fun t94=>
 bnd (aload false 1 t94 H) fun t95=>
 bnd (ibin .add t95 (.int .i64 1)) fun t96=>
 bnd (anil x0) fun t97=>
 bnd (afield 1 t97) fun t98=>
 bnd (astoreU 1 t98 t96 H) fun r_14=>
 bnd (aload true 9 x5 r_14.2) fun t99=>
 bnd (astoreU 9 x4 t99 r_14.2) fun r_16=>
 bnd (aload true 9 x4 r_16.2) fun v4=>
 some (v4,r_16.2)
theorem e50_2 (H0:Hp) (x0 x4 x5:AV) (H:Hp):j50_2 H0 x0 x4 x5 H=b50_2 x0 x4 x5 H:=(CXM_eq [3,19] _ _ _ _).trans (by kernel_rfl)
theorem m50_2:L3 (b50_2) (b50_2):=fun _ _ _ _=>
 bR fun _=>bR fun _=>bR fun _=>bR fun _=>bR fun _=>bR fun _=>bR fun _=>bR fun _=>bR fun _=>bR fun _=>le_refl _
def b50_1 (c41:A1) (c42:A3) (j50_2:A3) (cV:AV→List AV→Hp→Res) (x0 x3 x4:AV) (H:Hp):Res:=
 bnd (aload true 9 x3 H) fun t18=>
 bnd ((setElems 9 [(0,t18)] [(.agg [(.int .i64 0),(.int .u64 0),(.int .u64 0),(.int .u64 0),(.int .u64 0),(.int .i64 0),(.int .i64 0),(.int .i64 0),.nils])]).map (.vs 9 .clip)) fun t19=>
 bnd ((afill [(0,1,(.int .i64 5)),(8,1,t19)] [(.int .i64 0),(.int .u64 0),(.int .u64 0),(.int .u64 0),(.int .u64 0),(.int .i64 0),(.int .i64 0),(.int .i64 0),.nils]).map .agg) fun t20=>
 bnd (some ((.ptr H.length 0),H++[.cells [(.int .i64 0),(.int .u64 0),(.int .u64 0),(.int .u64 0),(.int .u64 0),(.int .i64 0),(.int .i64 0),(.int .i64 0),.nils]])) fun r5=>
 bnd (astoreU 9 r5.1 t20 r5.2) fun r_7=>
 bnd (anil x0) fun t22=>
 bnd (afield 0 t22) fun t23=>
 bnd (aload false 1 t23 r_7.2) fun t24=>
 bnd (anil x0) fun t26=>
 bnd (afield 1 t26) fun t27=>
 bnd (aload false 1 t27 r_7.2) fun t28=>
 bnd (aindexStr t24 t28) fun t29=>
 bnd (ibin .eql t29 (.int .u8 42)) fun t33=>
 cnd t33
  (bnd (afield 6 r5.1) fun t34=>
  bnd (astoreU 1 t34 (.int .i64 (-1)) r_7.2) fun r_27=>
  j50_2 x0 x4 r5.1 r_27.2)
  (bnd (c41 x0 r_7.2) fun r37=>
  bnd (gdv r37.1 true (.tuple []) (some t29)) fun t39=>
  bnd (gdv r37.1 true (.tuple []) (ibin .eql t39 (.int .u8 43))) fun t40=>
  bnd (apick r37.1 t40 (.bool false)) fun t41=>
  cnd t41
   (bnd (afield 5 r5.1) fun t42=>
   bnd (astoreU 1 t42 (.int .i64 1) r37.2) fun r_33=>
   bnd (afield 6 r5.1) fun t43=>
   bnd (astoreU 1 t43 (.int .i64 (-1)) r_33.2) fun r_35=>
   j50_2 x0 x4 r5.1 r_35.2)
   (bnd (c41 x0 r37.2) fun r46=>
   bnd (gdv r46.1 true (.tuple []) (some t29)) fun t48=>
   bnd (gdv r46.1 true (.tuple []) (ibin .eql t48 (.int .u8 63))) fun t49=>
   bnd (apick r46.1 t49 (.bool false)) fun t50=>
   cnd t50
    (bnd (afield 6 r5.1) fun t51=>
    bnd (astoreU 1 t51 (.int .i64 1) r46.2) fun r_41=>
    j50_2 x0 x4 r5.1 r_41.2)
    (bnd (c41 x0 r46.2) fun r54=>
    bnd (gdv r54.1 true (.tuple []) (some t29)) fun t56=>
    bnd (gdv r54.1 true (.tuple []) (ibin .eql t56 (.int .u8 123))) fun t57=>
    bnd (apick r54.1 t57 (.bool false)) fun t58=>
    cnd t58
     (bnd (anil x0) fun t60=>
     bnd (afield 1 t60) fun t61=>
     bnd (aload false 1 t61 r54.2) fun t62=>
     bnd (ibin .add t62 (.int .i64 1)) fun t63=>
     bnd (anil x0) fun t64=>
     bnd (afield 1 t64) fun t65=>
     bnd (astoreU 1 t65 t63 r54.2) fun r_52=>
     bnd (aload true 9 r5.1 r_52.2) fun t67=>
     bnd (cV (.fn (.func 70) [] []) [x0,t67] r_52.2) fun r68=>
     bnd (astoreU 9 x4 r68.1 r68.2) fun r_55=>
     bnd (aload true 9 x4 r_55.2) fun v4=>
     some (v4,r_55.2))
     (bnd (c41 x0 r54.2) fun r71=>
     bnd (aun .not r71.1) fun t72=>
     bnd (gdv t72 true (.tuple []) (some x0)) fun t74=>
     bnd (gdv t72 true (.tuple []) (some x0)) fun t75=>
     bnd (gdv t72 true (.tuple []) (anil t75)) fun t76=>
     bnd (gdv t72 true (.tuple []) (afield 1 t76)) fun t77=>
     bnd (gdv t72 true (.tuple []) (aload false 1 t77 r71.2)) fun t78=>
     bnd (gdv t72 true ((.tuple []),r71.2) (c42 t74 t78 (.str [92,123]) r71.2)) fun r79=>
     bnd (apick t72 r79.1 (.bool false)) fun t80=>
     cnd t80
      (bnd (anil x0) fun t83=>
      bnd (afield 1 t83) fun t84=>
      bnd (aload false 1 t84 r79.2) fun t85=>
      bnd (ibin .add t85 (.int .i64 2)) fun t86=>
      bnd (anil x0) fun t87=>
      bnd (afield 1 t87) fun t88=>
      bnd (astoreU 1 t88 t86 r79.2) fun r_72=>
      bnd (aload true 9 r5.1 r_72.2) fun t90=>
      bnd (cV (.fn (.func 70) [] []) [x0,t90] r_72.2) fun r91=>
      bnd (astoreU 9 x4 r91.1 r91.2) fun r_75=>
      bnd (aload true 9 x4 r_75.2) fun v4=>
      some (v4,r_75.2))
      (bnd (aload true 9 x3 r79.2) fun t30=>
      bnd (astoreU 9 x4 t30 r79.2) fun r_78=>
      bnd (aload true 9 x4 r_78.2) fun v4=>
      some (v4,r_78.2))))))
theorem e50_1 (H0:Hp) (x0 x3 x4:AV) (H:Hp):j50_1 H0 x0 x3 x4 H=b50_1 c41 c42 (j50_2 H0) (acall cfg (callw cfg)) x0 x3 x4 H:=(CXM_eq [3,19] _ _ _ _).trans (by kernel_rfl)
theorem m50_1 {c41 dc41:A1} (hc41:L1 c41 dc41) {c42 dc42:A3} (hc42:L3 c42 dc42) {j50_2 dj50_2:A3} (hj50_2:L3 j50_2 dj50_2) {cV dcV:AV→List AV→Hp→Res} (hcV:LV cV dcV):L3 (b50_1 c41 c42 j50_2 cV) (b50_1 dc41 dc42 dj50_2 dcV):=fun _ _ _ _=>
 bR fun _=>bR fun _=>bR fun _=>bR fun _=>bR fun _=>bR fun _=>bR fun _=>bR fun _=>bR fun _=>bR fun _=>bR fun _=>bR fun _=>bR fun _=>bK (bR fun _=>bR fun _=>hj50_2 _ _ _ _) (bC (hc41 _ _) fun _=>bR fun _=>bR fun _=>bR fun _=>bK (bR fun _=>bR fun _=>bR fun _=>bR fun _=>hj50_2 _ _ _ _) (bC (hc41 _ _) fun _=>bR fun _=>bR fun _=>bR fun _=>bK (bR fun _=>bR fun _=>hj50_2 _ _ _ _) (bC (hc41 _ _) fun _=>bR fun _=>bR fun _=>bR fun _=>bK (bR fun _=>bR fun _=>bR fun _=>bR fun _=>bR fun _=>bR fun _=>bR fun _=>bR fun _=>bC (hcV _ _ _) fun _=>bR fun _=>bR fun _=>le_refl _) (bC (hc41 _ _) fun _=>bR fun _=>bR fun _=>bR fun _=>bR fun _=>bR fun _=>bR fun _=>bG (hc42 _ _ _ _) fun _=>bR fun _=>bK (bR fun _=>bR fun _=>bR fun _=>bR fun _=>bR fun _=>bR fun _=>bR fun _=>bR fun _=>bC (hcV _ _ _) fun _=>bR fun _=>bR fun _=>le_refl _) (bR fun _=>bR fun _=>bR fun _=>le_refl _)))))
def rj50_2 (gV:AV→List AV→Hp→Res):A3:=b50_2
theorem sj50_2 (H0:Hp) {gV:AV→List AV→Hp→Res} (hV:LV gV (acall cfg (callw cfg))):L3 (rj50_2 gV) (j50_2 H0):=fun _ _ _ _=>le_eq (m50_2 _ _ _ _) (e50_2 H0 _ _ _ _)
def rj50_1 (gV:AV→List AV→Hp→Res):A3:=b50_1 rc41 rc42 (rj50_2 gV) gV
theorem sj50_1 (H0:Hp) {gV:AV→List AV→Hp→Res} (hV:LV gV (acall cfg (callw cfg))):L3 (rj50_1 gV) (j50_1 H0):=fun _ _ _ _=>le_eq (m50_1 sc41 sc42 (sj50_2 H0 hV) hV _ _ _ _) (e50_1 H0 _ _ _ _)
def bc50 (j50_1:A3) (p0 p1:AV) (H:Hp):Res:=
 bnd (abox p1 H) fun r3=>
 bnd (some ((.ptr r3.2.length 0),r3.2++[.cells [(.int .i64 0),(.int .u64 0),(.int .u64 0),(.int .u64 0),(.int .u64 0),(.int .i64 0),(.int .i64 0),(.int .i64 0),.nils]])) fun r4=>
 bnd (anil p0) fun t8=>
 bnd (afield 1 t8) fun t9=>
 bnd (aload false 1 t9 r4.2) fun t10=>
 bnd (anil p0) fun t12=>
 bnd (afield 0 t12) fun t13=>
 bnd (aload false 1 t13 r4.2) fun t14=>
 bnd (alenD .string t14) fun t15=>
 bnd (ibin .geq t10 t15) fun t16=>
 cnd t16
  (bnd (aload true 9 r3.1 r4.2) fun t17=>
  bnd (astoreU 9 r4.1 t17 r4.2) fun r_89=>
  bnd (aload true 9 r4.1 r_89.2) fun v4=>
  some (v4,r_89.2))
  (j50_1 p0 r3.1 r4.1 r4.2)
theorem ec50 (p0 p1:AV) (H:Hp):c50 p0 p1 H=bc50 (j50_1 H) p0 p1 H:=(callw_cxm (C:=cfg) (fn:=Tryz.f50) (c:=bodyOf Tryz.f50) (n:=100) [3,19] Tryz.func50 (by kernel_rfl) (by kernel_rfl) [p0,p1] (by kernel_rfl) H).trans (by kernel_rfl)
theorem mc50 {j50_1 dj50_1:A3} (hj50_1:L3 j50_1 dj50_1):L2 (bc50 j50_1) (bc50 dj50_1):=fun _ _ _=>
 bR fun _=>bR fun _=>bR fun _=>bR fun _=>bR fun _=>bR fun _=>bR fun _=>bR fun _=>bR fun _=>bR fun _=>bK (bR fun _=>bR fun _=>bR fun _=>le_refl _) (hj50_1 _ _ _ _)
def rc50 (gV:AV→List AV→Hp→Res):A2:=fun p0 p1 H=>bc50 (rj50_1 gV) p0 p1 H
theorem sc50 {gV:AV→List AV→Hp→Res} (hV:LV gV (acall cfg (callw cfg))):L2 (rc50 gV) c50:=fun _ _ H=>le_eq (mc50 (sj50_1 H hV) _ _ _) (ec50 _ _ _)

def c120 (p0 p1:AV) (H:Hp):Res:=callw cfg 120 [p0,p1] H
def bc120 (p0 p1:AV) (H:Hp):Res:=
 bnd (abox p0 H) fun r2=>
 bnd (ibin .quo p1 (.int .u8 64)) fun t6=>
 bnd (afield 0 r2.1) fun t7=>
 bnd (aindexA 4 1 t7 t6) fun t8=>
 bnd (aload false 1 t8 r2.2) fun t9=>
 bnd (ibin .rem p1 (.int .u8 64)) fun t11=>
 bnd (ibin .shr t9 t11) fun t12=>
 bnd (ibin .and t12 (.int .u64 1)) fun t13=>
 bnd (ibin .eql t13 (.int .u64 1)) fun t14=>
 some (t14,r2.2)
theorem ec120 (p0 p1:AV) (H:Hp):c120 p0 p1 H=bc120 p0 p1 H:=(callw_cxm (C:=cfg) (fn:=Tryz.f120) (c:=bodyOf Tryz.f120) (n:=15) [] Tryz.func120 (by kernel_rfl) (by kernel_rfl) [p0,p1] (by kernel_rfl) H).trans (by kernel_rfl)
theorem mc120:L2 (bc120) (bc120):=fun _ _ _=>
 bR fun _=>bR fun _=>bR fun _=>bR fun _=>bR fun _=>bR fun _=>bR fun _=>bR fun _=>bR fun _=>le_refl _
def rc120:A2:=fun p0 p1 H=>bc120 p0 p1 H
theorem sc120:L2 rc120 c120:=fun _ _ H=>le_eq (mc120 _ _ _) (ec120 _ _ _)

def c92 (p0:AV) (H:Hp):Res:=callw cfg 92 [p0] H
def j92_1 (H0:Hp) (x3:AV) (H:Hp):Res:=CXf 92 20 (sub (bodyOf Tryz.f92) [1,1,1]) (retL cfg 20 92 Tryz.f92 H0) [(3,x3)] H
def k92_1 (H0:Hp):KL:=seqL (fun k al H=>CXf 92 20 (sub (bodyOf Tryz.f92) [1,1,1]) k (trimL (cfg.keep 92) (sub (bodyOf Tryz.f92) [1,1,1]) al) H) (retL cfg 20 92 Tryz.f92 H0)
theorem k92_1_tame (H0:Hp):Tame 20 (k92_1 H0):=tame_seq (C:=cfg) (kp:=cfg.keep 92) (sub (bodyOf Tryz.f92) [1,1,1]) (tame_ret 92 Tryz.f92 H0)
def j92_3 (H0:Hp) (x1 x3 x4:AV) (H:Hp):Res:=CXf 92 20 (sub (bodyOf Tryz.f92) [1,1,0,1,0,0,1,1]) (seqL (fun k al H=>LPf 92 20 (sub (bodyOf Tryz.f92) [1,1,0,1,0,0]) k (trimL (cfg.keep 92) (sub (bodyOf Tryz.f92) [1,1,0,1,0,0]) al) H) (blockL 0 (k92_1 H0))) [(1,x1),(3,x3),(4,x4)] H
def j92_2 (H0:Hp) (x1 x3 x4:AV) (H:Hp):Res:=CXf 92 20 (sub (bodyOf Tryz.f92) [1,1,0,1,0,0,1]) (seqL (fun k al H=>LPf 92 20 (sub (bodyOf Tryz.f92) [1,1,0,1,0,0]) k (trimL (cfg.keep 92) (sub (bodyOf Tryz.f92) [1,1,0,1,0,0]) al) H) (blockL 0 (k92_1 H0))) [(1,x1),(3,x3),(4,x4)] H
def j92_l1 (H0:Hp) (x1 x3 x4:AV) (H:Hp):Res:=LPf 92 20 (sub (bodyOf Tryz.f92) [1,1,0,1,0,0]) (blockL 0 (k92_1 H0)) [(1,x1),(3,x3),(4,x4)] H
def b92_1 (x3:AV) (H:Hp):Res:=
 bnd (cvRd x3 H) fun t19=>
 some (t19,H)
theorem e92_1 (H0:Hp) (x3:AV) (H:Hp):j92_1 H0 x3 H=b92_1 x3 H:=(CXM_eq [4,5,7] _ _ _ _).trans (by kernel_rfl)
theorem m92_1:L1 (b92_1) (b92_1):=fun _ _=>
 bR fun _=>le_refl _
def b92_3 (j92_l1:A3) (x1 x3 x4:AV) (H:Hp):Res:=
 bnd (ibin .add x4 (.int .i64 1)) fun t8=>
 j92_l1 x1 x3 t8 H
theorem e92_3 (H0:Hp) (x1 x3 x4:AV) (H:Hp):j92_3 H0 x1 x3 x4 H=b92_3 (j92_l1 H0) x1 x3 x4 H:=(CXM_eq [4,5,7] _ _ _ _).trans (by kernel_rfl)
theorem m92_3 {j92_l1 dj92_l1:A3} (hj92_l1:L3 j92_l1 dj92_l1):L3 (b92_3 j92_l1) (b92_3 dj92_l1):=fun _ _ _ _=>
 bR fun _=>hj92_l1 _ _ _ _
def b92_2 (c120:A2) (j92_3:A3) (x1 x3 x4:AV) (H:Hp):Res:=
 bnd (aload true 4 x1 H) fun t9=>
 bnd (cvInt .u8 x4) fun t11=>
 bnd (c120 t9 t11 H) fun r12=>
 cnd r12.1
  (bnd (cvInt .u8 x4) fun t15=>
  bnd ((setElems 1 [(0,t15)] [(.int .u8 0)]).map (.vs 1 .clip)) fun t16=>
  bnd (aappE 1 1 x3 t16 r12.2) fun r17=>
  j92_3 x1 r17.1 x4 r17.2)
  (j92_3 x1 x3 x4 r12.2)
theorem e92_2 (H0:Hp) (x1 x3 x4:AV) (H:Hp):j92_2 H0 x1 x3 x4 H=b92_2 c120 (j92_3 H0) x1 x3 x4 H:=(CXM_eq [4,5,7] _ _ _ _).trans (by kernel_rfl)
theorem m92_2 {c120 dc120:A2} (hc120:L2 c120 dc120) {j92_3 dj92_3:A3} (hj92_3:L3 j92_3 dj92_3):L3 (b92_2 c120 j92_3) (b92_2 dc120 dj92_3):=fun _ _ _ _=>
 bR fun _=>bR fun _=>bC (hc120 _ _ _) fun _=>bK (bR fun _=>bR fun _=>bR fun _=>hj92_3 _ _ _ _) (hj92_3 _ _ _ _)
def b92_l1 (j92_1:A1) (j92_2:A3) (x1 x3 x4:AV) (H:Hp):Res:=
 bnd (ibin .lss x4 (.int .i64 256)) fun t6=>
 cnd t6
  (j92_2 x1 x3 x4 H)
  (j92_1 x3 H)
theorem e92_l1 (H0:Hp) (x1 x3 x4:AV) (H:Hp):j92_l1 H0 x1 x3 x4 H=b92_l1 (j92_1 H0) (j92_2 H0) x1 x3 x4 H:=(LPL_eqm (C:=cfg) [4,5,7] (tame_block 0 (k92_1_tame H0)) _ _).trans (by kernel_rfl)
theorem m92_l1 {j92_1 dj92_1:A1} (hj92_1:L1 j92_1 dj92_1) {j92_2 dj92_2:A3} (hj92_2:L3 j92_2 dj92_2):L3 (b92_l1 j92_1 j92_2) (b92_l1 dj92_1 dj92_2):=fun _ _ _ _=>
 bR fun _=>bK (hj92_2 _ _ _ _) (hj92_1 _ _)
def rj92_1:A1:=b92_1
theorem sj92_1 (H0:Hp):L1 (rj92_1) (j92_1 H0):=fun _ _=>le_eq (m92_1 _ _) (e92_1 H0 _ _)
def rj92_3 (j92_l1:A3):A3:=b92_3 j92_l1
theorem sj92_3 (H0:Hp) {yj92_l1:A3} (hj92_l1:L3 yj92_l1 (j92_l1 H0)):L3 (rj92_3 yj92_l1) (j92_3 H0):=fun _ _ _ _=>le_eq (m92_3 hj92_l1 _ _ _ _) (e92_3 H0 _ _ _ _)
def rj92_2 (j92_l1:A3):A3:=b92_2 rc120 (rj92_3 j92_l1)
theorem sj92_2 (H0:Hp) {yj92_l1:A3} (hj92_l1:L3 yj92_l1 (j92_l1 H0)):L3 (rj92_2 yj92_l1) (j92_2 H0):=fun _ _ _ _=>le_eq (m92_2 sc120 (sj92_3 H0 hj92_l1) _ _ _ _) (e92_2 H0 _ _ _ _)
def rj92_l1 (n:Nat):A3:=@Nat.rec (fun _=>A3) (fun _ _ _ _=>none) (fun _ j92_l1=>b92_l1 (rj92_1) (rj92_2 j92_l1)) n
theorem sj92_l1 (H0:Hp) (n:Nat):L3 (rj92_l1 n) (j92_l1 H0):=by
 induction n with
 | zero=>exact fun _ _ _ _=>le_none _
 | succ n hj92_l1=>exact fun _ _ _ _=>le_eq (m92_l1 (sj92_1 H0) (sj92_2 H0 hj92_l1) _ _ _ _) (e92_l1 H0 _ _ _ _)
def bc92 (j92_l1:A3) (p0:AV) (H:Hp):Res:=
 bnd (abox p0 H) fun r1=>
 j92_l1 r1.1 .nils (.int .i64 0) r1.2
theorem ec92 (p0:AV) (H:Hp):c92 p0 H=bc92 (j92_l1 H) p0 H:=(callw_cxm (C:=cfg) (fn:=Tryz.f92) (c:=bodyOf Tryz.f92) (n:=20) [4,5,7] Tryz.func92 (by kernel_rfl) (by kernel_rfl) [p0] (by kernel_rfl) H).trans (by kernel_rfl)
theorem mc92 {j92_l1 dj92_l1:A3} (hj92_l1:L3 j92_l1 dj92_l1):L1 (bc92 j92_l1) (bc92 dj92_l1):=fun _ _=>
 bR fun _=>hj92_l1 _ _ _ _
def rc92:A1:=fun p0 H=>bc92 (rj92_l1 100000) p0 H
theorem sc92:L1 rc92 c92:=fun _ H=>le_eq (mc92 (sj92_l1 H 100000) _ _) (ec92 _ _)

def c97 (p0 p1:AV) (H:Hp):Res:=callw cfg 97 [p0,p1] H
def j97_1 (H0:Hp) (x2 x4:AV) (H:Hp):Res:=CXf 97 23 (sub (bodyOf Tryz.f97) [1,1]) (retL cfg 23 97 Tryz.f97 H0) [(2,x2),(4,x4)] H
def b97_1 (x2 x4:AV) (H:Hp):Res:=
 bnd (aload true 4 x2 H) fun t22=>
 bnd (astoreU 4 x4 t22 H) fun r_4=>
 bnd (aload true 4 x4 r_4.2) fun v4=>
 some (v4,r_4.2)
theorem e97_1 (H0:Hp) (x2 x4:AV) (H:Hp):j97_1 H0 x2 x4 H=b97_1 x2 x4 H:=(CXM_eq [3] _ _ _ _).trans (by kernel_rfl)
theorem m97_1:L2 (b97_1) (b97_1):=fun _ _ _=>
 bR fun _=>bR fun _=>bR fun _=>le_refl _
def rj97_1:A2:=b97_1
theorem sj97_1 (H0:Hp):L2 (rj97_1) (j97_1 H0):=fun _ _ _=>le_eq (m97_1 _ _ _) (e97_1 H0 _ _ _)
def bc97 (c120:A2) (j97_1:A2) (p0 p1:AV) (H:Hp):Res:=
 bnd (abox p0 H) fun r2=>
 bnd (some ((.ptr r2.2.length 0),r2.2++[.cells [(.int .u64 0),(.int .u64 0),(.int .u64 0),(.int .u64 0)]])) fun r4=>
 bnd (aload true 4 r2.1 r4.2) fun t5=>
 bnd (c120 t5 p1 r4.2) fun r7=>
 bnd (aun .not r7.1) fun t8=>
 cnd t8
  (bnd (ibin .quo p1 (.int .u8 64)) fun t10=>
  bnd (ibin .quo p1 (.int .u8 64)) fun t12=>
  bnd (afield 0 r2.1) fun t13=>
  bnd (aindexA 4 1 t13 t12) fun t14=>
  bnd (aload false 1 t14 r7.2) fun t15=>
  bnd (ibin .rem p1 (.int .u8 64)) fun t17=>
  bnd (ibin .shl (.int .u64 1) t17) fun t18=>
  bnd (ibin .add t15 t18) fun t19=>
  bnd (afield 0 r2.1) fun t20=>
  bnd (aindexA 4 1 t20 t10) fun t21=>
  bnd (astoreU 1 t21 t19 r7.2) fun r_19=>
  j97_1 r2.1 r4.1 r_19.2)
  (j97_1 r2.1 r4.1 r7.2)
theorem ec97 (p0 p1:AV) (H:Hp):c97 p0 p1 H=bc97 c120 (j97_1 H) p0 p1 H:=(callw_cxm (C:=cfg) (fn:=Tryz.f97) (c:=bodyOf Tryz.f97) (n:=23) [3] Tryz.func97 (by kernel_rfl) (by kernel_rfl) [p0,p1] (by kernel_rfl) H).trans (by kernel_rfl)
theorem mc97 {c120 dc120:A2} (hc120:L2 c120 dc120) {j97_1 dj97_1:A2} (hj97_1:L2 j97_1 dj97_1):L2 (bc97 c120 j97_1) (bc97 dc120 dj97_1):=fun _ _ _=>
 bR fun _=>bR fun _=>bR fun _=>bC (hc120 _ _ _) fun _=>bR fun _=>bK (bR fun _=>bR fun _=>bR fun _=>bR fun _=>bR fun _=>bR fun _=>bR fun _=>bR fun _=>bR fun _=>bR fun _=>bR fun _=>hj97_1 _ _ _) (hj97_1 _ _ _)
def rc97:A2:=fun p0 p1 H=>bc97 rc120 (rj97_1) p0 p1 H
theorem sc97:L2 rc97 c97:=fun _ _ H=>le_eq (mc97 sc120 (sj97_1 H) _ _ _) (ec97 _ _ _)

def c121 (p0 p1 p2:AV) (H:Hp):Res:=callw cfg 121 [p0,p1,p2] H
def j121_1 (H0:Hp) (x6 x7:AV) (H:Hp):Res:=CXf 121 57 (sub (bodyOf Tryz.f121) [1,1,1]) (retL cfg 57 121 Tryz.f121 H0) [(6,x6),(7,x7)] H
def k121_1 (H0:Hp):KL:=seqL (fun k al H=>CXf 121 57 (sub (bodyOf Tryz.f121) [1,1,1]) k (trimL (cfg.keep 121) (sub (bodyOf Tryz.f121) [1,1,1]) al) H) (retL cfg 57 121 Tryz.f121 H0)
theorem k121_1_tame (H0:Hp):Tame 57 (k121_1 H0):=tame_seq (C:=cfg) (kp:=cfg.keep 121) (sub (bodyOf Tryz.f121) [1,1,1]) (tame_ret 121 Tryz.f121 H0)
def j121_3 (H0:Hp) (x0 x4 x5 x6 x7 x8:AV) (H:Hp):Res:=CXf 121 57 (sub (bodyOf Tryz.f121) [1,1,0,1,0,0,1,1]) (seqL (fun k al H=>LPf 121 57 (sub (bodyOf Tryz.f121) [1,1,0,1,0,0]) k (trimL (cfg.keep 121) (sub (bodyOf Tryz.f121) [1,1,0,1,0,0]) al) H) (blockL 0 (k121_1 H0))) [(0,x0),(4,x4),(5,x5),(6,x6),(7,x7),(8,x8)] H
def j121_2 (H0:Hp) (x0 x4 x5 x6 x7 x8:AV) (H:Hp):Res:=CXf 121 57 (sub (bodyOf Tryz.f121) [1,1,0,1,0,0,1]) (seqL (fun k al H=>LPf 121 57 (sub (bodyOf Tryz.f121) [1,1,0,1,0,0]) k (trimL (cfg.keep 121) (sub (bodyOf Tryz.f121) [1,1,0,1,0,0]) al) H) (blockL 0 (k121_1 H0))) [(0,x0),(4,x4),(5,x5),(6,x6),(7,x7),(8,x8)] H
def j121_l1 (H0:Hp) (x0 x4 x5 x6 x7 x8:AV) (H:Hp):Res:=LPf 121 57 (sub (bodyOf Tryz.f121) [1,1,0,1,0,0]) (blockL 0 (k121_1 H0)) [(0,x0),(4,x4),(5,x5),(6,x6),(7,x7),(8,x8)] H
def b121_1 (x6 x7:AV) (H:Hp):Res:=
 bnd (aload true 4 x7 H) fun t56=>
 bnd (astoreU 4 x6 t56 H) fun r_6=>
 bnd (aload true 4 x6 r_6.2) fun v6=>
 some (v6,r_6.2)
theorem e121_1 (H0:Hp) (x6 x7:AV) (H:Hp):j121_1 H0 x6 x7 H=b121_1 x6 x7 H:=(CXM_eq [4,5,8] _ _ _ _).trans (by kernel_rfl)
theorem m121_1:L2 (b121_1) (b121_1):=fun _ _ _=>
 bR fun _=>bR fun _=>bR fun _=>le_refl _
def b121_3 (j121_l1:A6) (x0 x4 x5 x6 x7 x8:AV) (H:Hp):Res:=
 bnd (ibin .add x8 (.int .i64 1)) fun t14=>
 j121_l1 x0 x4 x5 x6 x7 t14 H
theorem e121_3 (H0:Hp) (x0 x4 x5 x6 x7 x8:AV) (H:Hp):j121_3 H0 x0 x4 x5 x6 x7 x8 H=b121_3 (j121_l1 H0) x0 x4 x5 x6 x7 x8 H:=(CXM_eq [4,5,8] _ _ _ _).trans (by kernel_rfl)
theorem m121_3 {j121_l1 dj121_l1:A6} (hj121_l1:L6 j121_l1 dj121_l1):L6 (b121_3 j121_l1) (b121_3 dj121_l1):=fun _ _ _ _ _ _ _=>
 bR fun _=>hj121_l1 _ _ _ _ _ _ _
def b121_2 (c120:A2) (c97:A2) (j121_3:A6) (x0 x4 x5 x6 x7 x8:AV) (H:Hp):Res:=
 frzK x5 H fun z5 z5H=>
 bnd (aload true 4 x4 z5H) fun t15=>
 bnd (cvInt .u8 x8) fun t17=>
 bnd (c120 t15 t17 z5H) fun r18=>
 bnd (aloadv true 4 z5) fun t19=>
 bnd (cvInt .u8 x8) fun t21=>
 bnd (c120 t19 t21 r18.2) fun r22=>
 bnd (ibin .eql x0 (.int .i64 0)) fun t24=>
 bnd (gdv t24 true (.tuple []) (some r18.1)) fun t26=>
 bnd (apick t24 t26 (.bool false)) fun t27=>
 bnd (gdv t27 true (.tuple []) (some r22.1)) fun t29=>
 bnd (apick t27 t29 (.bool false)) fun t30=>
 bnd (gdv t30 false (.tuple []) (some x0)) fun t32=>
 bnd (gdv t30 false (.tuple []) (ibin .eql t32 (.int .i64 1))) fun t33=>
 bnd (gdv t30 false (.tuple []) (some t33)) fun t34=>
 bnd (gdv t34 true (.tuple []) (some r18.1)) fun t35=>
 bnd (gdv t34 true (.tuple []) (some t35)) fun t36=>
 bnd (gdv t36 false (.tuple []) (some r22.1)) fun t37=>
 bnd (gdv t34 true (.tuple []) (apick t36 (.bool true) t37)) fun t38=>
 bnd (gdv t30 false (.tuple []) (apick t34 t38 (.bool false))) fun t39=>
 bnd (apick t30 (.bool true) t39) fun t40=>
 bnd (gdv t40 false (.tuple []) (some x0)) fun t42=>
 bnd (gdv t40 false (.tuple []) (ibin .eql t42 (.int .i64 2))) fun t43=>
 bnd (gdv t40 false (.tuple []) (some t43)) fun t44=>
 bnd (gdv t44 true (.tuple []) (some r18.1)) fun t45=>
 bnd (gdv t40 false (.tuple []) (apick t44 t45 (.bool false))) fun t46=>
 bnd (gdv t40 false (.tuple []) (some t46)) fun t47=>
 bnd (gdv t47 true (.tuple []) (some r22.1)) fun t48=>
 bnd (gdv t47 true (.tuple []) (aun .not t48)) fun t49=>
 bnd (gdv t40 false (.tuple []) (apick t47 t49 (.bool false))) fun t50=>
 bnd (apick t40 (.bool true) t50) fun t51=>
 cnd t51
  (bnd (aload true 4 x7 r22.2) fun t52=>
  bnd (cvInt .u8 x8) fun t54=>
  bnd (c97 t52 t54 r22.2) fun r55=>
  bnd (astoreU 4 x7 r55.1 r55.2) fun r_43=>
  j121_3 x0 x4 z5 x6 x7 x8 r_43.2)
  (j121_3 x0 x4 z5 x6 x7 x8 r22.2)
theorem e121_2 (H0:Hp) (x0 x4 x5 x6 x7 x8:AV) (H:Hp):j121_2 H0 x0 x4 x5 x6 x7 x8 H=b121_2 c120 c97 (j121_3 H0) x0 x4 x5 x6 x7 x8 H:=(CXM_eq [4,5,8] _ _ _ _).trans (by kernel_rfl)
theorem m121_2 {c120 dc120:A2} (hc120:L2 c120 dc120) {c97 dc97:A2} (hc97:L2 c97 dc97) {j121_3 dj121_3:A6} (hj121_3:L6 j121_3 dj121_3):L6 (b121_2 c120 c97 j121_3) (b121_2 dc120 dc97 dj121_3):=fun _ _ _ _ _ _ _=>
 bF fun _ _=>bR fun _=>bR fun _=>bC (hc120 _ _ _) fun _=>bR fun _=>bR fun _=>bC (hc120 _ _ _) fun _=>bR fun _=>bR fun _=>bR fun _=>bR fun _=>bR fun _=>bR fun _=>bR fun _=>bR fun _=>bR fun _=>bR fun _=>bR fun _=>bR fun _=>bR fun _=>bR fun _=>bR fun _=>bR fun _=>bR fun _=>bR fun _=>bR fun _=>bR fun _=>bR fun _=>bR fun _=>bR fun _=>bR fun _=>bK (bR fun _=>bR fun _=>bC (hc97 _ _ _) fun _=>bR fun _=>hj121_3 _ _ _ _ _ _ _) (hj121_3 _ _ _ _ _ _ _)
def b121_l1 (j121_1:A2) (j121_2:A6) (x0 x4 x5 x6 x7 x8:AV) (H:Hp):Res:=
 bnd (ibin .lss x8 (.int .i64 256)) fun t12=>
 cnd t12
  (j121_2 x0 x4 x5 x6 x7 x8 H)
  (j121_1 x6 x7 H)
theorem e121_l1 (H0:Hp) (x0 x4 x5 x6 x7 x8:AV) (H:Hp):j121_l1 H0 x0 x4 x5 x6 x7 x8 H=b121_l1 (j121_1 H0) (j121_2 H0) x0 x4 x5 x6 x7 x8 H:=(LPL_eqm (C:=cfg) [4,5,8] (tame_block 0 (k121_1_tame H0)) _ _).trans (by kernel_rfl)
theorem m121_l1 {j121_1 dj121_1:A2} (hj121_1:L2 j121_1 dj121_1) {j121_2 dj121_2:A6} (hj121_2:L6 j121_2 dj121_2):L6 (b121_l1 j121_1 j121_2) (b121_l1 dj121_1 dj121_2):=fun _ _ _ _ _ _ _=>
 bR fun _=>bK (hj121_2 _ _ _ _ _ _ _) (hj121_1 _ _ _)
def rj121_1:A2:=b121_1
theorem sj121_1 (H0:Hp):L2 (rj121_1) (j121_1 H0):=fun _ _ _=>le_eq (m121_1 _ _ _) (e121_1 H0 _ _ _)
def rj121_3 (j121_l1:A6):A6:=b121_3 j121_l1
theorem sj121_3 (H0:Hp) {yj121_l1:A6} (hj121_l1:L6 yj121_l1 (j121_l1 H0)):L6 (rj121_3 yj121_l1) (j121_3 H0):=fun _ _ _ _ _ _ _=>le_eq (m121_3 hj121_l1 _ _ _ _ _ _ _) (e121_3 H0 _ _ _ _ _ _ _)
def rj121_2 (j121_l1:A6):A6:=b121_2 rc120 rc97 (rj121_3 j121_l1)
theorem sj121_2 (H0:Hp) {yj121_l1:A6} (hj121_l1:L6 yj121_l1 (j121_l1 H0)):L6 (rj121_2 yj121_l1) (j121_2 H0):=fun _ _ _ _ _ _ _=>le_eq (m121_2 sc120 sc97 (sj121_3 H0 hj121_l1) _ _ _ _ _ _ _) (e121_2 H0 _ _ _ _ _ _ _)
def rj121_l1 (n:Nat):A6:=@Nat.rec (fun _=>A6) (fun _ _ _ _ _ _ _=>none) (fun _ j121_l1=>b121_l1 (rj121_1) (rj121_2 j121_l1)) n
theorem sj121_l1 (H0:Hp) (n:Nat):L6 (rj121_l1 n) (j121_l1 H0):=by
 induction n with
 | zero=>exact fun _ _ _ _ _ _ _=>le_none _
 | succ n hj121_l1=>exact fun _ _ _ _ _ _ _=>le_eq (m121_l1 (sj121_1 H0) (sj121_2 H0 hj121_l1) _ _ _ _ _ _ _) (e121_l1 H0 _ _ _ _ _ _ _)
def bc121 (j121_l1:A6) (p0 p1 p2:AV) (H:Hp):Res:=
 bnd (abox p1 H) fun r4=>
 bnd (abox p2 r4.2) fun r5=>
 bnd (some ((.ptr r5.2.length 0),r5.2++[.cells [(.int .u64 0),(.int .u64 0),(.int .u64 0),(.int .u64 0)]])) fun r6=>
 bnd (some ((.ptr r6.2.length 0),r6.2++[.cells [(.int .u64 0),(.int .u64 0),(.int .u64 0),(.int .u64 0)]])) fun r7=>
 j121_l1 p0 r4.1 r5.1 r6.1 r7.1 (.int .i64 0) r7.2
theorem ec121 (p0 p1 p2:AV) (H:Hp):c121 p0 p1 p2 H=bc121 (j121_l1 H) p0 p1 p2 H:=(callw_cxm (C:=cfg) (fn:=Tryz.f121) (c:=bodyOf Tryz.f121) (n:=57) [4,5,8] Tryz.func121 (by kernel_rfl) (by kernel_rfl) [p0,p1,p2] (by kernel_rfl) H).trans (by kernel_rfl)
theorem mc121 {j121_l1 dj121_l1:A6} (hj121_l1:L6 j121_l1 dj121_l1):L3 (bc121 j121_l1) (bc121 dj121_l1):=fun _ _ _ _=>
 bR fun _=>bR fun _=>bR fun _=>bR fun _=>hj121_l1 _ _ _ _ _ _ _
def rc121:A3:=fun p0 p1 p2 H=>bc121 (rj121_l1 100000) p0 p1 p2 H
theorem sc121:L3 rc121 c121:=fun _ _ _ H=>le_eq (mc121 (sj121_l1 H 100000) _ _ _ _) (ec121 _ _ _ _)

def c93 (p0 p1:AV) (H:Hp):Res:=callw cfg 93 [p0,p1] H
def bc93 (c121:A3) (p0 p1:AV) (H:Hp):Res:=
 bnd (abox p0 H) fun r2=>
 bnd (abox p1 r2.2) fun r3=>
 bnd (some ((.ptr r3.2.length 0),r3.2++[.cells [(.int .u64 0),(.int .u64 0),(.int .u64 0),(.int .u64 0)]])) fun r4=>
 bnd (aload true 4 r2.1 r4.2) fun t5=>
 bnd (aload true 4 r3.1 r4.2) fun t6=>
 bnd (c121 (.int .i64 1) t5 t6 r4.2) fun r7=>
 bnd (astoreU 4 r4.1 r7.1 r7.2) fun r_7=>
 bnd (aload true 4 r4.1 r_7.2) fun v4=>
 some (v4,r_7.2)
theorem ec93 (p0 p1:AV) (H:Hp):c93 p0 p1 H=bc93 c121 p0 p1 H:=(callw_cxm (C:=cfg) (fn:=Tryz.f93) (c:=bodyOf Tryz.f93) (n:=8) [] Tryz.func93 (by kernel_rfl) (by kernel_rfl) [p0,p1] (by kernel_rfl) H).trans (by kernel_rfl)
theorem mc93 {c121 dc121:A3} (hc121:L3 c121 dc121):L2 (bc93 c121) (bc93 dc121):=fun _ _ _=>
 bR fun _=>bR fun _=>bR fun _=>bR fun _=>bR fun _=>bC (hc121 _ _ _ _) fun _=>bR fun _=>bR fun _=>le_refl _
def rc93:A2:=fun p0 p1 H=>bc93 rc121 p0 p1 H
theorem sc93:L2 rc93 c93:=fun _ _ H=>le_eq (mc93 sc121 _ _ _) (ec93 _ _ _)

def c94 (p0:AV) (H:Hp):Res:=callw cfg 94 [p0] H
def j94_1 (H0:Hp) (x2 x3:AV) (H:Hp):Res:=CXf 94 17 (sub (bodyOf Tryz.f94) [1,1,1]) (retL cfg 17 94 Tryz.f94 H0) [(2,x2),(3,x3)] H
def k94_1 (H0:Hp):KL:=seqL (fun k al H=>CXf 94 17 (sub (bodyOf Tryz.f94) [1,1,1]) k (trimL (cfg.keep 94) (sub (bodyOf Tryz.f94) [1,1,1]) al) H) (retL cfg 17 94 Tryz.f94 H0)
theorem k94_1_tame (H0:Hp):Tame 17 (k94_1 H0):=tame_seq (C:=cfg) (kp:=cfg.keep 94) (sub (bodyOf Tryz.f94) [1,1,1]) (tame_ret 94 Tryz.f94 H0)
def j94_3 (H0:Hp) (x0 x2 x3 x4:AV) (H:Hp):Res:=CXf 94 17 (sub (bodyOf Tryz.f94) [1,1,0,1,0,0,1,1]) (seqL (fun k al H=>LPf 94 17 (sub (bodyOf Tryz.f94) [1,1,0,1,0,0]) k (trimL (cfg.keep 94) (sub (bodyOf Tryz.f94) [1,1,0,1,0,0]) al) H) (blockL 0 (k94_1 H0))) [(0,x0),(2,x2),(3,x3),(4,x4)] H
def j94_2 (H0:Hp) (x0 x2 x3 x4:AV) (H:Hp):Res:=CXf 94 17 (sub (bodyOf Tryz.f94) [1,1,0,1,0,0,1]) (seqL (fun k al H=>LPf 94 17 (sub (bodyOf Tryz.f94) [1,1,0,1,0,0]) k (trimL (cfg.keep 94) (sub (bodyOf Tryz.f94) [1,1,0,1,0,0]) al) H) (blockL 0 (k94_1 H0))) [(0,x0),(2,x2),(3,x3),(4,x4)] H
def j94_l1 (H0:Hp) (x0 x2 x3 x4:AV) (H:Hp):Res:=LPf 94 17 (sub (bodyOf Tryz.f94) [1,1,0,1,0,0]) (blockL 0 (k94_1 H0)) [(0,x0),(2,x2),(3,x3),(4,x4)] H
def b94_1 (x2 x3:AV) (H:Hp):Res:=
 bnd (aload true 4 x3 H) fun t16=>
 bnd (astoreU 4 x2 t16 H) fun r_4=>
 bnd (aload true 4 x2 r_4.2) fun v2=>
 some (v2,r_4.2)
theorem e94_1 (H0:Hp) (x2 x3:AV) (H:Hp):j94_1 H0 x2 x3 H=b94_1 x2 x3 H:=(CXM_eq [4,5,6] _ _ _ _).trans (by kernel_rfl)
theorem m94_1:L2 (b94_1) (b94_1):=fun _ _ _=>
 bR fun _=>bR fun _=>bR fun _=>le_refl _
def b94_3 (j94_l1:A4) (x0 x2 x3 x4:AV) (H:Hp):Res:=
 bnd (ibin .add x4 (.int .i64 1)) fun t10=>
 j94_l1 x0 x2 x3 t10 H
theorem e94_3 (H0:Hp) (x0 x2 x3 x4:AV) (H:Hp):j94_3 H0 x0 x2 x3 x4 H=b94_3 (j94_l1 H0) x0 x2 x3 x4 H:=(CXM_eq [4,5,6] _ _ _ _).trans (by kernel_rfl)
theorem m94_3 {j94_l1 dj94_l1:A4} (hj94_l1:L4 j94_l1 dj94_l1):L4 (b94_3 j94_l1) (b94_3 dj94_l1):=fun _ _ _ _ _=>
 bR fun _=>hj94_l1 _ _ _ _ _
def b94_2 (c97:A2) (j94_3:A4) (x0 x2 x3 x4:AV) (H:Hp):Res:=
 bnd (aload true 4 x3 H) fun t11=>
 bnd (aindexStr x0 x4) fun t14=>
 bnd (c97 t11 t14 H) fun r15=>
 bnd (astoreU 4 x3 r15.1 r15.2) fun r_10=>
 j94_3 x0 x2 x3 x4 r_10.2
theorem e94_2 (H0:Hp) (x0 x2 x3 x4:AV) (H:Hp):j94_2 H0 x0 x2 x3 x4 H=b94_2 c97 (j94_3 H0) x0 x2 x3 x4 H:=(CXM_eq [4,5,6] _ _ _ _).trans (by kernel_rfl)
theorem m94_2 {c97 dc97:A2} (hc97:L2 c97 dc97) {j94_3 dj94_3:A4} (hj94_3:L4 j94_3 dj94_3):L4 (b94_2 c97 j94_3) (b94_2 dc97 dj94_3):=fun _ _ _ _ _=>
 bR fun _=>bR fun _=>bC (hc97 _ _ _) fun _=>bR fun _=>hj94_3 _ _ _ _ _
def b94_l1 (j94_1:A2) (j94_2:A4) (x0 x2 x3 x4:AV) (H:Hp):Res:=
 bnd (alenD .string x0) fun t7=>
 bnd (ibin .lss x4 t7) fun t8=>
 cnd t8
  (j94_2 x0 x2 x3 x4 H)
  (j94_1 x2 x3 H)
theorem e94_l1 (H0:Hp) (x0 x2 x3 x4:AV) (H:Hp):j94_l1 H0 x0 x2 x3 x4 H=b94_l1 (j94_1 H0) (j94_2 H0) x0 x2 x3 x4 H:=(LPL_eqm (C:=cfg) [4,5,6] (tame_block 0 (k94_1_tame H0)) _ _).trans (by kernel_rfl)
theorem m94_l1 {j94_1 dj94_1:A2} (hj94_1:L2 j94_1 dj94_1) {j94_2 dj94_2:A4} (hj94_2:L4 j94_2 dj94_2):L4 (b94_l1 j94_1 j94_2) (b94_l1 dj94_1 dj94_2):=fun _ _ _ _ _=>
 bR fun _=>bR fun _=>bK (hj94_2 _ _ _ _ _) (hj94_1 _ _ _)
def rj94_1:A2:=b94_1
theorem sj94_1 (H0:Hp):L2 (rj94_1) (j94_1 H0):=fun _ _ _=>le_eq (m94_1 _ _ _) (e94_1 H0 _ _ _)
def rj94_3 (j94_l1:A4):A4:=b94_3 j94_l1
theorem sj94_3 (H0:Hp) {yj94_l1:A4} (hj94_l1:L4 yj94_l1 (j94_l1 H0)):L4 (rj94_3 yj94_l1) (j94_3 H0):=fun _ _ _ _ _=>le_eq (m94_3 hj94_l1 _ _ _ _ _) (e94_3 H0 _ _ _ _ _)
def rj94_2 (j94_l1:A4):A4:=b94_2 rc97 (rj94_3 j94_l1)
theorem sj94_2 (H0:Hp) {yj94_l1:A4} (hj94_l1:L4 yj94_l1 (j94_l1 H0)):L4 (rj94_2 yj94_l1) (j94_2 H0):=fun _ _ _ _ _=>le_eq (m94_2 sc97 (sj94_3 H0 hj94_l1) _ _ _ _ _) (e94_2 H0 _ _ _ _ _)
def rj94_l1 (n:Nat):A4:=@Nat.rec (fun _=>A4) (fun _ _ _ _ _=>none) (fun _ j94_l1=>b94_l1 (rj94_1) (rj94_2 j94_l1)) n
theorem sj94_l1 (H0:Hp) (n:Nat):L4 (rj94_l1 n) (j94_l1 H0):=by
 induction n with
 | zero=>exact fun _ _ _ _ _=>le_none _
 | succ n hj94_l1=>exact fun _ _ _ _ _=>le_eq (m94_l1 (sj94_1 H0) (sj94_2 H0 hj94_l1) _ _ _ _ _) (e94_l1 H0 _ _ _ _ _)
def bc94 (j94_l1:A4) (p0:AV) (H:Hp):Res:=
 bnd (some ((.ptr H.length 0),H++[.cells [(.int .u64 0),(.int .u64 0),(.int .u64 0),(.int .u64 0)]])) fun r2=>
 bnd (some ((.ptr r2.2.length 0),r2.2++[.cells [(.int .u64 0),(.int .u64 0),(.int .u64 0),(.int .u64 0)]])) fun r3=>
 j94_l1 p0 r2.1 r3.1 (.int .i64 0) r3.2
theorem ec94 (p0:AV) (H:Hp):c94 p0 H=bc94 (j94_l1 H) p0 H:=(callw_cxm (C:=cfg) (fn:=Tryz.f94) (c:=bodyOf Tryz.f94) (n:=17) [4,5,6] Tryz.func94 (by kernel_rfl) (by kernel_rfl) [p0] (by kernel_rfl) H).trans (by kernel_rfl)
theorem mc94 {j94_l1 dj94_l1:A4} (hj94_l1:L4 j94_l1 dj94_l1):L1 (bc94 j94_l1) (bc94 dj94_l1):=fun _ _=>
 bR fun _=>bR fun _=>hj94_l1 _ _ _ _ _
def rc94:A1:=fun p0 H=>bc94 (rj94_l1 100000) p0 H
theorem sc94:L1 rc94 c94:=fun _ H=>le_eq (mc94 (sj94_l1 H 100000) _ _) (ec94 _ _)

def c122 (p0 p1:AV) (H:Hp):Res:=callw cfg 122 [p0,p1] H
def j122_1 (H0:Hp) (x5:AV) (H:Hp):Res:=CXf 122 23 (sub (bodyOf Tryz.f122) [1,1,1]) (retL cfg 23 122 Tryz.f122 H0) [(5,x5)] H
def k122_1 (H0:Hp):KL:=seqL (fun k al H=>CXf 122 23 (sub (bodyOf Tryz.f122) [1,1,1]) k (trimL (cfg.keep 122) (sub (bodyOf Tryz.f122) [1,1,1]) al) H) (retL cfg 23 122 Tryz.f122 H0)
theorem k122_1_tame (H0:Hp):Tame 23 (k122_1 H0):=tame_seq (C:=cfg) (kp:=cfg.keep 122) (sub (bodyOf Tryz.f122) [1,1,1]) (tame_ret 122 Tryz.f122 H0)
def j122_3 (H0:Hp) (x0 x1 x5 x6:AV) (H:Hp):Res:=CXf 122 23 (sub (bodyOf Tryz.f122) [1,1,0,1,0,0,1,1]) (seqL (fun k al H=>LPf 122 23 (sub (bodyOf Tryz.f122) [1,1,0,1,0,0]) k (trimL (cfg.keep 122) (sub (bodyOf Tryz.f122) [1,1,0,1,0,0]) al) H) (blockL 0 (k122_1 H0))) [(0,x0),(1,x1),(5,x5),(6,x6)] H
def j122_2 (H0:Hp) (x0 x1 x5 x6:AV) (H:Hp):Res:=CXf 122 23 (sub (bodyOf Tryz.f122) [1,1,0,1,0,0,1]) (seqL (fun k al H=>LPf 122 23 (sub (bodyOf Tryz.f122) [1,1,0,1,0,0]) k (trimL (cfg.keep 122) (sub (bodyOf Tryz.f122) [1,1,0,1,0,0]) al) H) (blockL 0 (k122_1 H0))) [(0,x0),(1,x1),(5,x5),(6,x6)] H
def j122_l1 (H0:Hp) (x0 x1 x5 x6:AV) (H:Hp):Res:=LPf 122 23 (sub (bodyOf Tryz.f122) [1,1,0,1,0,0]) (blockL 0 (k122_1 H0)) [(0,x0),(1,x1),(5,x5),(6,x6)] H
def b122_1 (x5:AV) (H:Hp):Res:=
 bnd (cvRd x5 H) fun t22=>
 some (t22,H)
theorem e122_1 (H0:Hp) (x5:AV) (H:Hp):j122_1 H0 x5 H=b122_1 x5 H:=(CXM_eq [4,5,6] _ _ _ _).trans (by kernel_rfl)
theorem m122_1:L1 (b122_1) (b122_1):=fun _ _=>
 bR fun _=>le_refl _
def b122_3 (j122_l1:A4) (x0 x1 x5 x6:AV) (H:Hp):Res:=
 bnd (ibin .add x6 (.int .i64 1)) fun t12=>
 j122_l1 x0 x1 x5 t12 H
theorem e122_3 (H0:Hp) (x0 x1 x5 x6:AV) (H:Hp):j122_3 H0 x0 x1 x5 x6 H=b122_3 (j122_l1 H0) x0 x1 x5 x6 H:=(CXM_eq [4,5,6] _ _ _ _).trans (by kernel_rfl)
theorem m122_3 {j122_l1 dj122_l1:A4} (hj122_l1:L4 j122_l1 dj122_l1):L4 (b122_3 j122_l1) (b122_3 dj122_l1):=fun _ _ _ _ _=>
 bR fun _=>hj122_l1 _ _ _ _ _
def b122_2 (j122_3:A4) (x0 x1 x5 x6:AV) (H:Hp):Res:=
 bnd (aindexStr x1 x6) fun t17=>
 bnd (aindexStr x0 t17) fun t18=>
 bnd ((setElems 1 [(0,t18)] [(.int .u8 0)]).map (.vs 1 .clip)) fun t19=>
 bnd (aappE 1 1 x5 t19 H) fun r20=>
 j122_3 x0 x1 r20.1 x6 r20.2
theorem e122_2 (H0:Hp) (x0 x1 x5 x6:AV) (H:Hp):j122_2 H0 x0 x1 x5 x6 H=b122_2 (j122_3 H0) x0 x1 x5 x6 H:=(CXM_eq [4,5,6] _ _ _ _).trans (by kernel_rfl)
theorem m122_2 {j122_3 dj122_3:A4} (hj122_3:L4 j122_3 dj122_3):L4 (b122_2 j122_3) (b122_2 dj122_3):=fun _ _ _ _ _=>
 bR fun _=>bR fun _=>bR fun _=>bR fun _=>hj122_3 _ _ _ _ _
def b122_l1 (j122_1:A1) (j122_2:A4) (x0 x1 x5 x6:AV) (H:Hp):Res:=
 bnd (alenD .string x1) fun t9=>
 bnd (ibin .lss x6 t9) fun t10=>
 cnd t10
  (j122_2 x0 x1 x5 x6 H)
  (j122_1 x5 H)
theorem e122_l1 (H0:Hp) (x0 x1 x5 x6:AV) (H:Hp):j122_l1 H0 x0 x1 x5 x6 H=b122_l1 (j122_1 H0) (j122_2 H0) x0 x1 x5 x6 H:=(LPL_eqm (C:=cfg) [4,5,6] (tame_block 0 (k122_1_tame H0)) _ _).trans (by kernel_rfl)
theorem m122_l1 {j122_1 dj122_1:A1} (hj122_1:L1 j122_1 dj122_1) {j122_2 dj122_2:A4} (hj122_2:L4 j122_2 dj122_2):L4 (b122_l1 j122_1 j122_2) (b122_l1 dj122_1 dj122_2):=fun _ _ _ _ _=>
 bR fun _=>bR fun _=>bK (hj122_2 _ _ _ _ _) (hj122_1 _ _)
def rj122_1:A1:=b122_1
theorem sj122_1 (H0:Hp):L1 (rj122_1) (j122_1 H0):=fun _ _=>le_eq (m122_1 _ _) (e122_1 H0 _ _)
def rj122_3 (j122_l1:A4):A4:=b122_3 j122_l1
theorem sj122_3 (H0:Hp) {yj122_l1:A4} (hj122_l1:L4 yj122_l1 (j122_l1 H0)):L4 (rj122_3 yj122_l1) (j122_3 H0):=fun _ _ _ _ _=>le_eq (m122_3 hj122_l1 _ _ _ _ _) (e122_3 H0 _ _ _ _ _)
def rj122_2 (j122_l1:A4):A4:=b122_2 (rj122_3 j122_l1)
theorem sj122_2 (H0:Hp) {yj122_l1:A4} (hj122_l1:L4 yj122_l1 (j122_l1 H0)):L4 (rj122_2 yj122_l1) (j122_2 H0):=fun _ _ _ _ _=>le_eq (m122_2 (sj122_3 H0 hj122_l1) _ _ _ _ _) (e122_2 H0 _ _ _ _ _)
def rj122_l1 (n:Nat):A4:=@Nat.rec (fun _=>A4) (fun _ _ _ _ _=>none) (fun _ j122_l1=>b122_l1 (rj122_1) (rj122_2 j122_l1)) n
theorem sj122_l1 (H0:Hp) (n:Nat):L4 (rj122_l1 n) (j122_l1 H0):=by
 induction n with
 | zero=>exact fun _ _ _ _ _=>le_none _
 | succ n hj122_l1=>exact fun _ _ _ _ _=>le_eq (m122_l1 (sj122_1 H0) (sj122_2 H0 hj122_l1) _ _ _ _ _) (e122_l1 H0 _ _ _ _ _)
def bc122 (j122_l1:A4) (p0 p1:AV) (H:Hp):Res:=
 j122_l1 p0 p1 .nils (.int .i64 0) H
theorem ec122 (p0 p1:AV) (H:Hp):c122 p0 p1 H=bc122 (j122_l1 H) p0 p1 H:=(callw_cxm (C:=cfg) (fn:=Tryz.f122) (c:=bodyOf Tryz.f122) (n:=23) [4,5,6] Tryz.func122 (by kernel_rfl) (by kernel_rfl) [p0,p1] (by kernel_rfl) H).trans (by kernel_rfl)
theorem mc122 {j122_l1 dj122_l1:A4} (hj122_l1:L4 j122_l1 dj122_l1):L2 (bc122 j122_l1) (bc122 dj122_l1):=fun _ _ _=>
 hj122_l1 _ _ _ _ _
def rc122:A2:=fun p0 p1 H=>bc122 (rj122_l1 100000) p0 p1 H
theorem sc122:L2 rc122 c122:=fun _ _ H=>le_eq (mc122 (sj122_l1 H 100000) _ _ _) (ec122 _ _ _)

def c16 (H:Hp):Res:=callw cfg 16 [] H
def j16_1 (H0:Hp) (x0 x1 x2 x3:AV) (H:Hp):Res:=CXf 16 55 (sub (bodyOf Tryz.f16) [1,1,1,1]) (retL cfg 55 16 Tryz.f16 H0) [(0,x0),(1,x1),(2,x2),(3,x3)] H
def k16_1 (H0:Hp):KL:=seqL (fun k al H=>CXf 16 55 (sub (bodyOf Tryz.f16) [1,1,1,1]) k (trimL (cfg.keep 16) (sub (bodyOf Tryz.f16) [1,1,1,1]) al) H) (retL cfg 55 16 Tryz.f16 H0)
theorem k16_1_tame (H0:Hp):Tame 55 (k16_1 H0):=tame_seq (C:=cfg) (kp:=cfg.keep 16) (sub (bodyOf Tryz.f16) [1,1,1,1]) (tame_ret 16 Tryz.f16 H0)
def j16_3 (H0:Hp) (x0 x1 x2 x3 x4:AV) (H:Hp):Res:=CXf 16 55 (sub (bodyOf Tryz.f16) [1,1,1,0,1,0,0,1,1]) (seqL (fun k al H=>LPf 16 55 (sub (bodyOf Tryz.f16) [1,1,1,0,1,0,0]) k (trimL (cfg.keep 16) (sub (bodyOf Tryz.f16) [1,1,1,0,1,0,0]) al) H) (blockL 0 (k16_1 H0))) [(0,x0),(1,x1),(2,x2),(3,x3),(4,x4)] H
def k16_2 (H0:Hp):KL:=seqL (fun k al H=>CXf 16 55 (sub (bodyOf Tryz.f16) [1,1,1,0,1,0,0,1,1]) k (trimL (cfg.keep 16) (sub (bodyOf Tryz.f16) [1,1,1,0,1,0,0,1,1]) al) H) (seqL (fun k al H=>LPf 16 55 (sub (bodyOf Tryz.f16) [1,1,1,0,1,0,0]) k (trimL (cfg.keep 16) (sub (bodyOf Tryz.f16) [1,1,1,0,1,0,0]) al) H) (blockL 0 (k16_1 H0)))
def j16_5 (H0:Hp) (x0 x1 x2 x3 x4 x5 x6:AV) (H:Hp):Res:=CXf 16 55 (sub (bodyOf Tryz.f16) [1,1,1,0,1,0,0,1,0,0,1,1,1]) (blockL 1 (k16_2 H0)) [(0,x0),(1,x1),(2,x2),(3,x3),(4,x4),(5,x5),(6,x6)] H
def j16_4 (H0:Hp) (x0 x1 x2 x3 x4 x5 x6:AV) (H:Hp):Res:=CXf 16 55 (sub (bodyOf Tryz.f16) [1,1,1,0,1,0,0,1,0,0,1,1]) (blockL 1 (k16_2 H0)) [(0,x0),(1,x1),(2,x2),(3,x3),(4,x4),(5,x5),(6,x6)] H
def j16_2 (H0:Hp) (x0 x1 x2 x3 x4:AV) (H:Hp):Res:=CXf 16 55 (sub (bodyOf Tryz.f16) [1,1,1,0,1,0,0,1]) (seqL (fun k al H=>LPf 16 55 (sub (bodyOf Tryz.f16) [1,1,1,0,1,0,0]) k (trimL (cfg.keep 16) (sub (bodyOf Tryz.f16) [1,1,1,0,1,0,0]) al) H) (blockL 0 (k16_1 H0))) [(0,x0),(1,x1),(2,x2),(3,x3),(4,x4)] H
def j16_l1 (H0:Hp) (x0 x1 x2 x3 x4:AV) (H:Hp):Res:=LPf 16 55 (sub (bodyOf Tryz.f16) [1,1,1,0,1,0,0]) (blockL 0 (k16_1 H0)) [(0,x0),(1,x1),(2,x2),(3,x3),(4,x4)] H
def b16_1 (x0 x1 x2 x3:AV) (H:Hp):Res:=
 bnd (cvRd x2 H) fun t49=>
 bnd (afield 2 x1) fun t50=>
 bnd (astoreU 1 t50 t49 H) fun r_7=>
 bnd (cvRd x3 r_7.2) fun t52=>
 bnd (afield 3 x1) fun t53=>
 bnd (astoreU 1 t53 t52 r_7.2) fun r_10=>
 bnd (aload true 6 x1 r_10.2) fun t54=>
 bnd (astoreU 6 x0 t54 r_10.2) fun r_12=>
 bnd (aload true 6 x0 r_12.2) fun v0=>
 some (v0,r_12.2)
theorem e16_1 (H0:Hp) (x0 x1 x2 x3:AV) (H:Hp):j16_1 H0 x0 x1 x2 x3 H=b16_1 x0 x1 x2 x3 H:=(CXM_eq [5,6,9,11,14] _ _ _ _).trans (by kernel_rfl)
theorem m16_1:L4 (b16_1) (b16_1):=fun _ _ _ _ _=>
 bR fun _=>bR fun _=>bR fun _=>bR fun _=>bR fun _=>bR fun _=>bR fun _=>bR fun _=>bR fun _=>le_refl _
def b16_3 (j16_l1:A5) (x0 x1 x2 x3 x4:AV) (H:Hp):Res:=
 bnd (ibin .add x4 (.int .i64 1)) fun t11=>
 j16_l1 x0 x1 x2 x3 t11 H
theorem e16_3 (H0:Hp) (x0 x1 x2 x3 x4:AV) (H:Hp):j16_3 H0 x0 x1 x2 x3 x4 H=b16_3 (j16_l1 H0) x0 x1 x2 x3 x4 H:=(CXM_eq [5,6,9,11,14] _ _ _ _).trans (by kernel_rfl)
theorem m16_3 {j16_l1 dj16_l1:A5} (hj16_l1:L5 j16_l1 dj16_l1):L5 (b16_3 j16_l1) (b16_3 dj16_l1):=fun _ _ _ _ _ _=>
 bR fun _=>hj16_l1 _ _ _ _ _ _
def b16_5 (j16_3:A5) (x0 x1 x2 x3 x4 x5 x6:AV) (H:Hp):Res:=
 bnd (afield 1 x1) fun t34=>
 bnd (aload false 1 t34 H) fun t35=>
 bnd ((setElems 1 [(0,x4)] [(.int .i64 0)]).map (.vs 1 .clip)) fun t37=>
 bnd (aappEL false 1 8 t35 t37 H) fun r38=>
 bnd (afield 1 x1) fun t39=>
 bnd (astoreU 1 t39 r38.1 r38.2) fun r_22=>
 bnd ((setElems 1 [(0,x5)] [(.int .u8 0)]).map (.vs 1 .clip)) fun t42=>
 bnd (aappE 1 1 x2 t42 r_22.2) fun r43=>
 bnd ((setElems 1 [(0,x6)] [(.int .u8 0)]).map (.vs 1 .clip)) fun t46=>
 bnd (aappE 1 1 x3 t46 r43.2) fun r47=>
 j16_3 x0 x1 r43.1 r47.1 x4 r47.2
theorem e16_5 (H0:Hp) (x0 x1 x2 x3 x4 x5 x6:AV) (H:Hp):j16_5 H0 x0 x1 x2 x3 x4 x5 x6 H=b16_5 (j16_3 H0) x0 x1 x2 x3 x4 x5 x6 H:=(CXM_eq [5,6,9,11,14] _ _ _ _).trans (by kernel_rfl)
theorem m16_5 {j16_3 dj16_3:A5} (hj16_3:L5 j16_3 dj16_3):L7 (b16_5 j16_3) (b16_5 dj16_3):=fun _ _ _ _ _ _ _ _=>
 bR fun _=>bR fun _=>bR fun _=>bR fun _=>bR fun _=>bR fun _=>bR fun _=>bR fun _=>bR fun _=>bR fun _=>hj16_3 _ _ _ _ _ _
def b16_4 (j16_5:A7) (x0 x1 x2 x3 x4 x5 x6:AV) (H:Hp):Res:=
 bnd (ibin .geq x4 (.int .i64 97)) fun t26=>
 bnd (gdv t26 true (.tuple []) (some x4)) fun t28=>
 bnd (gdv t26 true (.tuple []) (ibin .leq t28 (.int .i64 122))) fun t29=>
 bnd (apick t26 t29 (.bool false)) fun t30=>
 cnd t30
  (bnd (ibin .sub x4 (.int .i64 32)) fun t32=>
  bnd (cvInt .u8 t32) fun t33=>
  j16_5 x0 x1 x2 x3 x4 x5 t33 H)
  (j16_5 x0 x1 x2 x3 x4 x5 x6 H)
theorem e16_4 (H0:Hp) (x0 x1 x2 x3 x4 x5 x6:AV) (H:Hp):j16_4 H0 x0 x1 x2 x3 x4 x5 x6 H=b16_4 (j16_5 H0) x0 x1 x2 x3 x4 x5 x6 H:=(CXM_eq [5,6,9,11,14] _ _ _ _).trans (by kernel_rfl)
theorem m16_4 {j16_5 dj16_5:A7} (hj16_5:L7 j16_5 dj16_5):L7 (b16_4 j16_5) (b16_4 dj16_5):=fun _ _ _ _ _ _ _ _=>
 bR fun _=>bR fun _=>bR fun _=>bR fun _=>bK (bR fun _=>bR fun _=>hj16_5 _ _ _ _ _ _ _ _) (hj16_5 _ _ _ _ _ _ _ _)
def b16_2 (j16_4:A7) (x0 x1 x2 x3 x4:AV) (H:Hp):Res:=
 bnd (cvInt .u8 x4) fun t13=>
 bnd (cvInt .u8 x4) fun t15=>
 bnd (ibin .geq x4 (.int .i64 65)) fun t17=>
 bnd (gdv t17 true (.tuple []) (some x4)) fun t19=>
 bnd (gdv t17 true (.tuple []) (ibin .leq t19 (.int .i64 90))) fun t20=>
 bnd (apick t17 t20 (.bool false)) fun t21=>
 cnd t21
  (bnd (ibin .add x4 (.int .i64 32)) fun t23=>
  bnd (cvInt .u8 t23) fun t24=>
  j16_4 x0 x1 x2 x3 x4 t24 t15 H)
  (j16_4 x0 x1 x2 x3 x4 t13 t15 H)
theorem e16_2 (H0:Hp) (x0 x1 x2 x3 x4:AV) (H:Hp):j16_2 H0 x0 x1 x2 x3 x4 H=b16_2 (j16_4 H0) x0 x1 x2 x3 x4 H:=(CXM_eq [5,6,9,11,14] _ _ _ _).trans (by kernel_rfl)
theorem m16_2 {j16_4 dj16_4:A7} (hj16_4:L7 j16_4 dj16_4):L5 (b16_2 j16_4) (b16_2 dj16_4):=fun _ _ _ _ _ _=>
 bR fun _=>bR fun _=>bR fun _=>bR fun _=>bR fun _=>bR fun _=>bK (bR fun _=>bR fun _=>hj16_4 _ _ _ _ _ _ _ _) (hj16_4 _ _ _ _ _ _ _ _)
def b16_l1 (j16_1:A4) (j16_2:A5) (x0 x1 x2 x3 x4:AV) (H:Hp):Res:=
 bnd (ibin .lss x4 (.int .i64 256)) fun t9=>
 cnd t9
  (j16_2 x0 x1 x2 x3 x4 H)
  (j16_1 x0 x1 x2 x3 H)
theorem e16_l1 (H0:Hp) (x0 x1 x2 x3 x4:AV) (H:Hp):j16_l1 H0 x0 x1 x2 x3 x4 H=b16_l1 (j16_1 H0) (j16_2 H0) x0 x1 x2 x3 x4 H:=(LPL_eqm (C:=cfg) [5,6,9,11,14] (tame_block 0 (k16_1_tame H0)) _ _).trans (by kernel_rfl)
theorem m16_l1 {j16_1 dj16_1:A4} (hj16_1:L4 j16_1 dj16_1) {j16_2 dj16_2:A5} (hj16_2:L5 j16_2 dj16_2):L5 (b16_l1 j16_1 j16_2) (b16_l1 dj16_1 dj16_2):=fun _ _ _ _ _ _=>
 bR fun _=>bK (hj16_2 _ _ _ _ _ _) (hj16_1 _ _ _ _ _)
def rj16_1:A4:=b16_1
theorem sj16_1 (H0:Hp):L4 (rj16_1) (j16_1 H0):=fun _ _ _ _ _=>le_eq (m16_1 _ _ _ _ _) (e16_1 H0 _ _ _ _ _)
def rj16_3 (j16_l1:A5):A5:=b16_3 j16_l1
theorem sj16_3 (H0:Hp) {yj16_l1:A5} (hj16_l1:L5 yj16_l1 (j16_l1 H0)):L5 (rj16_3 yj16_l1) (j16_3 H0):=fun _ _ _ _ _ _=>le_eq (m16_3 hj16_l1 _ _ _ _ _ _) (e16_3 H0 _ _ _ _ _ _)
def rj16_5 (j16_l1:A5):A7:=b16_5 (rj16_3 j16_l1)
theorem sj16_5 (H0:Hp) {yj16_l1:A5} (hj16_l1:L5 yj16_l1 (j16_l1 H0)):L7 (rj16_5 yj16_l1) (j16_5 H0):=fun _ _ _ _ _ _ _ _=>le_eq (m16_5 (sj16_3 H0 hj16_l1) _ _ _ _ _ _ _ _) (e16_5 H0 _ _ _ _ _ _ _ _)
def rj16_4 (j16_l1:A5):A7:=b16_4 (rj16_5 j16_l1)
theorem sj16_4 (H0:Hp) {yj16_l1:A5} (hj16_l1:L5 yj16_l1 (j16_l1 H0)):L7 (rj16_4 yj16_l1) (j16_4 H0):=fun _ _ _ _ _ _ _ _=>le_eq (m16_4 (sj16_5 H0 hj16_l1) _ _ _ _ _ _ _ _) (e16_4 H0 _ _ _ _ _ _ _ _)
def rj16_2 (j16_l1:A5):A5:=b16_2 (rj16_4 j16_l1)
theorem sj16_2 (H0:Hp) {yj16_l1:A5} (hj16_l1:L5 yj16_l1 (j16_l1 H0)):L5 (rj16_2 yj16_l1) (j16_2 H0):=fun _ _ _ _ _ _=>le_eq (m16_2 (sj16_4 H0 hj16_l1) _ _ _ _ _ _) (e16_2 H0 _ _ _ _ _ _)
def rj16_l1 (n:Nat):A5:=@Nat.rec (fun _=>A5) (fun _ _ _ _ _ _=>none) (fun _ j16_l1=>b16_l1 (rj16_1) (rj16_2 j16_l1)) n
theorem sj16_l1 (H0:Hp) (n:Nat):L5 (rj16_l1 n) (j16_l1 H0):=by
 induction n with
 | zero=>exact fun _ _ _ _ _ _=>le_none _
 | succ n hj16_l1=>exact fun _ _ _ _ _ _=>le_eq (m16_l1 (sj16_1 H0) (sj16_2 H0 hj16_l1) _ _ _ _ _ _) (e16_l1 H0 _ _ _ _ _ _)
def bc16 (j16_l1:A5) (H:Hp):Res:=
 bnd (some ((.ptr H.length 0),H++[.cells [(.str []),.nils,(.str []),(.str []),.nils,.nils]])) fun r0=>
 bnd ((afill [(0,1,(.str [112,111,115,105,120]))] [(.str []),.nils,(.str []),(.str []),.nils,.nils]).map .agg) fun t7=>
 bnd (some ((.ptr r0.2.length 0),r0.2++[.cells [(.str []),.nils,(.str []),(.str []),.nils,.nils]])) fun r1=>
 bnd (astoreU 6 r1.1 t7 r1.2) fun r_4=>
 j16_l1 r0.1 r1.1 .nils .nils (.int .i64 0) r_4.2
theorem ec16 (H:Hp):c16 H=bc16 (j16_l1 H) H:=(callw_cxm (C:=cfg) (fn:=Tryz.f16) (c:=bodyOf Tryz.f16) (n:=55) [5,6,9,11,14] Tryz.func16 (by kernel_rfl) (by kernel_rfl) [] (by kernel_rfl) H).trans (by kernel_rfl)
theorem mc16 {j16_l1 dj16_l1:A5} (hj16_l1:L5 j16_l1 dj16_l1):L0 (bc16 j16_l1) (bc16 dj16_l1):=fun _=>
 bR fun _=>bR fun _=>bR fun _=>bR fun _=>hj16_l1 _ _ _ _ _ _
def rc16:A0:=fun H=>bc16 (rj16_l1 100000) H
theorem sc16:L0 rc16 c16:=fun H=>le_eq (mc16 (sj16_l1 H 100000) _) (ec16 _)
def q16:A0:=fun H=>flatC (callw cfg 16) [] H
def rq16:A0:=fun H=>flatC (ofL0 (rc16)) [] H
theorem sq16:L0 rq16 q16:=fun _=>flat_le (ofL0_le (sc16)) _ _

def c143 (p0:AV) (H:Hp):Res:=callw cfg 143 [p0] H
def j143_2 (H0:Hp) (H:Hp):Res:=CXf 143 59 (sub (bodyOf Tryz.f143) [1,1,1]) (retL cfg 59 143 Tryz.f143 H0) [] H
def k143_1 (H0:Hp):KL:=seqL (fun k al H=>CXf 143 59 (sub (bodyOf Tryz.f143) [1,1,1]) k (trimL (cfg.keep 143) (sub (bodyOf Tryz.f143) [1,1,1]) al) H) (retL cfg 59 143 Tryz.f143 H0)
theorem k143_1_tame (H0:Hp):Tame 59 (k143_1 H0):=tame_seq (C:=cfg) (kp:=cfg.keep 143) (sub (bodyOf Tryz.f143) [1,1,1]) (tame_ret 143 Tryz.f143 H0)
def j143_4 (H0:Hp) (x0 x3:AV) (H:Hp):Res:=CXf 143 59 (sub (bodyOf Tryz.f143) [1,1,0,1,0,0,1,1]) (seqL (fun k al H=>LPf 143 59 (sub (bodyOf Tryz.f143) [1,1,0,1,0,0]) k (trimL (cfg.keep 143) (sub (bodyOf Tryz.f143) [1,1,0,1,0,0]) al) H) (blockL 0 (k143_1 H0))) [(0,x0),(3,x3)] H
def j143_3 (H0:Hp) (x0 x3:AV) (H:Hp):Res:=CXf 143 59 (sub (bodyOf Tryz.f143) [1,1,0,1,0,0,1]) (seqL (fun k al H=>LPf 143 59 (sub (bodyOf Tryz.f143) [1,1,0,1,0,0]) k (trimL (cfg.keep 143) (sub (bodyOf Tryz.f143) [1,1,0,1,0,0]) al) H) (blockL 0 (k143_1 H0))) [(0,x0),(3,x3)] H
def j143_l1 (H0:Hp) (x0 x3:AV) (H:Hp):Res:=LPf 143 59 (sub (bodyOf Tryz.f143) [1,1,0,1,0,0]) (blockL 0 (k143_1 H0)) [(0,x0),(3,x3)] H
def j143_1 (H0:Hp) (x0:AV) (H:Hp):Res:=CXf 143 59 (sub (bodyOf Tryz.f143) [1,1]) (retL cfg 59 143 Tryz.f143 H0) [(0,x0)] H
def b143_2 (H:Hp):Res:=
 some ((.bool true),H)
theorem e143_2 (H0:Hp) (H:Hp):j143_2 H0 H=b143_2 H:=(CXM_eq [3,5,6,9] _ _ _ _).trans (by kernel_rfl)
theorem m143_2:L0 (b143_2) (b143_2):=fun _=>
 le_refl _
def b143_4 (j143_l1:A2) (x0 x3:AV) (H:Hp):Res:=
 bnd (ibin .add x3 (.int .i64 1)) fun t28=>
 j143_l1 x0 t28 H
theorem e143_4 (H0:Hp) (x0 x3:AV) (H:Hp):j143_4 H0 x0 x3 H=b143_4 (j143_l1 H0) x0 x3 H:=(CXM_eq [3,5,6,9] _ _ _ _).trans (by kernel_rfl)
theorem m143_4 {j143_l1 dj143_l1:A2} (hj143_l1:L2 j143_l1 dj143_l1):L2 (b143_4 j143_l1) (b143_4 dj143_l1):=fun _ _ _=>
 bR fun _=>hj143_l1 _ _ _
def b143_3 (j143_4:A2) (x0 x3:AV) (H:Hp):Res:=
 bnd (aindexStr x0 x3) fun t31=>
 bnd (ibin .geq t31 (.int .u8 97)) fun t33=>
 bnd (gdv t33 true (.tuple []) (some t31)) fun t35=>
 bnd (gdv t33 true (.tuple []) (ibin .leq t35 (.int .u8 122))) fun t36=>
 bnd (apick t33 t36 (.bool false)) fun t37=>
 bnd (gdv t37 false (.tuple []) (some t31)) fun t39=>
 bnd (gdv t37 false (.tuple []) (ibin .geq t39 (.int .u8 65))) fun t40=>
 bnd (gdv t37 false (.tuple []) (some t40)) fun t41=>
 bnd (gdv t41 true (.tuple []) (some t31)) fun t42=>
 bnd (gdv t41 true (.tuple []) (ibin .leq t42 (.int .u8 90))) fun t43=>
 bnd (gdv t37 false (.tuple []) (apick t41 t43 (.bool false))) fun t44=>
 bnd (apick t37 (.bool true) t44) fun t45=>
 bnd (gdv t45 false (.tuple []) (some t31)) fun t47=>
 bnd (gdv t45 false (.tuple []) (ibin .geq t47 (.int .u8 48))) fun t48=>
 bnd (gdv t45 false (.tuple []) (some t48)) fun t49=>
 bnd (gdv t49 true (.tuple []) (some t31)) fun t50=>
 bnd (gdv t49 true (.tuple []) (ibin .leq t50 (.int .u8 57))) fun t51=>
 bnd (gdv t45 false (.tuple []) (apick t49 t51 (.bool false))) fun t52=>
 bnd (apick t45 (.bool true) t52) fun t53=>
 bnd (gdv t53 false (.tuple []) (some t31)) fun t55=>
 bnd (gdv t53 false (.tuple []) (ibin .eql t55 (.int .u8 95))) fun t56=>
 bnd (apick t53 (.bool true) t56) fun t57=>
 bnd (aun .not t57) fun t58=>
 cnd t58
  (some ((.bool false),H))
  (j143_4 x0 x3 H)
theorem e143_3 (H0:Hp) (x0 x3:AV) (H:Hp):j143_3 H0 x0 x3 H=b143_3 (j143_4 H0) x0 x3 H:=(CXM_eq [3,5,6,9] _ _ _ _).trans (by kernel_rfl)
theorem m143_3 {j143_4 dj143_4:A2} (hj143_4:L2 j143_4 dj143_4):L2 (b143_3 j143_4) (b143_3 dj143_4):=fun _ _ _=>
 bR fun _=>bR fun _=>bR fun _=>bR fun _=>bR fun _=>bR fun _=>bR fun _=>bR fun _=>bR fun _=>bR fun _=>bR fun _=>bR fun _=>bR fun _=>bR fun _=>bR fun _=>bR fun _=>bR fun _=>bR fun _=>bR fun _=>bR fun _=>bR fun _=>bR fun _=>bR fun _=>bK (le_refl _) (hj143_4 _ _ _)
def b143_l1 (j143_2:A0) (j143_3:A2) (x0 x3:AV) (H:Hp):Res:=
 bnd (alenD .string x0) fun t25=>
 bnd (ibin .lss x3 t25) fun t26=>
 cnd t26
  (j143_3 x0 x3 H)
  (j143_2 H)
theorem e143_l1 (H0:Hp) (x0 x3:AV) (H:Hp):j143_l1 H0 x0 x3 H=b143_l1 (j143_2 H0) (j143_3 H0) x0 x3 H:=(LPL_eqm (C:=cfg) [3,5,6,9] (tame_block 0 (k143_1_tame H0)) _ _).trans (by kernel_rfl)
theorem m143_l1 {j143_2 dj143_2:A0} (hj143_2:L0 j143_2 dj143_2) {j143_3 dj143_3:A2} (hj143_3:L2 j143_3 dj143_3):L2 (b143_l1 j143_2 j143_3) (b143_l1 dj143_2 dj143_3):=fun _ _ _=>
 bR fun _=>bR fun _=>bK (hj143_3 _ _ _) (hj143_2 _)
def b143_1 (j143_l1:A2) (x0:AV) (H:Hp):Res:=
 j143_l1 x0 (.int .i64 0) H
theorem e143_1 (H0:Hp) (x0:AV) (H:Hp):j143_1 H0 x0 H=b143_1 (j143_l1 H0) x0 H:=(CXM_eq [3,5,6,9] _ _ _ _).trans (by kernel_rfl)
theorem m143_1 {j143_l1 dj143_l1:A2} (hj143_l1:L2 j143_l1 dj143_l1):L1 (b143_1 j143_l1) (b143_1 dj143_l1):=fun _ _=>
 hj143_l1 _ _ _
def rj143_2:A0:=b143_2
theorem sj143_2 (H0:Hp):L0 (rj143_2) (j143_2 H0):=fun _=>le_eq (m143_2 _) (e143_2 H0 _)
def rj143_4 (j143_l1:A2):A2:=b143_4 j143_l1
theorem sj143_4 (H0:Hp) {yj143_l1:A2} (hj143_l1:L2 yj143_l1 (j143_l1 H0)):L2 (rj143_4 yj143_l1) (j143_4 H0):=fun _ _ _=>le_eq (m143_4 hj143_l1 _ _ _) (e143_4 H0 _ _ _)
def rj143_3 (j143_l1:A2):A2:=b143_3 (rj143_4 j143_l1)
theorem sj143_3 (H0:Hp) {yj143_l1:A2} (hj143_l1:L2 yj143_l1 (j143_l1 H0)):L2 (rj143_3 yj143_l1) (j143_3 H0):=fun _ _ _=>le_eq (m143_3 (sj143_4 H0 hj143_l1) _ _ _) (e143_3 H0 _ _ _)
def rj143_l1 (n:Nat):A2:=@Nat.rec (fun _=>A2) (fun _ _ _=>none) (fun _ j143_l1=>b143_l1 (rj143_2) (rj143_3 j143_l1)) n
theorem sj143_l1 (H0:Hp) (n:Nat):L2 (rj143_l1 n) (j143_l1 H0):=by
 induction n with
 | zero=>exact fun _ _ _=>le_none _
 | succ n hj143_l1=>exact fun _ _ _=>le_eq (m143_l1 (sj143_2 H0) (sj143_3 H0 hj143_l1) _ _ _) (e143_l1 H0 _ _ _)
def rj143_1:A1:=b143_1 (rj143_l1 100000)
theorem sj143_1 (H0:Hp):L1 (rj143_1) (j143_1 H0):=fun _ _=>le_eq (m143_1 (sj143_l1 H0 100000) _ _) (e143_1 H0 _ _)
def bc143 (j143_1:A1) (p0:AV) (H:Hp):Res:=
 bnd (alenD .string p0) fun t6=>
 bnd (ibin .eql t6 (.int .i64 0)) fun t7=>
 bnd (gdv t7 false (.tuple []) (some p0)) fun t9=>
 bnd (gdv t7 false (.tuple []) (alenD .string t9)) fun t10=>
 bnd (gdv t7 false (.tuple []) (ibin .gtr t10 (.int .i64 32))) fun t11=>
 bnd (apick t7 (.bool true) t11) fun t12=>
 bnd (gdv t12 false (.tuple []) (some p0)) fun t14=>
 bnd (gdv t12 false (.tuple []) (aindexStr t14 (.int .i64 0))) fun t15=>
 bnd (gdv t12 false (.tuple []) (ibin .geq t15 (.int .u8 48))) fun t16=>
 bnd (gdv t12 false (.tuple []) (some t16)) fun t17=>
 bnd (gdv t17 true (.tuple []) (some p0)) fun t18=>
 bnd (gdv t17 true (.tuple []) (aindexStr t18 (.int .i64 0))) fun t19=>
 bnd (gdv t17 true (.tuple []) (ibin .leq t19 (.int .u8 57))) fun t20=>
 bnd (gdv t12 false (.tuple []) (apick t17 t20 (.bool false))) fun t21=>
 bnd (apick t12 (.bool true) t21) fun t22=>
 cnd t22
  (some ((.bool false),H))
  (j143_1 p0 H)
theorem ec143 (p0:AV) (H:Hp):c143 p0 H=bc143 (j143_1 H) p0 H:=(callw_cxm (C:=cfg) (fn:=Tryz.f143) (c:=bodyOf Tryz.f143) (n:=59) [3,5,6,9] Tryz.func143 (by kernel_rfl) (by kernel_rfl) [p0] (by kernel_rfl) H).trans (by kernel_rfl)
theorem mc143 {j143_1 dj143_1:A1} (hj143_1:L1 j143_1 dj143_1):L1 (bc143 j143_1) (bc143 dj143_1):=fun _ _=>
 bR fun _=>bR fun _=>bR fun _=>bR fun _=>bR fun _=>bR fun _=>bR fun _=>bR fun _=>bR fun _=>bR fun _=>bR fun _=>bR fun _=>bR fun _=>bR fun _=>bR fun _=>bK (le_refl _) (hj143_1 _ _)
def rc143:A1:=fun p0 H=>bc143 (rj143_1) p0 H
theorem sc143:L1 rc143 c143:=fun _ H=>le_eq (mc143 (sj143_1 H) _ _) (ec143 _ _)

def c144 (p0:AV) (H:Hp):Res:=callw cfg 144 [p0] H
def bc144 (p0:AV) (H:Hp):Res:=
 bnd (ibin .geq p0 (.int .i64 0)) fun t4=>
 bnd (gdv t4 true (.tuple []) (some p0)) fun t6=>
 bnd (gdv t4 true (.tuple []) (ibin .leq t6 (.int .i64 65535))) fun t7=>
 bnd (apick t4 t7 (.bool false)) fun t8=>
 some (t8,H)
theorem ec144 (p0:AV) (H:Hp):c144 p0 H=bc144 p0 H:=(callw_cxm (C:=cfg) (fn:=Tryz.f144) (c:=bodyOf Tryz.f144) (n:=9) [] Tryz.func144 (by kernel_rfl) (by kernel_rfl) [p0] (by kernel_rfl) H).trans (by kernel_rfl)
theorem mc144:L1 (bc144) (bc144):=fun _ _=>
 bR fun _=>bR fun _=>bR fun _=>bR fun _=>le_refl _
def rc144:A1:=fun p0 H=>bc144 p0 H
theorem sc144:L1 rc144 c144:=fun _ H=>le_eq (mc144 _ _) (ec144 _ _)

def c145 (p0:AV) (H:Hp):Res:=callw cfg 145 [p0] H
def j145_2 (H0:Hp) (H:Hp):Res:=CXf 145 37 (sub (bodyOf Tryz.f145) [1,1,1]) (retL cfg 37 145 Tryz.f145 H0) [] H
def k145_1 (H0:Hp):KL:=seqL (fun k al H=>CXf 145 37 (sub (bodyOf Tryz.f145) [1,1,1]) k (trimL (cfg.keep 145) (sub (bodyOf Tryz.f145) [1,1,1]) al) H) (retL cfg 37 145 Tryz.f145 H0)
theorem k145_1_tame (H0:Hp):Tame 37 (k145_1 H0):=tame_seq (C:=cfg) (kp:=cfg.keep 145) (sub (bodyOf Tryz.f145) [1,1,1]) (tame_ret 145 Tryz.f145 H0)
def j145_4 (H0:Hp) (x0 x3:AV) (H:Hp):Res:=CXf 145 37 (sub (bodyOf Tryz.f145) [1,1,0,1,0,0,1,1]) (seqL (fun k al H=>LPf 145 37 (sub (bodyOf Tryz.f145) [1,1,0,1,0,0]) k (trimL (cfg.keep 145) (sub (bodyOf Tryz.f145) [1,1,0,1,0,0]) al) H) (blockL 0 (k145_1 H0))) [(0,x0),(3,x3)] H
def k145_2 (H0:Hp):KL:=seqL (fun k al H=>CXf 145 37 (sub (bodyOf Tryz.f145) [1,1,0,1,0,0,1,1]) k (trimL (cfg.keep 145) (sub (bodyOf Tryz.f145) [1,1,0,1,0,0,1,1]) al) H) (seqL (fun k al H=>LPf 145 37 (sub (bodyOf Tryz.f145) [1,1,0,1,0,0]) k (trimL (cfg.keep 145) (sub (bodyOf Tryz.f145) [1,1,0,1,0,0]) al) H) (blockL 0 (k145_1 H0)))
theorem k145_2_tame (H0:Hp):Tame 37 (k145_2 H0):=tame_seq (C:=cfg) (kp:=cfg.keep 145) (sub (bodyOf Tryz.f145) [1,1,0,1,0,0,1,1]) (tame_loop (C:=cfg) (kp:=cfg.keep 145) (sub (bodyOf Tryz.f145) [1,1,0,1,0,0]) (tame_block 0 (k145_1_tame H0)))
def j145_7 (H0:Hp) (x0 x3 x4:AV) (H:Hp):Res:=CXf 145 37 (sub (bodyOf Tryz.f145) [1,1,0,1,0,0,1,0,0,1,1,0,0,1,1]) (seqL (fun k al H=>LPf 145 37 (sub (bodyOf Tryz.f145) [1,1,0,1,0,0,1,0,0,1,1,0,0]) k (trimL (cfg.keep 145) (sub (bodyOf Tryz.f145) [1,1,0,1,0,0,1,0,0,1,1,0,0]) al) H) (blockL 2 (blockL 1 (k145_2 H0)))) [(0,x0),(3,x3),(4,x4)] H
def j145_6 (H0:Hp) (x0 x3 x4:AV) (H:Hp):Res:=CXf 145 37 (sub (bodyOf Tryz.f145) [1,1,0,1,0,0,1,0,0,1,1,0,0,1]) (seqL (fun k al H=>LPf 145 37 (sub (bodyOf Tryz.f145) [1,1,0,1,0,0,1,0,0,1,1,0,0]) k (trimL (cfg.keep 145) (sub (bodyOf Tryz.f145) [1,1,0,1,0,0,1,0,0,1,1,0,0]) al) H) (blockL 2 (blockL 1 (k145_2 H0)))) [(0,x0),(3,x3),(4,x4)] H
def j145_l2 (H0:Hp) (x0 x3 x4:AV) (H:Hp):Res:=LPf 145 37 (sub (bodyOf Tryz.f145) [1,1,0,1,0,0,1,0,0,1,1,0,0]) (blockL 2 (blockL 1 (k145_2 H0))) [(0,x0),(3,x3),(4,x4)] H
def j145_5 (H0:Hp) (x0 x3:AV) (H:Hp):Res:=CXf 145 37 (sub (bodyOf Tryz.f145) [1,1,0,1,0,0,1,0,0,1]) (blockL 1 (k145_2 H0)) [(0,x0),(3,x3)] H
def j145_3 (H0:Hp) (x0 x3:AV) (H:Hp):Res:=CXf 145 37 (sub (bodyOf Tryz.f145) [1,1,0,1,0,0,1]) (seqL (fun k al H=>LPf 145 37 (sub (bodyOf Tryz.f145) [1,1,0,1,0,0]) k (trimL (cfg.keep 145) (sub (bodyOf Tryz.f145) [1,1,0,1,0,0]) al) H) (blockL 0 (k145_1 H0))) [(0,x0),(3,x3)] H
def j145_l1 (H0:Hp) (x0 x3:AV) (H:Hp):Res:=LPf 145 37 (sub (bodyOf Tryz.f145) [1,1,0,1,0,0]) (blockL 0 (k145_1 H0)) [(0,x0),(3,x3)] H
def j145_1 (H0:Hp) (x0:AV) (H:Hp):Res:=CXf 145 37 (sub (bodyOf Tryz.f145) [1,1]) (retL cfg 37 145 Tryz.f145 H0) [(0,x0)] H
def b145_2 (H:Hp):Res:=
 some ((.int .i64 0),H)
theorem e145_2 (H0:Hp) (H:Hp):j145_2 H0 H=b145_2 H:=(CXM_eq [3,5,6,8,10,11,13] _ _ _ _).trans (by kernel_rfl)
theorem m145_2:L0 (b145_2) (b145_2):=fun _=>
 le_refl _
def b145_4 (j145_l1:A2) (x0 x3:AV) (H:Hp):Res:=
 bnd (ibin .add x3 (.int .i64 1)) fun t13=>
 j145_l1 x0 t13 H
theorem e145_4 (H0:Hp) (x0 x3:AV) (H:Hp):j145_4 H0 x0 x3 H=b145_4 (j145_l1 H0) x0 x3 H:=(CXM_eq [3,5,6,8,10,11,13] _ _ _ _).trans (by kernel_rfl)
theorem m145_4 {j145_l1 dj145_l1:A2} (hj145_l1:L2 j145_l1 dj145_l1):L2 (b145_4 j145_l1) (b145_4 dj145_l1):=fun _ _ _=>
 bR fun _=>hj145_l1 _ _ _
def b145_7 (j145_l2:A3) (x0 x3 x4:AV) (H:Hp):Res:=
 bnd (ibin .add x4 (.int .i64 1)) fun t25=>
 j145_l2 x0 x3 t25 H
theorem e145_7 (H0:Hp) (x0 x3 x4:AV) (H:Hp):j145_7 H0 x0 x3 x4 H=b145_7 (j145_l2 H0) x0 x3 x4 H:=(CXM_eq [3,5,6,8,10,11,13] _ _ _ _).trans (by kernel_rfl)
theorem m145_7 {j145_l2 dj145_l2:A3} (hj145_l2:L3 j145_l2 dj145_l2):L3 (b145_7 j145_l2) (b145_7 dj145_l2):=fun _ _ _ _=>
 bR fun _=>hj145_l2 _ _ _ _
def b145_6 (j145_7:A3) (x0 x3 x4:AV) (H:Hp):Res:=
 bnd (aindexS 5 x0 x4) fun t28=>
 bnd (afield 0 t28) fun t29=>
 bnd (aload false 1 t29 H) fun t30=>
 bnd (aindexS 5 x0 x3) fun t33=>
 bnd (afield 0 t33) fun t34=>
 bnd (aload false 1 t34 H) fun t35=>
 bnd (sbin .eql t30 t35) fun t36=>
 cnd t36
  (some ((.int .i64 6),H))
  (j145_7 x0 x3 x4 H)
theorem e145_6 (H0:Hp) (x0 x3 x4:AV) (H:Hp):j145_6 H0 x0 x3 x4 H=b145_6 (j145_7 H0) x0 x3 x4 H:=(CXM_eq [3,5,6,8,10,11,13] _ _ _ _).trans (by kernel_rfl)
theorem m145_6 {j145_7 dj145_7:A3} (hj145_7:L3 j145_7 dj145_7):L3 (b145_6 j145_7) (b145_6 dj145_7):=fun _ _ _ _=>
 bR fun _=>bR fun _=>bR fun _=>bR fun _=>bR fun _=>bR fun _=>bR fun _=>bK (le_refl _) (hj145_7 _ _ _ _)
def b145_l2 (j145_4:A2) (j145_6:A3) (x0 x3 x4:AV) (H:Hp):Res:=
 bnd (ibin .lss x4 x3) fun t23=>
 cnd t23
  (j145_6 x0 x3 x4 H)
  (j145_4 x0 x3 H)
theorem e145_l2 (H0:Hp) (x0 x3 x4:AV) (H:Hp):j145_l2 H0 x0 x3 x4 H=b145_l2 (j145_4 H0) (j145_6 H0) x0 x3 x4 H:=(LPL_eqm (C:=cfg) [3,5,6,8,10,11,13] (tame_block 2 (tame_block 1 (k145_2_tame H0))) _ _).trans (by kernel_rfl)
theorem m145_l2 {j145_4 dj145_4:A2} (hj145_4:L2 j145_4 dj145_4) {j145_6 dj145_6:A3} (hj145_6:L3 j145_6 dj145_6):L3 (b145_l2 j145_4 j145_6) (b145_l2 dj145_4 dj145_6):=fun _ _ _ _=>
 bR fun _=>bK (hj145_6 _ _ _ _) (hj145_4 _ _ _)
def b145_5 (j145_l2:A3) (x0 x3:AV) (H:Hp):Res:=
 j145_l2 x0 x3 (.int .i64 0) H
theorem e145_5 (H0:Hp) (x0 x3:AV) (H:Hp):j145_5 H0 x0 x3 H=b145_5 (j145_l2 H0) x0 x3 H:=(CXM_eq [3,5,6,8,10,11,13] _ _ _ _).trans (by kernel_rfl)
theorem m145_5 {j145_l2 dj145_l2:A3} (hj145_l2:L3 j145_l2 dj145_l2):L2 (b145_5 j145_l2) (b145_5 dj145_l2):=fun _ _ _=>
 hj145_l2 _ _ _ _
def b145_3 (c143:A1) (j145_5:A2) (x0 x3:AV) (H:Hp):Res:=
 bnd (aindexS 5 x0 x3) fun t16=>
 bnd (afield 0 t16) fun t17=>
 bnd (aload false 1 t17 H) fun t18=>
 bnd (c143 t18 H) fun r19=>
 bnd (aun .not r19.1) fun t20=>
 cnd t20
  (some ((.int .i64 4),r19.2))
  (j145_5 x0 x3 r19.2)
theorem e145_3 (H0:Hp) (x0 x3:AV) (H:Hp):j145_3 H0 x0 x3 H=b145_3 c143 (j145_5 H0) x0 x3 H:=(CXM_eq [3,5,6,8,10,11,13] _ _ _ _).trans (by kernel_rfl)
theorem m145_3 {c143 dc143:A1} (hc143:L1 c143 dc143) {j145_5 dj145_5:A2} (hj145_5:L2 j145_5 dj145_5):L2 (b145_3 c143 j145_5) (b145_3 dc143 dj145_5):=fun _ _ _=>
 bR fun _=>bR fun _=>bR fun _=>bC (hc143 _ _) fun _=>bR fun _=>bK (le_refl _) (hj145_5 _ _ _)
def b145_l1 (j145_2:A0) (j145_3:A2) (x0 x3:AV) (H:Hp):Res:=
 bnd (alenD (.slice 197) x0) fun t10=>
 bnd (ibin .lss x3 t10) fun t11=>
 cnd t11
  (j145_3 x0 x3 H)
  (j145_2 H)
theorem e145_l1 (H0:Hp) (x0 x3:AV) (H:Hp):j145_l1 H0 x0 x3 H=b145_l1 (j145_2 H0) (j145_3 H0) x0 x3 H:=(LPL_eqm (C:=cfg) [3,5,6,8,10,11,13] (tame_block 0 (k145_1_tame H0)) _ _).trans (by kernel_rfl)
theorem m145_l1 {j145_2 dj145_2:A0} (hj145_2:L0 j145_2 dj145_2) {j145_3 dj145_3:A2} (hj145_3:L2 j145_3 dj145_3):L2 (b145_l1 j145_2 j145_3) (b145_l1 dj145_2 dj145_3):=fun _ _ _=>
 bR fun _=>bR fun _=>bK (hj145_3 _ _ _) (hj145_2 _)
def b145_1 (j145_l1:A2) (x0:AV) (H:Hp):Res:=
 j145_l1 x0 (.int .i64 0) H
theorem e145_1 (H0:Hp) (x0:AV) (H:Hp):j145_1 H0 x0 H=b145_1 (j145_l1 H0) x0 H:=(CXM_eq [3,5,6,8,10,11,13] _ _ _ _).trans (by kernel_rfl)
theorem m145_1 {j145_l1 dj145_l1:A2} (hj145_l1:L2 j145_l1 dj145_l1):L1 (b145_1 j145_l1) (b145_1 dj145_l1):=fun _ _=>
 hj145_l1 _ _ _
def rj145_2:A0:=b145_2
theorem sj145_2 (H0:Hp):L0 (rj145_2) (j145_2 H0):=fun _=>le_eq (m145_2 _) (e145_2 H0 _)
def rj145_4 (j145_l1:A2):A2:=b145_4 j145_l1
theorem sj145_4 (H0:Hp) {yj145_l1:A2} (hj145_l1:L2 yj145_l1 (j145_l1 H0)):L2 (rj145_4 yj145_l1) (j145_4 H0):=fun _ _ _=>le_eq (m145_4 hj145_l1 _ _ _) (e145_4 H0 _ _ _)
def rj145_7 (j145_l2:A3):A3:=b145_7 j145_l2
theorem sj145_7 (H0:Hp) {yj145_l2:A3} (hj145_l2:L3 yj145_l2 (j145_l2 H0)):L3 (rj145_7 yj145_l2) (j145_7 H0):=fun _ _ _ _=>le_eq (m145_7 hj145_l2 _ _ _ _) (e145_7 H0 _ _ _ _)
def rj145_6 (j145_l2:A3):A3:=b145_6 (rj145_7 j145_l2)
theorem sj145_6 (H0:Hp) {yj145_l2:A3} (hj145_l2:L3 yj145_l2 (j145_l2 H0)):L3 (rj145_6 yj145_l2) (j145_6 H0):=fun _ _ _ _=>le_eq (m145_6 (sj145_7 H0 hj145_l2) _ _ _ _) (e145_6 H0 _ _ _ _)
def rj145_l2 (j145_l1:A2) (n:Nat):A3:=@Nat.rec (fun _=>A3) (fun _ _ _ _=>none) (fun _ j145_l2=>b145_l2 (rj145_4 j145_l1) (rj145_6 j145_l2)) n
theorem sj145_l2 (H0:Hp) {yj145_l1:A2} (hj145_l1:L2 yj145_l1 (j145_l1 H0)) (n:Nat):L3 (rj145_l2 yj145_l1 n) (j145_l2 H0):=by
 induction n with
 | zero=>exact fun _ _ _ _=>le_none _
 | succ n hj145_l2=>exact fun _ _ _ _=>le_eq (m145_l2 (sj145_4 H0 hj145_l1) (sj145_6 H0 hj145_l2) _ _ _ _) (e145_l2 H0 _ _ _ _)
def rj145_5 (j145_l1:A2):A2:=b145_5 (rj145_l2 j145_l1 100000)
theorem sj145_5 (H0:Hp) {yj145_l1:A2} (hj145_l1:L2 yj145_l1 (j145_l1 H0)):L2 (rj145_5 yj145_l1) (j145_5 H0):=fun _ _ _=>le_eq (m145_5 (sj145_l2 H0 hj145_l1 100000) _ _ _) (e145_5 H0 _ _ _)
def rj145_3 (j145_l1:A2):A2:=b145_3 rc143 (rj145_5 j145_l1)
theorem sj145_3 (H0:Hp) {yj145_l1:A2} (hj145_l1:L2 yj145_l1 (j145_l1 H0)):L2 (rj145_3 yj145_l1) (j145_3 H0):=fun _ _ _=>le_eq (m145_3 sc143 (sj145_5 H0 hj145_l1) _ _ _) (e145_3 H0 _ _ _)
def rj145_l1 (n:Nat):A2:=@Nat.rec (fun _=>A2) (fun _ _ _=>none) (fun _ j145_l1=>b145_l1 (rj145_2) (rj145_3 j145_l1)) n
theorem sj145_l1 (H0:Hp) (n:Nat):L2 (rj145_l1 n) (j145_l1 H0):=by
 induction n with
 | zero=>exact fun _ _ _=>le_none _
 | succ n hj145_l1=>exact fun _ _ _=>le_eq (m145_l1 (sj145_2 H0) (sj145_3 H0 hj145_l1) _ _ _) (e145_l1 H0 _ _ _)
def rj145_1:A1:=b145_1 (rj145_l1 100000)
theorem sj145_1 (H0:Hp):L1 (rj145_1) (j145_1 H0):=fun _ _=>le_eq (m145_1 (sj145_l1 H0 100000) _ _) (e145_1 H0 _ _)
def bc145 (j145_1:A1) (p0:AV) (H:Hp):Res:=
 bnd (alenD (.slice 197) p0) fun t6=>
 bnd (ibin .gtr t6 (.int .i64 24)) fun t7=>
 cnd t7
  (some ((.int .i64 3),H))
  (j145_1 p0 H)
theorem ec145 (p0:AV) (H:Hp):c145 p0 H=bc145 (j145_1 H) p0 H:=(callw_cxm (C:=cfg) (fn:=Tryz.f145) (c:=bodyOf Tryz.f145) (n:=37) [3,5,6,8,10,11,13] Tryz.func145 (by kernel_rfl) (by kernel_rfl) [p0] (by kernel_rfl) H).trans (by kernel_rfl)
theorem mc145 {j145_1 dj145_1:A1} (hj145_1:L1 j145_1 dj145_1):L1 (bc145 j145_1) (bc145 dj145_1):=fun _ _=>
 bR fun _=>bR fun _=>bK (le_refl _) (hj145_1 _ _)
def rc145:A1:=fun p0 H=>bc145 (rj145_1) p0 H
theorem sc145:L1 rc145 c145:=fun _ H=>le_eq (mc145 (sj145_1 H) _ _) (ec145 _ _)

def c146 (p0:AV) (H:Hp):Res:=callw cfg 146 [p0] H
def j146_2 (H0:Hp) (H:Hp):Res:=CXf 146 46 (sub (bodyOf Tryz.f146) [1,1,1]) (retL cfg 46 146 Tryz.f146 H0) [] H
def k146_1 (H0:Hp):KL:=seqL (fun k al H=>CXf 146 46 (sub (bodyOf Tryz.f146) [1,1,1]) k (trimL (cfg.keep 146) (sub (bodyOf Tryz.f146) [1,1,1]) al) H) (retL cfg 46 146 Tryz.f146 H0)
theorem k146_1_tame (H0:Hp):Tame 46 (k146_1 H0):=tame_seq (C:=cfg) (kp:=cfg.keep 146) (sub (bodyOf Tryz.f146) [1,1,1]) (tame_ret 146 Tryz.f146 H0)
def j146_4 (H0:Hp) (x0 x3:AV) (H:Hp):Res:=CXf 146 46 (sub (bodyOf Tryz.f146) [1,1,0,1,0,0,1,1]) (seqL (fun k al H=>LPf 146 46 (sub (bodyOf Tryz.f146) [1,1,0,1,0,0]) k (trimL (cfg.keep 146) (sub (bodyOf Tryz.f146) [1,1,0,1,0,0]) al) H) (blockL 0 (k146_1 H0))) [(0,x0),(3,x3)] H
def k146_2 (H0:Hp):KL:=seqL (fun k al H=>CXf 146 46 (sub (bodyOf Tryz.f146) [1,1,0,1,0,0,1,1]) k (trimL (cfg.keep 146) (sub (bodyOf Tryz.f146) [1,1,0,1,0,0,1,1]) al) H) (seqL (fun k al H=>LPf 146 46 (sub (bodyOf Tryz.f146) [1,1,0,1,0,0]) k (trimL (cfg.keep 146) (sub (bodyOf Tryz.f146) [1,1,0,1,0,0]) al) H) (blockL 0 (k146_1 H0)))
theorem k146_2_tame (H0:Hp):Tame 46 (k146_2 H0):=tame_seq (C:=cfg) (kp:=cfg.keep 146) (sub (bodyOf Tryz.f146) [1,1,0,1,0,0,1,1]) (tame_loop (C:=cfg) (kp:=cfg.keep 146) (sub (bodyOf Tryz.f146) [1,1,0,1,0,0]) (tame_block 0 (k146_1_tame H0)))
def j146_7 (H0:Hp) (x0 x3 x4:AV) (H:Hp):Res:=CXf 146 46 (sub (bodyOf Tryz.f146) [1,1,0,1,0,0,1,0,0,1,1,0,0,1,1]) (seqL (fun k al H=>LPf 146 46 (sub (bodyOf Tryz.f146) [1,1,0,1,0,0,1,0,0,1,1,0,0]) k (trimL (cfg.keep 146) (sub (bodyOf Tryz.f146) [1,1,0,1,0,0,1,0,0,1,1,0,0]) al) H) (blockL 2 (blockL 1 (k146_2 H0)))) [(0,x0),(3,x3),(4,x4)] H
def j146_6 (H0:Hp) (x0 x3 x4:AV) (H:Hp):Res:=CXf 146 46 (sub (bodyOf Tryz.f146) [1,1,0,1,0,0,1,0,0,1,1,0,0,1]) (seqL (fun k al H=>LPf 146 46 (sub (bodyOf Tryz.f146) [1,1,0,1,0,0,1,0,0,1,1,0,0]) k (trimL (cfg.keep 146) (sub (bodyOf Tryz.f146) [1,1,0,1,0,0,1,0,0,1,1,0,0]) al) H) (blockL 2 (blockL 1 (k146_2 H0)))) [(0,x0),(3,x3),(4,x4)] H
def j146_l2 (H0:Hp) (x0 x3 x4:AV) (H:Hp):Res:=LPf 146 46 (sub (bodyOf Tryz.f146) [1,1,0,1,0,0,1,0,0,1,1,0,0]) (blockL 2 (blockL 1 (k146_2 H0))) [(0,x0),(3,x3),(4,x4)] H
def j146_5 (H0:Hp) (x0 x3:AV) (H:Hp):Res:=CXf 146 46 (sub (bodyOf Tryz.f146) [1,1,0,1,0,0,1,0,0,1]) (blockL 1 (k146_2 H0)) [(0,x0),(3,x3)] H
def j146_3 (H0:Hp) (x0 x3:AV) (H:Hp):Res:=CXf 146 46 (sub (bodyOf Tryz.f146) [1,1,0,1,0,0,1]) (seqL (fun k al H=>LPf 146 46 (sub (bodyOf Tryz.f146) [1,1,0,1,0,0]) k (trimL (cfg.keep 146) (sub (bodyOf Tryz.f146) [1,1,0,1,0,0]) al) H) (blockL 0 (k146_1 H0))) [(0,x0),(3,x3)] H
def j146_l1 (H0:Hp) (x0 x3:AV) (H:Hp):Res:=LPf 146 46 (sub (bodyOf Tryz.f146) [1,1,0,1,0,0]) (blockL 0 (k146_1 H0)) [(0,x0),(3,x3)] H
def j146_1 (H0:Hp) (x0:AV) (H:Hp):Res:=CXf 146 46 (sub (bodyOf Tryz.f146) [1,1]) (retL cfg 46 146 Tryz.f146 H0) [(0,x0)] H
def b146_2 (H:Hp):Res:=
 some ((.int .i64 0),H)
theorem e146_2 (H0:Hp) (H:Hp):j146_2 H0 H=b146_2 H:=(CXM_eq [3,5,6,8,10,11,13] _ _ _ _).trans (by kernel_rfl)
theorem m146_2:L0 (b146_2) (b146_2):=fun _=>
 le_refl _
def b146_4 (j146_l1:A2) (x0 x3:AV) (H:Hp):Res:=
 bnd (ibin .add x3 (.int .i64 1)) fun t13=>
 j146_l1 x0 t13 H
theorem e146_4 (H0:Hp) (x0 x3:AV) (H:Hp):j146_4 H0 x0 x3 H=b146_4 (j146_l1 H0) x0 x3 H:=(CXM_eq [3,5,6,8,10,11,13] _ _ _ _).trans (by kernel_rfl)
theorem m146_4 {j146_l1 dj146_l1:A2} (hj146_l1:L2 j146_l1 dj146_l1):L2 (b146_4 j146_l1) (b146_4 dj146_l1):=fun _ _ _=>
 bR fun _=>hj146_l1 _ _ _
def b146_7 (j146_l2:A3) (x0 x3 x4:AV) (H:Hp):Res:=
 bnd (ibin .add x4 (.int .i64 1)) fun t34=>
 j146_l2 x0 x3 t34 H
theorem e146_7 (H0:Hp) (x0 x3 x4:AV) (H:Hp):j146_7 H0 x0 x3 x4 H=b146_7 (j146_l2 H0) x0 x3 x4 H:=(CXM_eq [3,5,6,8,10,11,13] _ _ _ _).trans (by kernel_rfl)
theorem m146_7 {j146_l2 dj146_l2:A3} (hj146_l2:L3 j146_l2 dj146_l2):L3 (b146_7 j146_l2) (b146_7 dj146_l2):=fun _ _ _ _=>
 bR fun _=>hj146_l2 _ _ _ _
def b146_6 (j146_7:A3) (x0 x3 x4:AV) (H:Hp):Res:=
 bnd (aindexS 2 x0 x4) fun t37=>
 bnd (afield 0 t37) fun t38=>
 bnd (aload false 1 t38 H) fun t39=>
 bnd (aindexS 2 x0 x3) fun t42=>
 bnd (afield 0 t42) fun t43=>
 bnd (aload false 1 t43 H) fun t44=>
 bnd (sbin .eql t39 t44) fun t45=>
 cnd t45
  (some ((.int .i64 6),H))
  (j146_7 x0 x3 x4 H)
theorem e146_6 (H0:Hp) (x0 x3 x4:AV) (H:Hp):j146_6 H0 x0 x3 x4 H=b146_6 (j146_7 H0) x0 x3 x4 H:=(CXM_eq [3,5,6,8,10,11,13] _ _ _ _).trans (by kernel_rfl)
theorem m146_6 {j146_7 dj146_7:A3} (hj146_7:L3 j146_7 dj146_7):L3 (b146_6 j146_7) (b146_6 dj146_7):=fun _ _ _ _=>
 bR fun _=>bR fun _=>bR fun _=>bR fun _=>bR fun _=>bR fun _=>bR fun _=>bK (le_refl _) (hj146_7 _ _ _ _)
def b146_l2 (j146_4:A2) (j146_6:A3) (x0 x3 x4:AV) (H:Hp):Res:=
 bnd (ibin .lss x4 x3) fun t32=>
 cnd t32
  (j146_6 x0 x3 x4 H)
  (j146_4 x0 x3 H)
theorem e146_l2 (H0:Hp) (x0 x3 x4:AV) (H:Hp):j146_l2 H0 x0 x3 x4 H=b146_l2 (j146_4 H0) (j146_6 H0) x0 x3 x4 H:=(LPL_eqm (C:=cfg) [3,5,6,8,10,11,13] (tame_block 2 (tame_block 1 (k146_2_tame H0))) _ _).trans (by kernel_rfl)
theorem m146_l2 {j146_4 dj146_4:A2} (hj146_4:L2 j146_4 dj146_4) {j146_6 dj146_6:A3} (hj146_6:L3 j146_6 dj146_6):L3 (b146_l2 j146_4 j146_6) (b146_l2 dj146_4 dj146_6):=fun _ _ _ _=>
 bR fun _=>bK (hj146_6 _ _ _ _) (hj146_4 _ _ _)
def b146_5 (j146_l2:A3) (x0 x3:AV) (H:Hp):Res:=
 j146_l2 x0 x3 (.int .i64 0) H
theorem e146_5 (H0:Hp) (x0 x3:AV) (H:Hp):j146_5 H0 x0 x3 H=b146_5 (j146_l2 H0) x0 x3 H:=(CXM_eq [3,5,6,8,10,11,13] _ _ _ _).trans (by kernel_rfl)
theorem m146_5 {j146_l2 dj146_l2:A3} (hj146_l2:L3 j146_l2 dj146_l2):L2 (b146_5 j146_l2) (b146_5 dj146_l2):=fun _ _ _=>
 hj146_l2 _ _ _ _
def b146_3 (c144:A1) (j146_5:A2) (x0 x3:AV) (H:Hp):Res:=
 bnd (aindexS 2 x0 x3) fun t16=>
 bnd (afield 0 t16) fun t17=>
 bnd (aload false 1 t17 H) fun t18=>
 bnd (alenD .string t18) fun t19=>
 bnd (ibin .neq t19 (.int .i64 2)) fun t20=>
 bnd (gdv t20 false (.tuple []) (some x0)) fun t22=>
 bnd (gdv t20 false (.tuple []) (some x3)) fun t23=>
 bnd (gdv t20 false (.tuple []) (aindexS 2 t22 t23)) fun t24=>
 bnd (gdv t20 false (.tuple []) (afield 1 t24)) fun t25=>
 bnd (gdv t20 false (.tuple []) (aload false 1 t25 H)) fun t26=>
 bnd (gdv t20 false ((.tuple []),H) (c144 t26 H)) fun r27=>
 bnd (gdv t20 false (.tuple []) (aun .not r27.1)) fun t28=>
 bnd (apick t20 (.bool true) t28) fun t29=>
 cnd t29
  (some ((.int .i64 2),r27.2))
  (j146_5 x0 x3 r27.2)
theorem e146_3 (H0:Hp) (x0 x3:AV) (H:Hp):j146_3 H0 x0 x3 H=b146_3 c144 (j146_5 H0) x0 x3 H:=(CXM_eq [3,5,6,8,10,11,13] _ _ _ _).trans (by kernel_rfl)
theorem m146_3 {c144 dc144:A1} (hc144:L1 c144 dc144) {j146_5 dj146_5:A2} (hj146_5:L2 j146_5 dj146_5):L2 (b146_3 c144 j146_5) (b146_3 dc144 dj146_5):=fun _ _ _=>
 bR fun _=>bR fun _=>bR fun _=>bR fun _=>bR fun _=>bR fun _=>bR fun _=>bR fun _=>bR fun _=>bR fun _=>bG (hc144 _ _) fun _=>bR fun _=>bR fun _=>bK (le_refl _) (hj146_5 _ _ _)
def b146_l1 (j146_2:A0) (j146_3:A2) (x0 x3:AV) (H:Hp):Res:=
 bnd (alenD (.slice 202) x0) fun t10=>
 bnd (ibin .lss x3 t10) fun t11=>
 cnd t11
  (j146_3 x0 x3 H)
  (j146_2 H)
theorem e146_l1 (H0:Hp) (x0 x3:AV) (H:Hp):j146_l1 H0 x0 x3 H=b146_l1 (j146_2 H0) (j146_3 H0) x0 x3 H:=(LPL_eqm (C:=cfg) [3,5,6,8,10,11,13] (tame_block 0 (k146_1_tame H0)) _ _).trans (by kernel_rfl)
theorem m146_l1 {j146_2 dj146_2:A0} (hj146_2:L0 j146_2 dj146_2) {j146_3 dj146_3:A2} (hj146_3:L2 j146_3 dj146_3):L2 (b146_l1 j146_2 j146_3) (b146_l1 dj146_2 dj146_3):=fun _ _ _=>
 bR fun _=>bR fun _=>bK (hj146_3 _ _ _) (hj146_2 _)
def b146_1 (j146_l1:A2) (x0:AV) (H:Hp):Res:=
 j146_l1 x0 (.int .i64 0) H
theorem e146_1 (H0:Hp) (x0:AV) (H:Hp):j146_1 H0 x0 H=b146_1 (j146_l1 H0) x0 H:=(CXM_eq [3,5,6,8,10,11,13] _ _ _ _).trans (by kernel_rfl)
theorem m146_1 {j146_l1 dj146_l1:A2} (hj146_l1:L2 j146_l1 dj146_l1):L1 (b146_1 j146_l1) (b146_1 dj146_l1):=fun _ _=>
 hj146_l1 _ _ _
def rj146_2:A0:=b146_2
theorem sj146_2 (H0:Hp):L0 (rj146_2) (j146_2 H0):=fun _=>le_eq (m146_2 _) (e146_2 H0 _)
def rj146_4 (j146_l1:A2):A2:=b146_4 j146_l1
theorem sj146_4 (H0:Hp) {yj146_l1:A2} (hj146_l1:L2 yj146_l1 (j146_l1 H0)):L2 (rj146_4 yj146_l1) (j146_4 H0):=fun _ _ _=>le_eq (m146_4 hj146_l1 _ _ _) (e146_4 H0 _ _ _)
def rj146_7 (j146_l2:A3):A3:=b146_7 j146_l2
theorem sj146_7 (H0:Hp) {yj146_l2:A3} (hj146_l2:L3 yj146_l2 (j146_l2 H0)):L3 (rj146_7 yj146_l2) (j146_7 H0):=fun _ _ _ _=>le_eq (m146_7 hj146_l2 _ _ _ _) (e146_7 H0 _ _ _ _)
def rj146_6 (j146_l2:A3):A3:=b146_6 (rj146_7 j146_l2)
theorem sj146_6 (H0:Hp) {yj146_l2:A3} (hj146_l2:L3 yj146_l2 (j146_l2 H0)):L3 (rj146_6 yj146_l2) (j146_6 H0):=fun _ _ _ _=>le_eq (m146_6 (sj146_7 H0 hj146_l2) _ _ _ _) (e146_6 H0 _ _ _ _)
def rj146_l2 (j146_l1:A2) (n:Nat):A3:=@Nat.rec (fun _=>A3) (fun _ _ _ _=>none) (fun _ j146_l2=>b146_l2 (rj146_4 j146_l1) (rj146_6 j146_l2)) n
theorem sj146_l2 (H0:Hp) {yj146_l1:A2} (hj146_l1:L2 yj146_l1 (j146_l1 H0)) (n:Nat):L3 (rj146_l2 yj146_l1 n) (j146_l2 H0):=by
 induction n with
 | zero=>exact fun _ _ _ _=>le_none _
 | succ n hj146_l2=>exact fun _ _ _ _=>le_eq (m146_l2 (sj146_4 H0 hj146_l1) (sj146_6 H0 hj146_l2) _ _ _ _) (e146_l2 H0 _ _ _ _)
def rj146_5 (j146_l1:A2):A2:=b146_5 (rj146_l2 j146_l1 100000)
theorem sj146_5 (H0:Hp) {yj146_l1:A2} (hj146_l1:L2 yj146_l1 (j146_l1 H0)):L2 (rj146_5 yj146_l1) (j146_5 H0):=fun _ _ _=>le_eq (m146_5 (sj146_l2 H0 hj146_l1 100000) _ _ _) (e146_5 H0 _ _ _)
def rj146_3 (j146_l1:A2):A2:=b146_3 rc144 (rj146_5 j146_l1)
theorem sj146_3 (H0:Hp) {yj146_l1:A2} (hj146_l1:L2 yj146_l1 (j146_l1 H0)):L2 (rj146_3 yj146_l1) (j146_3 H0):=fun _ _ _=>le_eq (m146_3 sc144 (sj146_5 H0 hj146_l1) _ _ _) (e146_3 H0 _ _ _)
def rj146_l1 (n:Nat):A2:=@Nat.rec (fun _=>A2) (fun _ _ _=>none) (fun _ j146_l1=>b146_l1 (rj146_2) (rj146_3 j146_l1)) n
theorem sj146_l1 (H0:Hp) (n:Nat):L2 (rj146_l1 n) (j146_l1 H0):=by
 induction n with
 | zero=>exact fun _ _ _=>le_none _
 | succ n hj146_l1=>exact fun _ _ _=>le_eq (m146_l1 (sj146_2 H0) (sj146_3 H0 hj146_l1) _ _ _) (e146_l1 H0 _ _ _)
def rj146_1:A1:=b146_1 (rj146_l1 100000)
theorem sj146_1 (H0:Hp):L1 (rj146_1) (j146_1 H0):=fun _ _=>le_eq (m146_1 (sj146_l1 H0 100000) _ _) (e146_1 H0 _ _)
def bc146 (j146_1:A1) (p0:AV) (H:Hp):Res:=
 bnd (alenD (.slice 202) p0) fun t6=>
 bnd (ibin .gtr t6 (.int .i64 64)) fun t7=>
 cnd t7
  (some ((.int .i64 3),H))
  (j146_1 p0 H)
theorem ec146 (p0:AV) (H:Hp):c146 p0 H=bc146 (j146_1 H) p0 H:=(callw_cxm (C:=cfg) (fn:=Tryz.f146) (c:=bodyOf Tryz.f146) (n:=46) [3,5,6,8,10,11,13] Tryz.func146 (by kernel_rfl) (by kernel_rfl) [p0] (by kernel_rfl) H).trans (by kernel_rfl)
theorem mc146 {j146_1 dj146_1:A1} (hj146_1:L1 j146_1 dj146_1):L1 (bc146 j146_1) (bc146 dj146_1):=fun _ _=>
 bR fun _=>bR fun _=>bK (le_refl _) (hj146_1 _ _)
def rc146:A1:=fun p0 H=>bc146 (rj146_1) p0 H
theorem sc146:L1 rc146 c146:=fun _ H=>le_eq (mc146 (sj146_1 H) _ _) (ec146 _ _)

def c135 (p0:AV) (H:Hp):Res:=callw cfg 135 [p0] H
def j135_5 (H0:Hp) (x1:AV) (H:Hp):Res:=CXf 135 43 (sub (bodyOf Tryz.f135) [1,1,1,1,1,1]) (retL cfg 43 135 Tryz.f135 H0) [(1,x1)] H
def j135_4 (H0:Hp) (x1:AV) (H:Hp):Res:=CXf 135 43 (sub (bodyOf Tryz.f135) [1,1,1,1,1]) (retL cfg 43 135 Tryz.f135 H0) [(1,x1)] H
def j135_3 (H0:Hp) (x1:AV) (H:Hp):Res:=CXf 135 43 (sub (bodyOf Tryz.f135) [1,1,1,1]) (retL cfg 43 135 Tryz.f135 H0) [(1,x1)] H
def k135_1 (H0:Hp):KL:=seqL (fun k al H=>CXf 135 43 (sub (bodyOf Tryz.f135) [1,1,1,1]) k (trimL (cfg.keep 135) (sub (bodyOf Tryz.f135) [1,1,1,1]) al) H) (retL cfg 43 135 Tryz.f135 H0)
theorem k135_1_tame (H0:Hp):Tame 43 (k135_1 H0):=tame_seq (C:=cfg) (kp:=cfg.keep 135) (sub (bodyOf Tryz.f135) [1,1,1,1]) (tame_ret 135 Tryz.f135 H0)
def j135_7 (H0:Hp) (x1 x3:AV) (H:Hp):Res:=CXf 135 43 (sub (bodyOf Tryz.f135) [1,1,1,0,1,0,0,1,1]) (seqL (fun k al H=>LPf 135 43 (sub (bodyOf Tryz.f135) [1,1,1,0,1,0,0]) k (trimL (cfg.keep 135) (sub (bodyOf Tryz.f135) [1,1,1,0,1,0,0]) al) H) (blockL 0 (k135_1 H0))) [(1,x1),(3,x3)] H
def j135_6 (H0:Hp) (x1 x3:AV) (H:Hp):Res:=CXf 135 43 (sub (bodyOf Tryz.f135) [1,1,1,0,1,0,0,1]) (seqL (fun k al H=>LPf 135 43 (sub (bodyOf Tryz.f135) [1,1,1,0,1,0,0]) k (trimL (cfg.keep 135) (sub (bodyOf Tryz.f135) [1,1,1,0,1,0,0]) al) H) (blockL 0 (k135_1 H0))) [(1,x1),(3,x3)] H
def j135_l1 (H0:Hp) (x1 x3:AV) (H:Hp):Res:=LPf 135 43 (sub (bodyOf Tryz.f135) [1,1,1,0,1,0,0]) (blockL 0 (k135_1 H0)) [(1,x1),(3,x3)] H
def j135_2 (H0:Hp) (x1:AV) (H:Hp):Res:=CXf 135 43 (sub (bodyOf Tryz.f135) [1,1,1]) (retL cfg 43 135 Tryz.f135 H0) [(1,x1)] H
def j135_1 (H0:Hp) (x1:AV) (H:Hp):Res:=CXf 135 43 (sub (bodyOf Tryz.f135) [1,1]) (retL cfg 43 135 Tryz.f135 H0) [(1,x1)] H
def b135_5 (c146:A1) (x1:AV) (H:Hp):Res:=
 bnd (afield 5 x1) fun t40=>
 bnd (aload false 1 t40 H) fun t41=>
 bnd (c146 t41 H) fun r42=>
 some (r42.1,r42.2)
theorem e135_5 (H0:Hp) (x1:AV) (H:Hp):j135_5 H0 x1 H=b135_5 c146 x1 H:=(CXM_eq [3,5,7,8,10,12,15] _ _ _ _).trans (by kernel_rfl)
theorem m135_5 {c146 dc146:A1} (hc146:L1 c146 dc146):L1 (b135_5 c146) (b135_5 dc146):=fun _ _=>
 bR fun _=>bR fun _=>bC (hc146 _ _) fun _=>le_refl _
def b135_4 (c145:A1) (j135_5:A1) (x1:AV) (H:Hp):Res:=
 bnd (afield 4 x1) fun t34=>
 bnd (aload false 1 t34 H) fun t35=>
 bnd (c145 t35 H) fun r36=>
 bnd (ibin .neq r36.1 (.int .i64 0)) fun t38=>
 cnd t38
  (some (r36.1,r36.2))
  (j135_5 x1 r36.2)
theorem e135_4 (H0:Hp) (x1:AV) (H:Hp):j135_4 H0 x1 H=b135_4 c145 (j135_5 H0) x1 H:=(CXM_eq [3,5,7,8,10,12,15] _ _ _ _).trans (by kernel_rfl)
theorem m135_4 {c145 dc145:A1} (hc145:L1 c145 dc145) {j135_5 dj135_5:A1} (hj135_5:L1 j135_5 dj135_5):L1 (b135_4 c145 j135_5) (b135_4 dc145 dj135_5):=fun _ _=>
 bR fun _=>bR fun _=>bC (hc145 _ _) fun _=>bR fun _=>bK (le_refl _) (hj135_5 _ _)
def b135_3 (j135_4:A1) (x1:AV) (H:Hp):Res:=
 bnd (afield 2 x1) fun t24=>
 bnd (aload false 1 t24 H) fun t25=>
 bnd (alenD .string t25) fun t26=>
 bnd (ibin .neq t26 (.int .i64 256)) fun t27=>
 bnd (gdv t27 false (.tuple []) (afield 3 x1)) fun t29=>
 bnd (gdv t27 false (.tuple []) (aload false 1 t29 H)) fun t30=>
 bnd (gdv t27 false (.tuple []) (alenD .string t30)) fun t31=>
 bnd (gdv t27 false (.tuple []) (ibin .neq t31 (.int .i64 256))) fun t32=>
 bnd (apick t27 (.bool true) t32) fun t33=>
 cnd t33
  (some ((.int .i64 2),H))
  (j135_4 x1 H)
theorem e135_3 (H0:Hp) (x1:AV) (H:Hp):j135_3 H0 x1 H=b135_3 (j135_4 H0) x1 H:=(CXM_eq [3,5,7,8,10,12,15] _ _ _ _).trans (by kernel_rfl)
theorem m135_3 {j135_4 dj135_4:A1} (hj135_4:L1 j135_4 dj135_4):L1 (b135_3 j135_4) (b135_3 dj135_4):=fun _ _=>
 bR fun _=>bR fun _=>bR fun _=>bR fun _=>bR fun _=>bR fun _=>bR fun _=>bR fun _=>bR fun _=>bK (le_refl _) (hj135_4 _ _)
def b135_7 (j135_l1:A2) (x1 x3:AV) (H:Hp):Res:=
 bnd (ibin .add x3 (.int .i64 1)) fun t16=>
 j135_l1 x1 t16 H
theorem e135_7 (H0:Hp) (x1 x3:AV) (H:Hp):j135_7 H0 x1 x3 H=b135_7 (j135_l1 H0) x1 x3 H:=(CXM_eq [3,5,7,8,10,12,15] _ _ _ _).trans (by kernel_rfl)
theorem m135_7 {j135_l1 dj135_l1:A2} (hj135_l1:L2 j135_l1 dj135_l1):L2 (b135_7 j135_l1) (b135_7 dj135_l1):=fun _ _ _=>
 bR fun _=>hj135_l1 _ _ _
def b135_6 (c144:A1) (j135_7:A2) (x1 x3:AV) (H:Hp):Res:=
 bnd (afield 1 x1) fun t17=>
 bnd (aload false 1 t17 H) fun t18=>
 bnd (aindexS 1 t18 x3) fun t20=>
 bnd (aload false 1 t20 H) fun t21=>
 bnd (c144 t21 H) fun r22=>
 bnd (aun .not r22.1) fun t23=>
 cnd t23
  (some ((.int .i64 2),r22.2))
  (j135_7 x1 x3 r22.2)
theorem e135_6 (H0:Hp) (x1 x3:AV) (H:Hp):j135_6 H0 x1 x3 H=b135_6 c144 (j135_7 H0) x1 x3 H:=(CXM_eq [3,5,7,8,10,12,15] _ _ _ _).trans (by kernel_rfl)
theorem m135_6 {c144 dc144:A1} (hc144:L1 c144 dc144) {j135_7 dj135_7:A2} (hj135_7:L2 j135_7 dj135_7):L2 (b135_6 c144 j135_7) (b135_6 dc144 dj135_7):=fun _ _ _=>
 bR fun _=>bR fun _=>bR fun _=>bR fun _=>bC (hc144 _ _) fun _=>bR fun _=>bK (le_refl _) (hj135_7 _ _ _)
def b135_l1 (j135_3:A1) (j135_6:A2) (x1 x3:AV) (H:Hp):Res:=
 bnd (ibin .lss x3 (.int .i64 256)) fun t14=>
 cnd t14
  (j135_6 x1 x3 H)
  (j135_3 x1 H)
theorem e135_l1 (H0:Hp) (x1 x3:AV) (H:Hp):j135_l1 H0 x1 x3 H=b135_l1 (j135_3 H0) (j135_6 H0) x1 x3 H:=(LPL_eqm (C:=cfg) [3,5,7,8,10,12,15] (tame_block 0 (k135_1_tame H0)) _ _).trans (by kernel_rfl)
theorem m135_l1 {j135_3 dj135_3:A1} (hj135_3:L1 j135_3 dj135_3) {j135_6 dj135_6:A2} (hj135_6:L2 j135_6 dj135_6):L2 (b135_l1 j135_3 j135_6) (b135_l1 dj135_3 dj135_6):=fun _ _ _=>
 bR fun _=>bK (hj135_6 _ _ _) (hj135_3 _ _)
def b135_2 (j135_l1:A2) (x1:AV) (H:Hp):Res:=
 j135_l1 x1 (.int .i64 0) H
theorem e135_2 (H0:Hp) (x1:AV) (H:Hp):j135_2 H0 x1 H=b135_2 (j135_l1 H0) x1 H:=(CXM_eq [3,5,7,8,10,12,15] _ _ _ _).trans (by kernel_rfl)
theorem m135_2 {j135_l1 dj135_l1:A2} (hj135_l1:L2 j135_l1 dj135_l1):L1 (b135_2 j135_l1) (b135_2 dj135_l1):=fun _ _=>
 hj135_l1 _ _ _
def b135_1 (j135_2:A1) (x1:AV) (H:Hp):Res:=
 bnd (afield 1 x1) fun t9=>
 bnd (aload false 1 t9 H) fun t10=>
 bnd (alenD (.slice 3) t10) fun t11=>
 bnd (ibin .neq t11 (.int .i64 256)) fun t12=>
 cnd t12
  (some ((.int .i64 2),H))
  (j135_2 x1 H)
theorem e135_1 (H0:Hp) (x1:AV) (H:Hp):j135_1 H0 x1 H=b135_1 (j135_2 H0) x1 H:=(CXM_eq [3,5,7,8,10,12,15] _ _ _ _).trans (by kernel_rfl)
theorem m135_1 {j135_2 dj135_2:A1} (hj135_2:L1 j135_2 dj135_2):L1 (b135_1 j135_2) (b135_1 dj135_2):=fun _ _=>
 bR fun _=>bR fun _=>bR fun _=>bR fun _=>bK (le_refl _) (hj135_2 _ _)
def rj135_5:A1:=b135_5 rc146
theorem sj135_5 (H0:Hp):L1 (rj135_5) (j135_5 H0):=fun _ _=>le_eq (m135_5 sc146 _ _) (e135_5 H0 _ _)
def rj135_4:A1:=b135_4 rc145 (rj135_5)
theorem sj135_4 (H0:Hp):L1 (rj135_4) (j135_4 H0):=fun _ _=>le_eq (m135_4 sc145 (sj135_5 H0) _ _) (e135_4 H0 _ _)
def rj135_3:A1:=b135_3 (rj135_4)
theorem sj135_3 (H0:Hp):L1 (rj135_3) (j135_3 H0):=fun _ _=>le_eq (m135_3 (sj135_4 H0) _ _) (e135_3 H0 _ _)
def rj135_7 (j135_l1:A2):A2:=b135_7 j135_l1
theorem sj135_7 (H0:Hp) {yj135_l1:A2} (hj135_l1:L2 yj135_l1 (j135_l1 H0)):L2 (rj135_7 yj135_l1) (j135_7 H0):=fun _ _ _=>le_eq (m135_7 hj135_l1 _ _ _) (e135_7 H0 _ _ _)
def rj135_6 (j135_l1:A2):A2:=b135_6 rc144 (rj135_7 j135_l1)
theorem sj135_6 (H0:Hp) {yj135_l1:A2} (hj135_l1:L2 yj135_l1 (j135_l1 H0)):L2 (rj135_6 yj135_l1) (j135_6 H0):=fun _ _ _=>le_eq (m135_6 sc144 (sj135_7 H0 hj135_l1) _ _ _) (e135_6 H0 _ _ _)
def rj135_l1 (n:Nat):A2:=@Nat.rec (fun _=>A2) (fun _ _ _=>none) (fun _ j135_l1=>b135_l1 (rj135_3) (rj135_6 j135_l1)) n
theorem sj135_l1 (H0:Hp) (n:Nat):L2 (rj135_l1 n) (j135_l1 H0):=by
 induction n with
 | zero=>exact fun _ _ _=>le_none _
 | succ n hj135_l1=>exact fun _ _ _=>le_eq (m135_l1 (sj135_3 H0) (sj135_6 H0 hj135_l1) _ _ _) (e135_l1 H0 _ _ _)
def rj135_2:A1:=b135_2 (rj135_l1 100000)
theorem sj135_2 (H0:Hp):L1 (rj135_2) (j135_2 H0):=fun _ _=>le_eq (m135_2 (sj135_l1 H0 100000) _ _) (e135_2 H0 _ _)
def rj135_1:A1:=b135_1 (rj135_2)
theorem sj135_1 (H0:Hp):L1 (rj135_1) (j135_1 H0):=fun _ _=>le_eq (m135_1 (sj135_2 H0) _ _) (e135_1 H0 _ _)
def bc135 (c143:A1) (j135_1:A1) (p0:AV) (H:Hp):Res:=
 bnd (abox p0 H) fun r1=>
 bnd (afield 0 r1.1) fun t5=>
 bnd (aload false 1 t5 r1.2) fun t6=>
 bnd (c143 t6 r1.2) fun r7=>
 bnd (aun .not r7.1) fun t8=>
 cnd t8
  (some ((.int .i64 4),r7.2))
  (j135_1 r1.1 r7.2)
theorem ec135 (p0:AV) (H:Hp):c135 p0 H=bc135 c143 (j135_1 H) p0 H:=(callw_cxm (C:=cfg) (fn:=Tryz.f135) (c:=bodyOf Tryz.f135) (n:=43) [3,5,7,8,10,12,15] Tryz.func135 (by kernel_rfl) (by kernel_rfl) [p0] (by kernel_rfl) H).trans (by kernel_rfl)
theorem mc135 {c143 dc143:A1} (hc143:L1 c143 dc143) {j135_1 dj135_1:A1} (hj135_1:L1 j135_1 dj135_1):L1 (bc135 c143 j135_1) (bc135 dc143 dj135_1):=fun _ _=>
 bR fun _=>bR fun _=>bR fun _=>bC (hc143 _ _) fun _=>bR fun _=>bK (le_refl _) (hj135_1 _ _)
def rc135:A1:=fun p0 H=>bc135 rc143 (rj135_1) p0 H
theorem sc135:L1 rc135 c135:=fun _ H=>le_eq (mc135 sc143 (sj135_1 H) _ _) (ec135 _ _)

def c123 (p0:AV) (H:Hp):Res:=callw cfg 123 [p0] H
def j123_1 (H0:Hp) (x1 x2:AV) (H:Hp):Res:=CXf 123 8 (sub (bodyOf Tryz.f123) [1,1]) (retL cfg 8 123 Tryz.f123 H0) [(1,x1),(2,x2)] H
def b123_1 (x1 x2:AV) (H:Hp):Res:=
 bnd (aload true 6 x1 H) fun t7=>
 bnd (astoreU 6 x2 t7 H) fun r_4=>
 bnd (aload true 6 x2 r_4.2) fun v2=>
 some (v2,r_4.2)
theorem e123_1 (H0:Hp) (x1 x2:AV) (H:Hp):j123_1 H0 x1 x2 H=b123_1 x1 x2 H:=(CXM_eq [3] _ _ _ _).trans (by kernel_rfl)
theorem m123_1:L2 (b123_1) (b123_1):=fun _ _ _=>
 bR fun _=>bR fun _=>bR fun _=>le_refl _
def rj123_1:A2:=b123_1
theorem sj123_1 (H0:Hp):L2 (rj123_1) (j123_1 H0):=fun _ _ _=>le_eq (m123_1 _ _ _) (e123_1 H0 _ _ _)
def bc123 (c135:A1) (q16:A0) (j123_1:A2) (p0:AV) (H:Hp):Res:=
 bnd (abox p0 H) fun r1=>
 bnd (some ((.ptr r1.2.length 0),r1.2++[.cells [(.str []),.nils,(.str []),(.str []),.nils,.nils]])) fun r2=>
 bnd (aload true 6 r1.1 r2.2) fun t3=>
 bnd (c135 t3 r2.2) fun r4=>
 bnd (ibin .neq r4.1 (.int .i64 0)) fun t5=>
 cnd t5
  (bnd (q16 r4.2) fun r6=>
  bnd (astoreU 6 r2.1 r6.1 r6.2) fun r_10=>
  bnd (aload true 6 r2.1 r_10.2) fun v2=>
  some (v2,r_10.2))
  (j123_1 r1.1 r2.1 r4.2)
theorem ec123 (p0:AV) (H:Hp):c123 p0 H=bc123 c135 q16 (j123_1 H) p0 H:=(callw_cxm (C:=cfg) (fn:=Tryz.f123) (c:=bodyOf Tryz.f123) (n:=8) [3] Tryz.func123 (by kernel_rfl) (by kernel_rfl) [p0] (by kernel_rfl) H).trans (by kernel_rfl)
theorem mc123 {c135 dc135:A1} (hc135:L1 c135 dc135) {q16 dq16:A0} (hq16:L0 q16 dq16) {j123_1 dj123_1:A2} (hj123_1:L2 j123_1 dj123_1):L1 (bc123 c135 q16 j123_1) (bc123 dc135 dq16 dj123_1):=fun _ _=>
 bR fun _=>bR fun _=>bR fun _=>bC (hc135 _ _) fun _=>bR fun _=>bK (bC (hq16 _) fun _=>bR fun _=>bR fun _=>le_refl _) (hj123_1 _ _ _)
def rc123:A1:=fun p0 H=>bc123 rc135 rq16 (rj123_1) p0 H
theorem sc123:L1 rc123 c123:=fun _ H=>le_eq (mc123 sc135 sq16 (sj123_1 H) _ _) (ec123 _ _)

def c95 (p0 p1:AV) (H:Hp):Res:=callw cfg 95 [p0,p1] H
def bc95 (c122:A2) (c123:A1) (p0 p1:AV) (H:Hp):Res:=
 bnd (abox p0 H) fun r2=>
 bnd (aload true 6 r2.1 r2.2) fun t5=>
 bnd (c123 t5 r2.2) fun r6=>
 bnd (afieldV false 1 2 r6.1) fun t7=>
 bnd (c122 t7 p1 r6.2) fun r9=>
 some (r9.1,r9.2)
theorem ec95 (p0 p1:AV) (H:Hp):c95 p0 p1 H=bc95 c122 c123 p0 p1 H:=(callw_cxm (C:=cfg) (fn:=Tryz.f95) (c:=bodyOf Tryz.f95) (n:=10) [] Tryz.func95 (by kernel_rfl) (by kernel_rfl) [p0,p1] (by kernel_rfl) H).trans (by kernel_rfl)
theorem mc95 {c122 dc122:A2} (hc122:L2 c122 dc122) {c123 dc123:A1} (hc123:L1 c123 dc123):L2 (bc95 c122 c123) (bc95 dc122 dc123):=fun _ _ _=>
 bR fun _=>bR fun _=>bC (hc123 _ _) fun _=>bR fun _=>bC (hc122 _ _ _) fun _=>le_refl _
def rc95:A2:=fun p0 p1 H=>bc95 rc122 rc123 p0 p1 H
theorem sc95:L2 rc95 c95:=fun _ _ H=>le_eq (mc95 sc122 sc123 _ _ _) (ec95 _ _ _)

def c96 (p0 p1:AV) (H:Hp):Res:=callw cfg 96 [p0,p1] H
def bc96 (c122:A2) (c123:A1) (p0 p1:AV) (H:Hp):Res:=
 bnd (abox p0 H) fun r2=>
 bnd (aload true 6 r2.1 r2.2) fun t5=>
 bnd (c123 t5 r2.2) fun r6=>
 bnd (afieldV false 1 3 r6.1) fun t7=>
 bnd (c122 t7 p1 r6.2) fun r9=>
 some (r9.1,r9.2)
theorem ec96 (p0 p1:AV) (H:Hp):c96 p0 p1 H=bc96 c122 c123 p0 p1 H:=(callw_cxm (C:=cfg) (fn:=Tryz.f96) (c:=bodyOf Tryz.f96) (n:=10) [] Tryz.func96 (by kernel_rfl) (by kernel_rfl) [p0,p1] (by kernel_rfl) H).trans (by kernel_rfl)
theorem mc96 {c122 dc122:A2} (hc122:L2 c122 dc122) {c123 dc123:A1} (hc123:L1 c123 dc123):L2 (bc96 c122 c123) (bc96 dc122 dc123):=fun _ _ _=>
 bR fun _=>bR fun _=>bC (hc123 _ _) fun _=>bR fun _=>bC (hc122 _ _ _) fun _=>le_refl _
def rc96:A2:=fun p0 p1 H=>bc96 rc122 rc123 p0 p1 H
theorem sc96:L2 rc96 c96:=fun _ _ H=>le_eq (mc96 sc122 sc123 _ _ _) (ec96 _ _ _)

def c71 (p0 p1:AV) (H:Hp):Res:=callw cfg 71 [p0,p1] H
def j71_1 (H0:Hp) (x0 x3 x4:AV) (H:Hp):Res:=CXf 71 33 (sub (bodyOf Tryz.f71) [1,1]) (retL cfg 33 71 Tryz.f71 H0) [(0,x0),(3,x3),(4,x4)] H
def b71_1 (c92:A1) (c93:A2) (c94:A1) (c95:A2) (c96:A2) (x0 x3 x4:AV) (H:Hp):Res:=
 bnd (aload true 4 x3 H) fun t13=>
 bnd (c92 t13 H) fun r14=>
 frzK x3 r14.2 fun z3 z3H=>
 bnd (aloadv true 4 z3) fun t15=>
 bnd (anil x0) fun t17=>
 bnd (afield 3 t17) fun t18=>
 bnd (aload true 6 t18 z3H) fun t19=>
 bnd (c95 t19 r14.1 z3H) fun r21=>
 bnd (c94 r21.1 r21.2) fun r22=>
 bnd (c93 t15 r22.1 r22.2) fun r23=>
 bnd (astoreU 4 z3 r23.1 r23.2) fun r_13=>
 frzK z3 r_13.2 fun z3 z3H=>
 bnd (aloadv true 4 z3) fun t24=>
 bnd (anil x0) fun t26=>
 bnd (afield 3 t26) fun t27=>
 bnd (aload true 6 t27 z3H) fun t28=>
 bnd (c96 t28 r14.1 z3H) fun r30=>
 bnd (c94 r30.1 r30.2) fun r31=>
 bnd (c93 t24 r31.1 r31.2) fun r32=>
 bnd (astoreU 4 x4 r32.1 r32.2) fun r_22=>
 bnd (aload true 4 x4 r_22.2) fun v4=>
 some (v4,r_22.2)
theorem e71_1 (H0:Hp) (x0 x3 x4:AV) (H:Hp):j71_1 H0 x0 x3 x4 H=b71_1 c92 c93 c94 c95 c96 x0 x3 x4 H:=(CXM_eq [3] _ _ _ _).trans (by kernel_rfl)
theorem m71_1 {c92 dc92:A1} (hc92:L1 c92 dc92) {c93 dc93:A2} (hc93:L2 c93 dc93) {c94 dc94:A1} (hc94:L1 c94 dc94) {c95 dc95:A2} (hc95:L2 c95 dc95) {c96 dc96:A2} (hc96:L2 c96 dc96):L3 (b71_1 c92 c93 c94 c95 c96) (b71_1 dc92 dc93 dc94 dc95 dc96):=fun _ _ _ _=>
 bR fun _=>bC (hc92 _ _) fun _=>bF fun _ _=>bR fun _=>bR fun _=>bR fun _=>bR fun _=>bC (hc95 _ _ _) fun _=>bC (hc94 _ _) fun _=>bC (hc93 _ _ _) fun _=>bR fun _=>bF fun _ _=>bR fun _=>bR fun _=>bR fun _=>bR fun _=>bC (hc96 _ _ _) fun _=>bC (hc94 _ _) fun _=>bC (hc93 _ _ _) fun _=>bR fun _=>bR fun _=>le_refl _
def rj71_1:A3:=b71_1 rc92 rc93 rc94 rc95 rc96
theorem sj71_1 (H0:Hp):L3 (rj71_1) (j71_1 H0):=fun _ _ _ _=>le_eq (m71_1 sc92 sc93 sc94 sc95 sc96 _ _ _ _) (e71_1 H0 _ _ _ _)
def bc71 (j71_1:A3) (p0 p1:AV) (H:Hp):Res:=
 bnd (abox p1 H) fun r3=>
 bnd (some ((.ptr r3.2.length 0),r3.2++[.cells [(.int .u64 0),(.int .u64 0),(.int .u64 0),(.int .u64 0)]])) fun r4=>
 bnd (anil p0) fun t7=>
 bnd (afield 2 t7) fun t8=>
 bnd (aload false 1 t8 r4.2) fun t9=>
 bnd (ibin .and t9 (.int .i64 2)) fun t10=>
 bnd (ibin .eql t10 (.int .i64 0)) fun t11=>
 cnd t11
  (bnd (aload true 4 r3.1 r4.2) fun t12=>
  bnd (astoreU 4 r4.1 t12 r4.2) fun r_30=>
  bnd (aload true 4 r4.1 r_30.2) fun v4=>
  some (v4,r_30.2))
  (j71_1 p0 r3.1 r4.1 r4.2)
theorem ec71 (p0 p1:AV) (H:Hp):c71 p0 p1 H=bc71 (j71_1 H) p0 p1 H:=(callw_cxm (C:=cfg) (fn:=Tryz.f71) (c:=bodyOf Tryz.f71) (n:=33) [3] Tryz.func71 (by kernel_rfl) (by kernel_rfl) [p0,p1] (by kernel_rfl) H).trans (by kernel_rfl)
theorem mc71 {j71_1 dj71_1:A3} (hj71_1:L3 j71_1 dj71_1):L2 (bc71 j71_1) (bc71 dj71_1):=fun _ _ _=>
 bR fun _=>bR fun _=>bR fun _=>bR fun _=>bR fun _=>bR fun _=>bR fun _=>bK (bR fun _=>bR fun _=>bR fun _=>le_refl _) (hj71_1 _ _ _ _)
def rc71:A2:=fun p0 p1 H=>bc71 (rj71_1) p0 p1 H
theorem sc71:L2 rc71 c71:=fun _ _ H=>le_eq (mc71 (sj71_1 H) _ _ _) (ec71 _ _ _)

def c72 (p0 p1:AV) (H:Hp):Res:=callw cfg 72 [p0,p1] H
def j72_1 (H0:Hp) (x4 x5:AV) (H:Hp):Res:=CXf 72 20 (sub (bodyOf Tryz.f72) [1,1,1]) (retL cfg 20 72 Tryz.f72 H0) [(4,x4),(5,x5)] H
def k72_1 (H0:Hp):KL:=seqL (fun k al H=>CXf 72 20 (sub (bodyOf Tryz.f72) [1,1,1]) k (trimL (cfg.keep 72) (sub (bodyOf Tryz.f72) [1,1,1]) al) H) (retL cfg 20 72 Tryz.f72 H0)
theorem k72_1_tame (H0:Hp):Tame 20 (k72_1 H0):=tame_seq (C:=cfg) (kp:=cfg.keep 72) (sub (bodyOf Tryz.f72) [1,1,1]) (tame_ret 72 Tryz.f72 H0)
def j72_3 (H0:Hp) (x1 x4 x5 x6:AV) (H:Hp):Res:=CXf 72 20 (sub (bodyOf Tryz.f72) [1,1,0,1,0,0,1,1]) (seqL (fun k al H=>LPf 72 20 (sub (bodyOf Tryz.f72) [1,1,0,1,0,0]) k (trimL (cfg.keep 72) (sub (bodyOf Tryz.f72) [1,1,0,1,0,0]) al) H) (blockL 0 (k72_1 H0))) [(1,x1),(4,x4),(5,x5),(6,x6)] H
def j72_2 (H0:Hp) (x1 x4 x5 x6:AV) (H:Hp):Res:=CXf 72 20 (sub (bodyOf Tryz.f72) [1,1,0,1,0,0,1]) (seqL (fun k al H=>LPf 72 20 (sub (bodyOf Tryz.f72) [1,1,0,1,0,0]) k (trimL (cfg.keep 72) (sub (bodyOf Tryz.f72) [1,1,0,1,0,0]) al) H) (blockL 0 (k72_1 H0))) [(1,x1),(4,x4),(5,x5),(6,x6)] H
def j72_l1 (H0:Hp) (x1 x4 x5 x6:AV) (H:Hp):Res:=LPf 72 20 (sub (bodyOf Tryz.f72) [1,1,0,1,0,0]) (blockL 0 (k72_1 H0)) [(1,x1),(4,x4),(5,x5),(6,x6)] H
def b72_1 (x4 x5:AV) (H:Hp):Res:=
 bnd (aload true 4 x5 H) fun t19=>
 bnd (astoreU 4 x4 t19 H) fun r_4=>
 bnd (aload true 4 x4 r_4.2) fun v4=>
 some (v4,r_4.2)
theorem e72_1 (H0:Hp) (x4 x5:AV) (H:Hp):j72_1 H0 x4 x5 H=b72_1 x4 x5 H:=(CXM_eq [4,5,6] _ _ _ _).trans (by kernel_rfl)
theorem m72_1:L2 (b72_1) (b72_1):=fun _ _ _=>
 bR fun _=>bR fun _=>bR fun _=>le_refl _
def b72_3 (j72_l1:A4) (x1 x4 x5 x6:AV) (H:Hp):Res:=
 bnd (ibin .add x6 (.int .i64 1)) fun t14=>
 j72_l1 x1 x4 x5 t14 H
theorem e72_3 (H0:Hp) (x1 x4 x5 x6:AV) (H:Hp):j72_3 H0 x1 x4 x5 x6 H=b72_3 (j72_l1 H0) x1 x4 x5 x6 H:=(CXM_eq [4,5,6] _ _ _ _).trans (by kernel_rfl)
theorem m72_3 {j72_l1 dj72_l1:A4} (hj72_l1:L4 j72_l1 dj72_l1):L4 (b72_3 j72_l1) (b72_3 dj72_l1):=fun _ _ _ _ _=>
 bR fun _=>hj72_l1 _ _ _ _ _
def b72_2 (c97:A2) (j72_3:A4) (x1 x4 x5 x6:AV) (H:Hp):Res:=
 bnd (aload true 4 x5 H) fun t15=>
 bnd (cvInt .u8 x6) fun t17=>
 bnd (c97 t15 t17 H) fun r18=>
 bnd (astoreU 4 x5 r18.1 r18.2) fun r_11=>
 j72_3 x1 x4 x5 x6 r_11.2
theorem e72_2 (H0:Hp) (x1 x4 x5 x6:AV) (H:Hp):j72_2 H0 x1 x4 x5 x6 H=b72_2 c97 (j72_3 H0) x1 x4 x5 x6 H:=(CXM_eq [4,5,6] _ _ _ _).trans (by kernel_rfl)
theorem m72_2 {c97 dc97:A2} (hc97:L2 c97 dc97) {j72_3 dj72_3:A4} (hj72_3:L4 j72_3 dj72_3):L4 (b72_2 c97 j72_3) (b72_2 dc97 dj72_3):=fun _ _ _ _ _=>
 bR fun _=>bR fun _=>bC (hc97 _ _ _) fun _=>bR fun _=>hj72_3 _ _ _ _ _
def b72_l1 (j72_1:A2) (j72_2:A4) (x1 x4 x5 x6:AV) (H:Hp):Res:=
 bnd (cvInt .i64 x1) fun t11=>
 bnd (ibin .leq x6 t11) fun t12=>
 cnd t12
  (j72_2 x1 x4 x5 x6 H)
  (j72_1 x4 x5 H)
theorem e72_l1 (H0:Hp) (x1 x4 x5 x6:AV) (H:Hp):j72_l1 H0 x1 x4 x5 x6 H=b72_l1 (j72_1 H0) (j72_2 H0) x1 x4 x5 x6 H:=(LPL_eqm (C:=cfg) [4,5,6] (tame_block 0 (k72_1_tame H0)) _ _).trans (by kernel_rfl)
theorem m72_l1 {j72_1 dj72_1:A2} (hj72_1:L2 j72_1 dj72_1) {j72_2 dj72_2:A4} (hj72_2:L4 j72_2 dj72_2):L4 (b72_l1 j72_1 j72_2) (b72_l1 dj72_1 dj72_2):=fun _ _ _ _ _=>
 bR fun _=>bR fun _=>bK (hj72_2 _ _ _ _ _) (hj72_1 _ _ _)
def rj72_1:A2:=b72_1
theorem sj72_1 (H0:Hp):L2 (rj72_1) (j72_1 H0):=fun _ _ _=>le_eq (m72_1 _ _ _) (e72_1 H0 _ _ _)
def rj72_3 (j72_l1:A4):A4:=b72_3 j72_l1
theorem sj72_3 (H0:Hp) {yj72_l1:A4} (hj72_l1:L4 yj72_l1 (j72_l1 H0)):L4 (rj72_3 yj72_l1) (j72_3 H0):=fun _ _ _ _ _=>le_eq (m72_3 hj72_l1 _ _ _ _ _) (e72_3 H0 _ _ _ _ _)
def rj72_2 (j72_l1:A4):A4:=b72_2 rc97 (rj72_3 j72_l1)
theorem sj72_2 (H0:Hp) {yj72_l1:A4} (hj72_l1:L4 yj72_l1 (j72_l1 H0)):L4 (rj72_2 yj72_l1) (j72_2 H0):=fun _ _ _ _ _=>le_eq (m72_2 sc97 (sj72_3 H0 hj72_l1) _ _ _ _ _) (e72_2 H0 _ _ _ _ _)
def rj72_l1 (n:Nat):A4:=@Nat.rec (fun _=>A4) (fun _ _ _ _ _=>none) (fun _ j72_l1=>b72_l1 (rj72_1) (rj72_2 j72_l1)) n
theorem sj72_l1 (H0:Hp) (n:Nat):L4 (rj72_l1 n) (j72_l1 H0):=by
 induction n with
 | zero=>exact fun _ _ _ _ _=>le_none _
 | succ n hj72_l1=>exact fun _ _ _ _ _=>le_eq (m72_l1 (sj72_1 H0) (sj72_2 H0 hj72_l1) _ _ _ _ _) (e72_l1 H0 _ _ _ _ _)
def bc72 (j72_l1:A4) (p0 p1:AV) (H:Hp):Res:=
 bnd (some ((.ptr H.length 0),H++[.cells [(.int .u64 0),(.int .u64 0),(.int .u64 0),(.int .u64 0)]])) fun r4=>
 bnd (some ((.ptr r4.2.length 0),r4.2++[.cells [(.int .u64 0),(.int .u64 0),(.int .u64 0),(.int .u64 0)]])) fun r5=>
 bnd (cvInt .i64 p0) fun t8=>
 j72_l1 p1 r4.1 r5.1 t8 r5.2
theorem ec72 (p0 p1:AV) (H:Hp):c72 p0 p1 H=bc72 (j72_l1 H) p0 p1 H:=(callw_cxm (C:=cfg) (fn:=Tryz.f72) (c:=bodyOf Tryz.f72) (n:=20) [4,5,6] Tryz.func72 (by kernel_rfl) (by kernel_rfl) [p0,p1] (by kernel_rfl) H).trans (by kernel_rfl)
theorem mc72 {j72_l1 dj72_l1:A4} (hj72_l1:L4 j72_l1 dj72_l1):L2 (bc72 j72_l1) (bc72 dj72_l1):=fun _ _ _=>
 bR fun _=>bR fun _=>bR fun _=>hj72_l1 _ _ _ _ _
def rc72:A2:=fun p0 p1 H=>bc72 (rj72_l1 100000) p0 p1 H
theorem sc72:L2 rc72 c72:=fun _ _ H=>le_eq (mc72 (sj72_l1 H 100000) _ _ _) (ec72 _ _ _)

def c51 (p0 p1:AV) (H:Hp):Res:=callw cfg 51 [p0,p1] H
def bc51 (c71:A2) (c72:A2) (p0 p1:AV) (H:Hp):Res:=
 bnd (some ((.ptr H.length 0),H++[.cells [(.int .i64 0),(.int .u64 0),(.int .u64 0),(.int .u64 0),(.int .u64 0),(.int .i64 0),(.int .i64 0),(.int .i64 0),.nils]])) fun r4=>
 bnd (c72 p1 p1 r4.2) fun r8=>
 bnd (c71 p0 r8.1 r8.2) fun r9=>
 bnd ((afill [(0,1,(.int .i64 2)),(1,4,r9.1)] [(.int .i64 0),(.int .u64 0),(.int .u64 0),(.int .u64 0),(.int .u64 0),(.int .i64 0),(.int .i64 0),(.int .i64 0),.nils]).map .agg) fun t10=>
 bnd (astoreU 9 r4.1 t10 r9.2) fun r_5=>
 bnd (aload true 9 r4.1 r_5.2) fun v4=>
 some (v4,r_5.2)
theorem ec51 (p0 p1:AV) (H:Hp):c51 p0 p1 H=bc51 c71 c72 p0 p1 H:=(callw_cxm (C:=cfg) (fn:=Tryz.f51) (c:=bodyOf Tryz.f51) (n:=11) [] Tryz.func51 (by kernel_rfl) (by kernel_rfl) [p0,p1] (by kernel_rfl) H).trans (by kernel_rfl)
theorem mc51 {c71 dc71:A2} (hc71:L2 c71 dc71) {c72 dc72:A2} (hc72:L2 c72 dc72):L2 (bc51 c71 c72) (bc51 dc71 dc72):=fun _ _ _=>
 bR fun _=>bC (hc72 _ _ _) fun _=>bC (hc71 _ _ _) fun _=>bR fun _=>bR fun _=>bR fun _=>le_refl _
def rc51:A2:=fun p0 p1 H=>bc51 rc71 rc72 p0 p1 H
theorem sc51:L2 rc51 c51:=fun _ _ H=>le_eq (mc51 sc71 sc72 _ _ _) (ec51 _ _ _)

def c124 (p0 p1:AV) (H:Hp):Res:=callw cfg 124 [p0,p1] H
def bc124 (c121:A3) (p0 p1:AV) (H:Hp):Res:=
 bnd (abox p0 H) fun r2=>
 bnd (abox p1 r2.2) fun r3=>
 bnd (some ((.ptr r3.2.length 0),r3.2++[.cells [(.int .u64 0),(.int .u64 0),(.int .u64 0),(.int .u64 0)]])) fun r4=>
 bnd (aload true 4 r2.1 r4.2) fun t5=>
 bnd (aload true 4 r3.1 r4.2) fun t6=>
 bnd (c121 (.int .i64 2) t5 t6 r4.2) fun r7=>
 bnd (astoreU 4 r4.1 r7.1 r7.2) fun r_7=>
 bnd (aload true 4 r4.1 r_7.2) fun v4=>
 some (v4,r_7.2)
theorem ec124 (p0 p1:AV) (H:Hp):c124 p0 p1 H=bc124 c121 p0 p1 H:=(callw_cxm (C:=cfg) (fn:=Tryz.f124) (c:=bodyOf Tryz.f124) (n:=8) [] Tryz.func124 (by kernel_rfl) (by kernel_rfl) [p0,p1] (by kernel_rfl) H).trans (by kernel_rfl)
theorem mc124 {c121 dc121:A3} (hc121:L3 c121 dc121):L2 (bc124 c121) (bc124 dc121):=fun _ _ _=>
 bR fun _=>bR fun _=>bR fun _=>bR fun _=>bR fun _=>bC (hc121 _ _ _ _) fun _=>bR fun _=>bR fun _=>le_refl _
def rc124:A2:=fun p0 p1 H=>bc124 rc121 p0 p1 H
theorem sc124:L2 rc124 c124:=fun _ _ H=>le_eq (mc124 sc121 _ _ _) (ec124 _ _ _)

def c98 (p0 p1:AV) (H:Hp):Res:=callw cfg 98 [p0,p1] H
def j98_1 (H0:Hp) (x3 x4:AV) (H:Hp):Res:=CXf 98 15 (sub (bodyOf Tryz.f98) [1,1]) (retL cfg 15 98 Tryz.f98 H0) [(3,x3),(4,x4)] H
def b98_1 (c124:A2) (c94:A1) (x3 x4:AV) (H:Hp):Res:=
 frzK x3 H fun z3 z3H=>
 bnd (aloadv true 4 z3) fun t12=>
 bnd (c94 (.str [10]) z3H) fun r13=>
 bnd (c124 t12 r13.1 r13.2) fun r14=>
 bnd (astoreU 4 x4 r14.1 r14.2) fun r_7=>
 bnd (aload true 4 x4 r_7.2) fun v4=>
 some (v4,r_7.2)
theorem e98_1 (H0:Hp) (x3 x4:AV) (H:Hp):j98_1 H0 x3 x4 H=b98_1 c124 c94 x3 x4 H:=(CXM_eq [3] _ _ _ _).trans (by kernel_rfl)
theorem m98_1 {c124 dc124:A2} (hc124:L2 c124 dc124) {c94 dc94:A1} (hc94:L1 c94 dc94):L2 (b98_1 c124 c94) (b98_1 dc124 dc94):=fun _ _ _=>
 bF fun _ _=>bR fun _=>bC (hc94 _ _) fun _=>bC (hc124 _ _ _) fun _=>bR fun _=>bR fun _=>le_refl _
def rj98_1:A2:=b98_1 rc124 rc94
theorem sj98_1 (H0:Hp):L2 (rj98_1) (j98_1 H0):=fun _ _ _=>le_eq (m98_1 sc124 sc94 _ _ _) (e98_1 H0 _ _ _)
def bc98 (j98_1:A2) (p0 p1:AV) (H:Hp):Res:=
 bnd (abox p1 H) fun r3=>
 bnd (some ((.ptr r3.2.length 0),r3.2++[.cells [(.int .u64 0),(.int .u64 0),(.int .u64 0),(.int .u64 0)]])) fun r4=>
 bnd (anil p0) fun t6=>
 bnd (afield 2 t6) fun t7=>
 bnd (aload false 1 t7 r4.2) fun t8=>
 bnd (ibin .and t8 (.int .i64 4)) fun t9=>
 bnd (ibin .eql t9 (.int .i64 0)) fun t10=>
 cnd t10
  (bnd (aload true 4 r3.1 r4.2) fun t11=>
  bnd (astoreU 4 r4.1 t11 r4.2) fun r_15=>
  bnd (aload true 4 r4.1 r_15.2) fun v4=>
  some (v4,r_15.2))
  (j98_1 r3.1 r4.1 r4.2)
theorem ec98 (p0 p1:AV) (H:Hp):c98 p0 p1 H=bc98 (j98_1 H) p0 p1 H:=(callw_cxm (C:=cfg) (fn:=Tryz.f98) (c:=bodyOf Tryz.f98) (n:=15) [3] Tryz.func98 (by kernel_rfl) (by kernel_rfl) [p0,p1] (by kernel_rfl) H).trans (by kernel_rfl)
theorem mc98 {j98_1 dj98_1:A2} (hj98_1:L2 j98_1 dj98_1):L2 (bc98 j98_1) (bc98 dj98_1):=fun _ _ _=>
 bR fun _=>bR fun _=>bR fun _=>bR fun _=>bR fun _=>bR fun _=>bR fun _=>bK (bR fun _=>bR fun _=>bR fun _=>le_refl _) (hj98_1 _ _ _)
def rc98:A2:=fun p0 p1 H=>bc98 (rj98_1) p0 p1 H
theorem sc98:L2 rc98 c98:=fun _ _ H=>le_eq (mc98 (sj98_1 H) _ _ _) (ec98 _ _ _)

def c128 (p0 p1:AV) (H:Hp):Res:=callw cfg 128 [p0,p1] H
def j128_1 (H0:Hp) (H:Hp):Res:=CXf 128 17 (sub (bodyOf Tryz.f128) [1,1]) (retL cfg 17 128 Tryz.f128 H0) [] H
def k128_1 (H0:Hp):KL:=seqL (fun k al H=>CXf 128 17 (sub (bodyOf Tryz.f128) [1,1]) k (trimL (cfg.keep 128) (sub (bodyOf Tryz.f128) [1,1]) al) H) (retL cfg 17 128 Tryz.f128 H0)
theorem k128_1_tame (H0:Hp):Tame 17 (k128_1 H0):=tame_seq (C:=cfg) (kp:=cfg.keep 128) (sub (bodyOf Tryz.f128) [1,1]) (tame_ret 128 Tryz.f128 H0)
def j128_3 (H0:Hp) (x0 x1 x5:AV) (H:Hp):Res:=CXf 128 17 (sub (bodyOf Tryz.f128) [1,0,1,0,0,1,1]) (seqL (fun k al H=>LPf 128 17 (sub (bodyOf Tryz.f128) [1,0,1,0,0]) k (trimL (cfg.keep 128) (sub (bodyOf Tryz.f128) [1,0,1,0,0]) al) H) (blockL 0 (k128_1 H0))) [(0,x0),(1,x1),(5,x5)] H
def j128_2 (H0:Hp) (x0 x1 x5:AV) (H:Hp):Res:=CXf 128 17 (sub (bodyOf Tryz.f128) [1,0,1,0,0,1]) (seqL (fun k al H=>LPf 128 17 (sub (bodyOf Tryz.f128) [1,0,1,0,0]) k (trimL (cfg.keep 128) (sub (bodyOf Tryz.f128) [1,0,1,0,0]) al) H) (blockL 0 (k128_1 H0))) [(0,x0),(1,x1),(5,x5)] H
def j128_l1 (H0:Hp) (x0 x1 x5:AV) (H:Hp):Res:=LPf 128 17 (sub (bodyOf Tryz.f128) [1,0,1,0,0]) (blockL 0 (k128_1 H0)) [(0,x0),(1,x1),(5,x5)] H
def b128_1 (H:Hp):Res:=
 some ((.bool false),H)
theorem e128_1 (H0:Hp) (H:Hp):j128_1 H0 H=b128_1 H:=(CXM_eq [3,4,6] _ _ _ _).trans (by kernel_rfl)
theorem m128_1:L0 (b128_1) (b128_1):=fun _=>
 le_refl _
def b128_3 (j128_l1:A3) (x0 x1 x5:AV) (H:Hp):Res:=
 bnd (ibin .add x5 (.int .i64 1)) fun t11=>
 j128_l1 x0 x1 t11 H
theorem e128_3 (H0:Hp) (x0 x1 x5:AV) (H:Hp):j128_3 H0 x0 x1 x5 H=b128_3 (j128_l1 H0) x0 x1 x5 H:=(CXM_eq [3,4,6] _ _ _ _).trans (by kernel_rfl)
theorem m128_3 {j128_l1 dj128_l1:A3} (hj128_l1:L3 j128_l1 dj128_l1):L3 (b128_3 j128_l1) (b128_3 dj128_l1):=fun _ _ _ _=>
 bR fun _=>hj128_l1 _ _ _ _
def b128_2 (j128_3:A3) (x0 x1 x5:AV) (H:Hp):Res:=
 bnd (aindexStr x0 x5) fun t14=>
 bnd (ibin .eql t14 x1) fun t16=>
 cnd t16
  (some ((.bool true),H))
  (j128_3 x0 x1 x5 H)
theorem e128_2 (H0:Hp) (x0 x1 x5:AV) (H:Hp):j128_2 H0 x0 x1 x5 H=b128_2 (j128_3 H0) x0 x1 x5 H:=(CXM_eq [3,4,6] _ _ _ _).trans (by kernel_rfl)
theorem m128_2 {j128_3 dj128_3:A3} (hj128_3:L3 j128_3 dj128_3):L3 (b128_2 j128_3) (b128_2 dj128_3):=fun _ _ _ _=>
 bR fun _=>bR fun _=>bK (le_refl _) (hj128_3 _ _ _ _)
def b128_l1 (j128_1:A0) (j128_2:A3) (x0 x1 x5:AV) (H:Hp):Res:=
 bnd (alenD .string x0) fun t8=>
 bnd (ibin .lss x5 t8) fun t9=>
 cnd t9
  (j128_2 x0 x1 x5 H)
  (j128_1 H)
theorem e128_l1 (H0:Hp) (x0 x1 x5:AV) (H:Hp):j128_l1 H0 x0 x1 x5 H=b128_l1 (j128_1 H0) (j128_2 H0) x0 x1 x5 H:=(LPL_eqm (C:=cfg) [3,4,6] (tame_block 0 (k128_1_tame H0)) _ _).trans (by kernel_rfl)
theorem m128_l1 {j128_1 dj128_1:A0} (hj128_1:L0 j128_1 dj128_1) {j128_2 dj128_2:A3} (hj128_2:L3 j128_2 dj128_2):L3 (b128_l1 j128_1 j128_2) (b128_l1 dj128_1 dj128_2):=fun _ _ _ _=>
 bR fun _=>bR fun _=>bK (hj128_2 _ _ _ _) (hj128_1 _)
def rj128_1:A0:=b128_1
theorem sj128_1 (H0:Hp):L0 (rj128_1) (j128_1 H0):=fun _=>le_eq (m128_1 _) (e128_1 H0 _)
def rj128_3 (j128_l1:A3):A3:=b128_3 j128_l1
theorem sj128_3 (H0:Hp) {yj128_l1:A3} (hj128_l1:L3 yj128_l1 (j128_l1 H0)):L3 (rj128_3 yj128_l1) (j128_3 H0):=fun _ _ _ _=>le_eq (m128_3 hj128_l1 _ _ _ _) (e128_3 H0 _ _ _ _)
def rj128_2 (j128_l1:A3):A3:=b128_2 (rj128_3 j128_l1)
theorem sj128_2 (H0:Hp) {yj128_l1:A3} (hj128_l1:L3 yj128_l1 (j128_l1 H0)):L3 (rj128_2 yj128_l1) (j128_2 H0):=fun _ _ _ _=>le_eq (m128_2 (sj128_3 H0 hj128_l1) _ _ _ _) (e128_2 H0 _ _ _ _)
def rj128_l1 (n:Nat):A3:=@Nat.rec (fun _=>A3) (fun _ _ _ _=>none) (fun _ j128_l1=>b128_l1 (rj128_1) (rj128_2 j128_l1)) n
theorem sj128_l1 (H0:Hp) (n:Nat):L3 (rj128_l1 n) (j128_l1 H0):=by
 induction n with
 | zero=>exact fun _ _ _ _=>le_none _
 | succ n hj128_l1=>exact fun _ _ _ _=>le_eq (m128_l1 (sj128_1 H0) (sj128_2 H0 hj128_l1) _ _ _ _) (e128_l1 H0 _ _ _ _)
def bc128 (j128_l1:A3) (p0 p1:AV) (H:Hp):Res:=
 j128_l1 p0 p1 (.int .i64 0) H
theorem ec128 (p0 p1:AV) (H:Hp):c128 p0 p1 H=bc128 (j128_l1 H) p0 p1 H:=(callw_cxm (C:=cfg) (fn:=Tryz.f128) (c:=bodyOf Tryz.f128) (n:=17) [3,4,6] Tryz.func128 (by kernel_rfl) (by kernel_rfl) [p0,p1] (by kernel_rfl) H).trans (by kernel_rfl)
theorem mc128 {j128_l1 dj128_l1:A3} (hj128_l1:L3 j128_l1 dj128_l1):L2 (bc128 j128_l1) (bc128 dj128_l1):=fun _ _ _=>
 hj128_l1 _ _ _ _
def rc128:A2:=fun p0 p1 H=>bc128 (rj128_l1 100000) p0 p1 H
theorem sc128:L2 rc128 c128:=fun _ _ H=>le_eq (mc128 (sj128_l1 H 100000) _ _ _) (ec128 _ _ _)

def c102 (p0 p1:AV) (H:Hp):Res:=callw cfg 102 [p0,p1] H
def j102_1 (H0:Hp) (x1:AV) (H:Hp):Res:=CXf 102 11 (sub (bodyOf Tryz.f102) [1,1]) (retL cfg 11 102 Tryz.f102 H0) [(1,x1)] H
def b102_1 (c128:A2) (x1:AV) (H:Hp):Res:=
 bnd (c128 (.str [46,91,93,42,94,36,92]) x1 H) fun r10=>
 some (r10.1,r10.2)
theorem e102_1 (H0:Hp) (x1:AV) (H:Hp):j102_1 H0 x1 H=b102_1 c128 x1 H:=(CXM_eq [3] _ _ _ _).trans (by kernel_rfl)
theorem m102_1 {c128 dc128:A2} (hc128:L2 c128 dc128):L1 (b102_1 c128) (b102_1 dc128):=fun _ _=>
 bC (hc128 _ _ _) fun _=>le_refl _
def rj102_1:A1:=b102_1 rc128
theorem sj102_1 (H0:Hp):L1 (rj102_1) (j102_1 H0):=fun _ _=>le_eq (m102_1 sc128 _ _) (e102_1 H0 _ _)
def bc102 (c128:A2) (c41:A1) (j102_1:A1) (p0 p1:AV) (H:Hp):Res:=
 bnd (c41 p0 H) fun r6=>
 cnd r6.1
  (bnd (c128 (.str [46,91,93,40,41,42,43,63,123,125,124,94,36,92]) p1 r6.2) fun r8=>
  some (r8.1,r8.2))
  (j102_1 p1 r6.2)
theorem ec102 (p0 p1:AV) (H:Hp):c102 p0 p1 H=bc102 c128 c41 (j102_1 H) p0 p1 H:=(callw_cxm (C:=cfg) (fn:=Tryz.f102) (c:=bodyOf Tryz.f102) (n:=11) [3] Tryz.func102 (by kernel_rfl) (by kernel_rfl) [p0,p1] (by kernel_rfl) H).trans (by kernel_rfl)
theorem mc102 {c128 dc128:A2} (hc128:L2 c128 dc128) {c41 dc41:A1} (hc41:L1 c41 dc41) {j102_1 dj102_1:A1} (hj102_1:L1 j102_1 dj102_1):L2 (bc102 c128 c41 j102_1) (bc102 dc128 dc41 dj102_1):=fun _ _ _=>
 bC (hc41 _ _) fun _=>bK (bC (hc128 _ _ _) fun _=>le_refl _) (hj102_1 _ _)
def rc102:A2:=fun p0 p1 H=>bc102 rc128 rc41 (rj102_1) p0 p1 H
theorem sc102:L2 rc102 c102:=fun _ _ H=>le_eq (mc102 sc128 sc41 (sj102_1 H) _ _ _) (ec102 _ _ _)

def c73 (p0:AV) (H:Hp):Res:=callw cfg 73 [p0] H
def j73_1 (H0:Hp) (x0 x2 x3:AV) (H:Hp):Res:=CXf 73 121 (sub (bodyOf Tryz.f73) [1,1,1]) (retL cfg 121 73 Tryz.f73 H0) [(0,x0),(2,x2),(3,x3)] H
def b73_1 (c51:A2) (x0 x2 x3:AV) (H:Hp):Res:=
 bnd (anil x0) fun t112=>
 bnd (afield 1 t112) fun t113=>
 bnd (aload false 1 t113 H) fun t114=>
 bnd (ibin .add t114 (.int .i64 1)) fun t115=>
 bnd (anil x0) fun t116=>
 bnd (afield 1 t116) fun t117=>
 bnd (astoreU 1 t117 t115 H) fun r_15=>
 bnd (c51 x0 x3 r_15.2) fun r120=>
 bnd (astoreU 9 x2 r120.1 r120.2) fun r_17=>
 bnd (aload true 9 x2 r_17.2) fun v2=>
 some (v2,r_17.2)
theorem e73_1 (H0:Hp) (x0 x2 x3:AV) (H:Hp):j73_1 H0 x0 x2 x3 H=b73_1 c51 x0 x2 x3 H:=(CXM_eq [17] _ _ _ _).trans (by kernel_rfl)
theorem m73_1 {c51 dc51:A2} (hc51:L2 c51 dc51):L3 (b73_1 c51) (b73_1 dc51):=fun _ _ _ _=>
 bR fun _=>bR fun _=>bR fun _=>bR fun _=>bR fun _=>bR fun _=>bR fun _=>bC (hc51 _ _ _) fun _=>bR fun _=>bR fun _=>le_refl _
def rj73_1 (gV:AV→List AV→Hp→Res):A3:=b73_1 rc51
theorem sj73_1 (H0:Hp) {gV:AV→List AV→Hp→Res} (hV:LV gV (acall cfg (callw cfg))):L3 (rj73_1 gV) (j73_1 H0):=fun _ _ _ _=>le_eq (m73_1 sc51 _ _ _ _) (e73_1 H0 _ _ _ _)
def bc73 (c102:A2) (c33:A3) (c41:A1) (c42:A3) (c72:A2) (c98:A2) (j73_1:A3) (cV:AV→List AV→Hp→Res) (p0:AV) (H:Hp):Res:=
 bnd (some ((.ptr H.length 0),H++[.cells [(.int .i64 0),(.int .u64 0),(.int .u64 0),(.int .u64 0),(.int .u64 0),(.int .i64 0),(.int .i64 0),(.int .i64 0),.nils]])) fun r2=>
 bnd (anil p0) fun t5=>
 bnd (afield 0 t5) fun t6=>
 bnd (aload false 1 t6 r2.2) fun t7=>
 bnd (anil p0) fun t9=>
 bnd (afield 1 t9) fun t10=>
 bnd (aload false 1 t10 r2.2) fun t11=>
 bnd (aindexStr t7 t11) fun t12=>
 bnd (ibin .eql t12 (.int .u8 46)) fun t15=>
 cnd t15
  (bnd (anil p0) fun t17=>
  bnd (afield 1 t17) fun t18=>
  bnd (aload false 1 t18 r2.2) fun t19=>
  bnd (ibin .add t19 (.int .i64 1)) fun t20=>
  bnd (anil p0) fun t21=>
  bnd (afield 1 t21) fun t22=>
  bnd (astoreU 1 t22 t20 r2.2) fun r_26=>
  bnd (c72 (.int .u8 0) (.int .u8 255) r_26.2) fun r24=>
  bnd (c98 p0 r24.1 r24.2) fun r25=>
  bnd ((afill [(0,1,(.int .i64 2)),(1,4,r25.1)] [(.int .i64 0),(.int .u64 0),(.int .u64 0),(.int .u64 0),(.int .u64 0),(.int .i64 0),(.int .i64 0),(.int .i64 0),.nils]).map .agg) fun t26=>
  bnd (astoreU 9 r2.1 t26 r25.2) fun r_30=>
  bnd (aload true 9 r2.1 r_30.2) fun v2=>
  some (v2,r_30.2))
  (bnd (ibin .eql t12 (.int .u8 91)) fun t29=>
  cnd t29
   (bnd (cV (.fn (.func 99) [] []) [p0] r2.2) fun r31=>
   bnd (astoreU 9 r2.1 r31.1 r31.2) fun r_34=>
   bnd (aload true 9 r2.1 r_34.2) fun v2=>
   some (v2,r_34.2))
   (bnd (c41 p0 r2.2) fun r34=>
   bnd (gdv r34.1 true (.tuple []) (some t12)) fun t36=>
   bnd (gdv r34.1 true (.tuple []) (ibin .eql t36 (.int .u8 40))) fun t37=>
   bnd (apick r34.1 t37 (.bool false)) fun t38=>
   cnd t38
    (bnd (anil p0) fun t40=>
    bnd (afield 1 t40) fun t41=>
    bnd (aload false 1 t41 r34.2) fun t42=>
    bnd (ibin .add t42 (.int .i64 1)) fun t43=>
    bnd (anil p0) fun t44=>
    bnd (afield 1 t44) fun t45=>
    bnd (astoreU 1 t45 t43 r34.2) fun r_46=>
    bnd (anil p0) fun t48=>
    bnd (afield 1 t48) fun t49=>
    bnd (aload false 1 t49 r_46.2) fun t50=>
    bnd (ibin .sub t50 (.int .i64 1)) fun t51=>
    bnd (cV (.fn (.func 100) [] []) [p0,t51] r_46.2) fun r52=>
    bnd (astoreU 9 r2.1 r52.1 r52.2) fun r_52=>
    bnd (aload true 9 r2.1 r_52.2) fun v2=>
    some (v2,r_52.2))
    (bnd (c41 p0 r34.2) fun r55=>
    bnd (aun .not r55.1) fun t56=>
    bnd (gdv t56 true (.tuple []) (some p0)) fun t58=>
    bnd (gdv t56 true (.tuple []) (some p0)) fun t59=>
    bnd (gdv t56 true (.tuple []) (anil t59)) fun t60=>
    bnd (gdv t56 true (.tuple []) (afield 1 t60)) fun t61=>
    bnd (gdv t56 true (.tuple []) (aload false 1 t61 r55.2)) fun t62=>
    bnd (gdv t56 true ((.tuple []),r55.2) (c42 t58 t62 (.str [92,40]) r55.2)) fun r63=>
    bnd (apick t56 r63.1 (.bool false)) fun t64=>
    cnd t64
     (bnd (anil p0) fun t67=>
     bnd (afield 1 t67) fun t68=>
     bnd (aload false 1 t68 r63.2) fun t69=>
     bnd (ibin .add t69 (.int .i64 2)) fun t70=>
     bnd (anil p0) fun t71=>
     bnd (afield 1 t71) fun t72=>
     bnd (astoreU 1 t72 t70 r63.2) fun r_69=>
     bnd (anil p0) fun t75=>
     bnd (afield 1 t75) fun t76=>
     bnd (aload false 1 t76 r_69.2) fun t77=>
     bnd (ibin .sub t77 (.int .i64 2)) fun t78=>
     bnd (cV (.fn (.func 100) [] []) [p0,t78] r_69.2) fun r79=>
     bnd (astoreU 9 r2.1 r79.1 r79.2) fun r_75=>
     bnd (aload true 9 r2.1 r_75.2) fun v2=>
     some (v2,r_75.2))
     (bnd (ibin .eql t12 (.int .u8 92)) fun t82=>
     cnd t82
      (bnd (cV (.fn (.func 101) [] []) [p0] r63.2) fun r84=>
      bnd (astoreU 9 r2.1 r84.1 r84.2) fun r_79=>
      bnd (aload true 9 r2.1 r_79.2) fun v2=>
      some (v2,r_79.2))
      (bnd (c102 p0 t12 r63.2) fun r88=>
      bnd (gdv r88.1 true (.tuple []) (some t12)) fun t90=>
      bnd (gdv r88.1 true (.tuple []) (ibin .neq t90 (.int .u8 93))) fun t91=>
      bnd (apick r88.1 t91 (.bool false)) fun t92=>
      bnd (gdv t92 true (.tuple []) (some t12)) fun t94=>
      bnd (gdv t92 true (.tuple []) (ibin .neq t94 (.int .u8 125))) fun t95=>
      bnd (apick t92 t95 (.bool false)) fun t96=>
      bnd (gdv t96 true (.tuple []) (some p0)) fun t98=>
      bnd (gdv t96 true ((.tuple []),r88.2) (c41 t98 r88.2)) fun r99=>
      bnd (gdv t96 true (.tuple []) (some r99.1)) fun t100=>
      bnd (gdv t100 false (.tuple []) (some t12)) fun t101=>
      bnd (gdv t100 false (.tuple []) (ibin .eql t101 (.int .u8 42))) fun t102=>
      bnd (gdv t96 true (.tuple []) (apick t100 (.bool true) t102)) fun t103=>
      bnd (apick t96 t103 (.bool false)) fun t104=>
      cnd t104
       (bnd (anil p0) fun t107=>
       bnd (afield 1 t107) fun t108=>
       bnd (aload false 1 t108 r99.2) fun t109=>
       bnd (c33 p0 (.int .i64 1) t109 r99.2) fun r110=>
       bnd (astoreU 9 r2.1 r110.1 r110.2) fun r_99=>
       bnd (aload true 9 r2.1 r_99.2) fun v2=>
       some (v2,r_99.2))
       (j73_1 p0 r2.1 t12 r99.2))))))
theorem ec73 (p0:AV) (H:Hp):c73 p0 H=bc73 c102 c33 c41 c42 c72 c98 (j73_1 H) (acall cfg (callw cfg)) p0 H:=(callw_cxm (C:=cfg) (fn:=Tryz.f73) (c:=bodyOf Tryz.f73) (n:=121) [17] Tryz.func73 (by kernel_rfl) (by kernel_rfl) [p0] (by kernel_rfl) H).trans (by kernel_rfl)
theorem mc73 {c102 dc102:A2} (hc102:L2 c102 dc102) {c33 dc33:A3} (hc33:L3 c33 dc33) {c41 dc41:A1} (hc41:L1 c41 dc41) {c42 dc42:A3} (hc42:L3 c42 dc42) {c72 dc72:A2} (hc72:L2 c72 dc72) {c98 dc98:A2} (hc98:L2 c98 dc98) {j73_1 dj73_1:A3} (hj73_1:L3 j73_1 dj73_1) {cV dcV:AV→List AV→Hp→Res} (hcV:LV cV dcV):L1 (bc73 c102 c33 c41 c42 c72 c98 j73_1 cV) (bc73 dc102 dc33 dc41 dc42 dc72 dc98 dj73_1 dcV):=fun _ _=>
 bR fun _=>bR fun _=>bR fun _=>bR fun _=>bR fun _=>bR fun _=>bR fun _=>bR fun _=>bR fun _=>bK (bR fun _=>bR fun _=>bR fun _=>bR fun _=>bR fun _=>bR fun _=>bR fun _=>bC (hc72 _ _ _) fun _=>bC (hc98 _ _ _) fun _=>bR fun _=>bR fun _=>bR fun _=>le_refl _) (bR fun _=>bK (bC (hcV _ _ _) fun _=>bR fun _=>bR fun _=>le_refl _) (bC (hc41 _ _) fun _=>bR fun _=>bR fun _=>bR fun _=>bK (bR fun _=>bR fun _=>bR fun _=>bR fun _=>bR fun _=>bR fun _=>bR fun _=>bR fun _=>bR fun _=>bR fun _=>bR fun _=>bC (hcV _ _ _) fun _=>bR fun _=>bR fun _=>le_refl _) (bC (hc41 _ _) fun _=>bR fun _=>bR fun _=>bR fun _=>bR fun _=>bR fun _=>bR fun _=>bG (hc42 _ _ _ _) fun _=>bR fun _=>bK (bR fun _=>bR fun _=>bR fun _=>bR fun _=>bR fun _=>bR fun _=>bR fun _=>bR fun _=>bR fun _=>bR fun _=>bR fun _=>bC (hcV _ _ _) fun _=>bR fun _=>bR fun _=>le_refl _) (bR fun _=>bK (bC (hcV _ _ _) fun _=>bR fun _=>bR fun _=>le_refl _) (bC (hc102 _ _ _) fun _=>bR fun _=>bR fun _=>bR fun _=>bR fun _=>bR fun _=>bR fun _=>bR fun _=>bG (hc41 _ _) fun _=>bR fun _=>bR fun _=>bR fun _=>bR fun _=>bR fun _=>bK (bR fun _=>bR fun _=>bR fun _=>bC (hc33 _ _ _ _) fun _=>bR fun _=>bR fun _=>le_refl _) (hj73_1 _ _ _ _))))))
def rc73 (gV:AV→List AV→Hp→Res):A1:=fun p0 H=>bc73 rc102 rc33 rc41 rc42 rc72 rc98 (rj73_1 gV) gV p0 H
theorem sc73 {gV:AV→List AV→Hp→Res} (hV:LV gV (acall cfg (callw cfg))):L1 (rc73 gV) c73:=fun _ H=>le_eq (mc73 sc102 sc33 sc41 sc42 sc72 sc98 (sj73_1 H hV) hV _ _) (ec73 _ _)

def c52 (p0:AV) (H:Hp):Res:=callw cfg 52 [p0] H
def j52_3 (H0:Hp) (x0 x2 x3:AV) (H:Hp):Res:=CXf 52 60 (sub (bodyOf Tryz.f52) [1,1,1,1,1]) (retL cfg 60 52 Tryz.f52 H0) [(0,x0),(2,x2),(3,x3)] H
def j52_2 (H0:Hp) (x0 x2:AV) (H:Hp):Res:=CXf 52 60 (sub (bodyOf Tryz.f52) [1,1,1]) (retL cfg 60 52 Tryz.f52 H0) [(0,x0),(2,x2)] H
def j52_1 (H0:Hp) (x0 x2:AV) (H:Hp):Res:=CXf 52 60 (sub (bodyOf Tryz.f52) [1,1]) (retL cfg 60 52 Tryz.f52 H0) [(0,x0),(2,x2)] H
def b52_3 (c50:A2) (x0 x2 x3:AV) (H:Hp):Res:=
 bnd (aload true 9 x3 H) fun t58=>
 bnd (c50 x0 t58 H) fun r59=>
 bnd (astoreU 9 x2 r59.1 r59.2) fun r_7=>
 bnd (aload true 9 x2 r_7.2) fun v2=>
 some (v2,r_7.2)
theorem e52_3 (H0:Hp) (x0 x2 x3:AV) (H:Hp):j52_3 H0 x0 x2 x3 H=b52_3 c50 x0 x2 x3 H:=(CXM_eq [4,7,10] _ _ _ _).trans (by kernel_rfl)
theorem m52_3 {c50 dc50:A2} (hc50:L2 c50 dc50):L3 (b52_3 c50) (b52_3 dc50):=fun _ _ _ _=>
 bR fun _=>bC (hc50 _ _ _) fun _=>bR fun _=>bR fun _=>le_refl _
def b52_2 (c73:A1) (j52_3:A3) (x0 x2:AV) (H:Hp):Res:=
 bnd (c73 x0 H) fun r50=>
 bnd (some ((.ptr r50.2.length 0),r50.2++[.cells [(.int .i64 0),(.int .u64 0),(.int .u64 0),(.int .u64 0),(.int .u64 0),(.int .i64 0),(.int .i64 0),(.int .i64 0),.nils]])) fun r3=>
 bnd (astoreU 9 r3.1 r50.1 r3.2) fun r_4=>
 bnd (anil x0) fun t52=>
 bnd (afield 21 t52) fun t53=>
 bnd (aload false 1 t53 r_4.2) fun t54=>
 bnd (ibin .neq t54 (.int .i64 0)) fun t55=>
 cnd t55
  (bnd (some (.agg [(.int .i64 0),(.int .u64 0),(.int .u64 0),(.int .u64 0),(.int .u64 0),(.int .i64 0),(.int .i64 0),(.int .i64 0),.nils])) fun t56=>
  bnd (astoreU 9 x2 t56 r_4.2) fun r_14=>
  bnd (aload true 9 x2 r_14.2) fun v2=>
  some (v2,r_14.2))
  (j52_3 x0 x2 r3.1 r_4.2)
theorem e52_2 (H0:Hp) (x0 x2:AV) (H:Hp):j52_2 H0 x0 x2 H=b52_2 c73 (j52_3 H0) x0 x2 H:=(CXM_eq [4,7,10] _ _ _ _).trans (by kernel_rfl)
theorem m52_2 {c73 dc73:A1} (hc73:L1 c73 dc73) {j52_3 dj52_3:A3} (hj52_3:L3 j52_3 dj52_3):L2 (b52_2 c73 j52_3) (b52_2 dc73 dj52_3):=fun _ _ _=>
 bC (hc73 _ _) fun _=>bR fun _=>bR fun _=>bR fun _=>bR fun _=>bR fun _=>bR fun _=>bK (bR fun _=>bR fun _=>bR fun _=>le_refl _) (hj52_3 _ _ _ _)
def b52_1 (c41:A1) (c42:A3) (c49:A2) (j52_2:A2) (x0 x2:AV) (H:Hp):Res:=
 bnd (anil x0) fun t24=>
 bnd (afield 1 t24) fun t25=>
 bnd (aload false 1 t25 H) fun t26=>
 bnd (c42 x0 t26 (.str [36]) H) fun r27=>
 bnd (gdv r27.1 true (.tuple []) (some x0)) fun t29=>
 bnd (gdv r27.1 true ((.tuple []),r27.2) (c41 t29 r27.2)) fun r30=>
 bnd (gdv r27.1 true (.tuple []) (some r30.1)) fun t31=>
 bnd (gdv t31 false (.tuple []) (some x0)) fun t32=>
 bnd (gdv t31 false (.tuple []) (some x0)) fun t33=>
 bnd (gdv t31 false (.tuple []) (anil t33)) fun t34=>
 bnd (gdv t31 false (.tuple []) (afield 1 t34)) fun t35=>
 bnd (gdv t31 false (.tuple []) (aload false 1 t35 r30.2)) fun t36=>
 bnd (gdv t31 false (.tuple []) (ibin .add t36 (.int .i64 1))) fun t37=>
 bnd (gdv t31 false ((.tuple []),r30.2) (c49 t32 t37 r30.2)) fun r38=>
 bnd (gdv r27.1 true (.tuple []) (apick t31 (.bool true) r38.1)) fun t39=>
 bnd (apick r27.1 t39 (.bool false)) fun t40=>
 cnd t40
  (bnd (anil x0) fun t42=>
  bnd (afield 1 t42) fun t43=>
  bnd (aload false 1 t43 r38.2) fun t44=>
  bnd (ibin .add t44 (.int .i64 1)) fun t45=>
  bnd (anil x0) fun t46=>
  bnd (afield 1 t46) fun t47=>
  bnd (astoreU 1 t47 t45 r38.2) fun r_38=>
  bnd ((afill [(0,1,(.int .i64 8))] [(.int .i64 0),(.int .u64 0),(.int .u64 0),(.int .u64 0),(.int .u64 0),(.int .i64 0),(.int .i64 0),(.int .i64 0),.nils]).map .agg) fun t48=>
  bnd (astoreU 9 x2 t48 r_38.2) fun r_40=>
  bnd (aload true 9 x2 r_40.2) fun v2=>
  some (v2,r_40.2))
  (j52_2 x0 x2 r38.2)
theorem e52_1 (H0:Hp) (x0 x2:AV) (H:Hp):j52_1 H0 x0 x2 H=b52_1 c41 c42 c49 (j52_2 H0) x0 x2 H:=(CXM_eq [4,7,10] _ _ _ _).trans (by kernel_rfl)
theorem m52_1 {c41 dc41:A1} (hc41:L1 c41 dc41) {c42 dc42:A3} (hc42:L3 c42 dc42) {c49 dc49:A2} (hc49:L2 c49 dc49) {j52_2 dj52_2:A2} (hj52_2:L2 j52_2 dj52_2):L2 (b52_1 c41 c42 c49 j52_2) (b52_1 dc41 dc42 dc49 dj52_2):=fun _ _ _=>
 bR fun _=>bR fun _=>bR fun _=>bC (hc42 _ _ _ _) fun _=>bR fun _=>bG (hc41 _ _) fun _=>bR fun _=>bR fun _=>bR fun _=>bR fun _=>bR fun _=>bR fun _=>bR fun _=>bG (hc49 _ _ _) fun _=>bR fun _=>bR fun _=>bK (bR fun _=>bR fun _=>bR fun _=>bR fun _=>bR fun _=>bR fun _=>bR fun _=>bR fun _=>bR fun _=>bR fun _=>le_refl _) (hj52_2 _ _ _)
def rj52_3 (gV:AV→List AV→Hp→Res):A3:=b52_3 (rc50 gV)
theorem sj52_3 (H0:Hp) {gV:AV→List AV→Hp→Res} (hV:LV gV (acall cfg (callw cfg))):L3 (rj52_3 gV) (j52_3 H0):=fun _ _ _ _=>le_eq (m52_3 (sc50 hV) _ _ _ _) (e52_3 H0 _ _ _ _)
def rj52_2 (gV:AV→List AV→Hp→Res):A2:=b52_2 (rc73 gV) (rj52_3 gV)
theorem sj52_2 (H0:Hp) {gV:AV→List AV→Hp→Res} (hV:LV gV (acall cfg (callw cfg))):L2 (rj52_2 gV) (j52_2 H0):=fun _ _ _=>le_eq (m52_2 (sc73 hV) (sj52_3 H0 hV) _ _ _) (e52_2 H0 _ _ _)
def rj52_1 (gV:AV→List AV→Hp→Res):A2:=b52_1 rc41 rc42 rc49 (rj52_2 gV)
theorem sj52_1 (H0:Hp) {gV:AV→List AV→Hp→Res} (hV:LV gV (acall cfg (callw cfg))):L2 (rj52_1 gV) (j52_1 H0):=fun _ _ _=>le_eq (m52_1 sc41 sc42 sc49 (sj52_2 H0 hV) _ _ _) (e52_1 H0 _ _ _)
def bc52 (c41:A1) (c42:A3) (j52_1:A2) (p0:AV) (H:Hp):Res:=
 bnd (some ((.ptr H.length 0),H++[.cells [(.int .i64 0),(.int .u64 0),(.int .u64 0),(.int .u64 0),(.int .u64 0),(.int .i64 0),(.int .i64 0),(.int .i64 0),.nils]])) fun r2=>
 bnd (c41 p0 r2.2) fun r5=>
 bnd (gdv r5.1 true (.tuple []) (some p0)) fun t7=>
 bnd (gdv r5.1 true (.tuple []) (some p0)) fun t8=>
 bnd (gdv r5.1 true (.tuple []) (anil t8)) fun t9=>
 bnd (gdv r5.1 true (.tuple []) (afield 1 t9)) fun t10=>
 bnd (gdv r5.1 true (.tuple []) (aload false 1 t10 r5.2)) fun t11=>
 bnd (gdv r5.1 true ((.tuple []),r5.2) (c42 t7 t11 (.str [94]) r5.2)) fun r12=>
 bnd (apick r5.1 r12.1 (.bool false)) fun t13=>
 cnd t13
  (bnd (anil p0) fun t15=>
  bnd (afield 1 t15) fun t16=>
  bnd (aload false 1 t16 r12.2) fun t17=>
  bnd (ibin .add t17 (.int .i64 1)) fun t18=>
  bnd (anil p0) fun t19=>
  bnd (afield 1 t19) fun t20=>
  bnd (astoreU 1 t20 t18 r12.2) fun r_56=>
  bnd ((afill [(0,1,(.int .i64 7))] [(.int .i64 0),(.int .u64 0),(.int .u64 0),(.int .u64 0),(.int .u64 0),(.int .i64 0),(.int .i64 0),(.int .i64 0),.nils]).map .agg) fun t21=>
  bnd (astoreU 9 r2.1 t21 r_56.2) fun r_58=>
  bnd (aload true 9 r2.1 r_58.2) fun v2=>
  some (v2,r_58.2))
  (j52_1 p0 r2.1 r12.2)
theorem ec52 (p0:AV) (H:Hp):c52 p0 H=bc52 c41 c42 (j52_1 H) p0 H:=(callw_cxm (C:=cfg) (fn:=Tryz.f52) (c:=bodyOf Tryz.f52) (n:=60) [4,7,10] Tryz.func52 (by kernel_rfl) (by kernel_rfl) [p0] (by kernel_rfl) H).trans (by kernel_rfl)
theorem mc52 {c41 dc41:A1} (hc41:L1 c41 dc41) {c42 dc42:A3} (hc42:L3 c42 dc42) {j52_1 dj52_1:A2} (hj52_1:L2 j52_1 dj52_1):L1 (bc52 c41 c42 j52_1) (bc52 dc41 dc42 dj52_1):=fun _ _=>
 bR fun _=>bC (hc41 _ _) fun _=>bR fun _=>bR fun _=>bR fun _=>bR fun _=>bR fun _=>bG (hc42 _ _ _ _) fun _=>bR fun _=>bK (bR fun _=>bR fun _=>bR fun _=>bR fun _=>bR fun _=>bR fun _=>bR fun _=>bR fun _=>bR fun _=>bR fun _=>le_refl _) (hj52_1 _ _ _)
def rc52 (gV:AV→List AV→Hp→Res):A1:=fun p0 H=>bc52 rc41 rc42 (rj52_1 gV) p0 H
theorem sc52 {gV:AV→List AV→Hp→Res} (hV:LV gV (acall cfg (callw cfg))):L1 (rc52 gV) c52:=fun _ H=>le_eq (mc52 sc41 sc42 (sj52_1 H hV) _ _) (ec52 _ _)

def c40 (p0:AV) (H:Hp):Res:=callw cfg 40 [p0] H
def j40_3 (H0:Hp) (x2 x3:AV) (H:Hp):Res:=CXf 40 99 (sub (bodyOf Tryz.f40) [1,1,1,1,1]) (retL cfg 99 40 Tryz.f40 H0) [(2,x2),(3,x3)] H
def k40_1 (H0:Hp):KL:=seqL (fun k al H=>CXf 40 99 (sub (bodyOf Tryz.f40) [1,1,1,1,1]) k (trimL (cfg.keep 40) (sub (bodyOf Tryz.f40) [1,1,1,1,1]) al) H) (retL cfg 99 40 Tryz.f40 H0)
theorem k40_1_tame (H0:Hp):Tame 99 (k40_1 H0):=tame_seq (C:=cfg) (kp:=cfg.keep 40) (sub (bodyOf Tryz.f40) [1,1,1,1,1]) (tame_ret 40 Tryz.f40 H0)
def j40_4 (H0:Hp) (x0 x2 x3:AV) (H:Hp):Res:=CXf 40 99 (sub (bodyOf Tryz.f40) [1,1,1,1,0,0,0,1]) (seqL (fun k al H=>LPf 40 99 (sub (bodyOf Tryz.f40) [1,1,1,1,0,0,0]) k (trimL (cfg.keep 40) (sub (bodyOf Tryz.f40) [1,1,1,1,0,0,0]) al) H) (blockL 0 (k40_1 H0))) [(0,x0),(2,x2),(3,x3)] H
def j40_l1 (H0:Hp) (x0 x2 x3:AV) (H:Hp):Res:=LPf 40 99 (sub (bodyOf Tryz.f40) [1,1,1,1,0,0,0]) (blockL 0 (k40_1 H0)) [(0,x0),(2,x2),(3,x3)] H
def j40_2 (H0:Hp) (x0 x2 x3:AV) (H:Hp):Res:=CXf 40 99 (sub (bodyOf Tryz.f40) [1,1,1,1]) (retL cfg 99 40 Tryz.f40 H0) [(0,x0),(2,x2),(3,x3)] H
def k40_2 (H0:Hp):KL:=seqL (fun k al H=>CXf 40 99 (sub (bodyOf Tryz.f40) [1,1,1,1]) k (trimL (cfg.keep 40) (sub (bodyOf Tryz.f40) [1,1,1,1]) al) H) (retL cfg 99 40 Tryz.f40 H0)
def j40_5 (H0:Hp) (x0 x2 x3:AV) (H:Hp):Res:=CXf 40 99 (sub (bodyOf Tryz.f40) [1,1,1,0,1,0,1]) (k40_2 H0) [(0,x0),(2,x2),(3,x3)] H
def j40_1 (H0:Hp) (x0 x2:AV) (H:Hp):Res:=CXf 40 99 (sub (bodyOf Tryz.f40) [1,1]) (retL cfg 99 40 Tryz.f40 H0) [(0,x0),(2,x2)] H
def k40_3 (H0:Hp):KL:=seqL (fun k al H=>CXf 40 99 (sub (bodyOf Tryz.f40) [1,1]) k (trimL (cfg.keep 40) (sub (bodyOf Tryz.f40) [1,1]) al) H) (retL cfg 99 40 Tryz.f40 H0)
def j40_6 (H0:Hp) (x0 x2:AV) (H:Hp):Res:=CXf 40 99 (sub (bodyOf Tryz.f40) [1,0,1,0,1]) (k40_3 H0) [(0,x0),(2,x2)] H
def b40_3 (c43:A2) (x2 x3:AV) (H:Hp):Res:=
 bnd (c43 (.int .i64 3) x3 H) fun r98=>
 bnd (astoreU 9 x2 r98.1 r98.2) fun r_3=>
 bnd (aload true 9 x2 r_3.2) fun v2=>
 some (v2,r_3.2)
theorem e40_3 (H0:Hp) (x2 x3:AV) (H:Hp):j40_3 H0 x2 x3 H=b40_3 c43 x2 x3 H:=(CXM_eq [4,5,10,13,14,15] _ _ _ _).trans (by kernel_rfl)
theorem m40_3 {c43 dc43:A2} (hc43:L2 c43 dc43):L2 (b40_3 c43) (b40_3 dc43):=fun _ _ _=>
 bC (hc43 _ _ _) fun _=>bR fun _=>bR fun _=>le_refl _
def b40_4 (j40_l1:A3) (c52:A1) (x0 x2 x3:AV) (H:Hp):Res:=
 bnd (c52 x0 H) fun r94=>
 bnd ((setElems 9 [(0,r94.1)] [(.agg [(.int .i64 0),(.int .u64 0),(.int .u64 0),(.int .u64 0),(.int .u64 0),(.int .i64 0),(.int .i64 0),(.int .i64 0),.nils])]).map (.vs 9 .clip)) fun t95=>
 bnd (aappE 9 88 x3 t95 r94.2) fun r96=>
 j40_l1 x0 x2 r96.1 r96.2
theorem e40_4 (H0:Hp) (x0 x2 x3:AV) (H:Hp):j40_4 H0 x0 x2 x3 H=b40_4 (j40_l1 H0) c52 x0 x2 x3 H:=(CXM_eq [4,5,10,13,14,15] _ _ _ _).trans (by kernel_rfl)
theorem m40_4 {j40_l1 dj40_l1:A3} (hj40_l1:L3 j40_l1 dj40_l1) {c52 dc52:A1} (hc52:L1 c52 dc52):L3 (b40_4 j40_l1 c52) (b40_4 dj40_l1 dc52):=fun _ _ _ _=>
 bC (hc52 _ _) fun _=>bR fun _=>bR fun _=>hj40_l1 _ _ _ _
def b40_l1 (c49:A2) (j40_3:A2) (j40_4:A3) (x0 x2 x3:AV) (H:Hp):Res:=
 bnd (anil x0) fun t79=>
 bnd (afield 21 t79) fun t80=>
 bnd (aload false 1 t80 H) fun t81=>
 bnd (ibin .eql t81 (.int .i64 0)) fun t82=>
 bnd (gdv t82 true (.tuple []) (some x0)) fun t84=>
 bnd (gdv t82 true (.tuple []) (some x0)) fun t85=>
 bnd (gdv t82 true (.tuple []) (anil t85)) fun t86=>
 bnd (gdv t82 true (.tuple []) (afield 1 t86)) fun t87=>
 bnd (gdv t82 true (.tuple []) (aload false 1 t87 H)) fun t88=>
 bnd (gdv t82 true ((.tuple []),H) (c49 t84 t88 H)) fun r89=>
 bnd (gdv t82 true (.tuple []) (aun .not r89.1)) fun t90=>
 bnd (apick t82 t90 (.bool false)) fun t91=>
 cnd t91
  (j40_4 x0 x2 x3 r89.2)
  (j40_3 x2 x3 r89.2)
theorem e40_l1 (H0:Hp) (x0 x2 x3:AV) (H:Hp):j40_l1 H0 x0 x2 x3 H=b40_l1 c49 (j40_3 H0) (j40_4 H0) x0 x2 x3 H:=(LPL_eqm (C:=cfg) [4,5,10,13,14,15] (tame_block 0 (k40_1_tame H0)) _ _).trans (by kernel_rfl)
theorem m40_l1 {c49 dc49:A2} (hc49:L2 c49 dc49) {j40_3 dj40_3:A2} (hj40_3:L2 j40_3 dj40_3) {j40_4 dj40_4:A3} (hj40_4:L3 j40_4 dj40_4):L3 (b40_l1 c49 j40_3 j40_4) (b40_l1 dc49 dj40_3 dj40_4):=fun _ _ _ _=>
 bR fun _=>bR fun _=>bR fun _=>bR fun _=>bR fun _=>bR fun _=>bR fun _=>bR fun _=>bR fun _=>bG (hc49 _ _ _) fun _=>bR fun _=>bR fun _=>bK (hj40_4 _ _ _ _) (hj40_3 _ _ _)
def b40_2 (j40_l1:A3) (x0 x2 x3:AV) (H:Hp):Res:=
 j40_l1 x0 x2 x3 H
theorem e40_2 (H0:Hp) (x0 x2 x3:AV) (H:Hp):j40_2 H0 x0 x2 x3 H=b40_2 (j40_l1 H0) x0 x2 x3 H:=(CXM_eq [4,5,10,13,14,15] _ _ _ _).trans (by kernel_rfl)
theorem m40_2 {j40_l1 dj40_l1:A3} (hj40_l1:L3 j40_l1 dj40_l1):L3 (b40_2 j40_l1) (b40_2 dj40_l1):=fun _ _ _ _=>
 hj40_l1 _ _ _ _
def b40_5 (c42:A3) (c50:A2) (c51:A2) (j40_2:A3) (x0 x2 x3:AV) (H:Hp):Res:=
 bnd (anil x0) fun t60=>
 bnd (afield 1 t60) fun t61=>
 bnd (aload false 1 t61 H) fun t62=>
 bnd (c42 x0 t62 (.str [42]) H) fun r63=>
 cnd r63.1
  (bnd (anil x0) fun t65=>
  bnd (afield 1 t65) fun t66=>
  bnd (aload false 1 t66 r63.2) fun t67=>
  bnd (ibin .add t67 (.int .i64 1)) fun t68=>
  bnd (anil x0) fun t69=>
  bnd (afield 1 t69) fun t70=>
  bnd (astoreU 1 t70 t68 r63.2) fun r_32=>
  bnd (c51 x0 (.int .u8 42) r_32.2) fun r74=>
  bnd (c50 x0 r74.1 r74.2) fun r75=>
  bnd ((setElems 9 [(0,r75.1)] [(.agg [(.int .i64 0),(.int .u64 0),(.int .u64 0),(.int .u64 0),(.int .u64 0),(.int .i64 0),(.int .i64 0),(.int .i64 0),.nils])]).map (.vs 9 .clip)) fun t76=>
  bnd (aappE 9 88 x3 t76 r75.2) fun r77=>
  j40_2 x0 x2 r77.1 r77.2)
  (j40_2 x0 x2 x3 r63.2)
theorem e40_5 (H0:Hp) (x0 x2 x3:AV) (H:Hp):j40_5 H0 x0 x2 x3 H=b40_5 c42 c50 c51 (j40_2 H0) x0 x2 x3 H:=(CXM_eq [4,5,10,13,14,15] _ _ _ _).trans (by kernel_rfl)
theorem m40_5 {c42 dc42:A3} (hc42:L3 c42 dc42) {c50 dc50:A2} (hc50:L2 c50 dc50) {c51 dc51:A2} (hc51:L2 c51 dc51) {j40_2 dj40_2:A3} (hj40_2:L3 j40_2 dj40_2):L3 (b40_5 c42 c50 c51 j40_2) (b40_5 dc42 dc50 dc51 dj40_2):=fun _ _ _ _=>
 bR fun _=>bR fun _=>bR fun _=>bC (hc42 _ _ _ _) fun _=>bK (bR fun _=>bR fun _=>bR fun _=>bR fun _=>bR fun _=>bR fun _=>bR fun _=>bC (hc51 _ _ _) fun _=>bC (hc50 _ _ _) fun _=>bR fun _=>bR fun _=>hj40_2 _ _ _ _) (hj40_2 _ _ _ _)
def b40_1 (c41:A1) (c42:A3) (j40_2:A3) (j40_5:A3) (x0 x2:AV) (H:Hp):Res:=
 bnd (c41 x0 H) fun r39=>
 bnd (aun .not r39.1) fun t40=>
 cnd t40
  (bnd (anil x0) fun t43=>
  bnd (afield 1 t43) fun t44=>
  bnd (aload false 1 t44 r39.2) fun t45=>
  bnd (c42 x0 t45 (.str [94]) r39.2) fun r46=>
  cnd r46.1
   (bnd (anil x0) fun t48=>
   bnd (afield 1 t48) fun t49=>
   bnd (aload false 1 t49 r46.2) fun t50=>
   bnd (ibin .add t50 (.int .i64 1)) fun t51=>
   bnd (anil x0) fun t52=>
   bnd (afield 1 t52) fun t53=>
   bnd (astoreU 1 t53 t51 r46.2) fun r_47=>
   bnd ((afill [(0,1,(.int .i64 7))] [(.int .i64 0),(.int .u64 0),(.int .u64 0),(.int .u64 0),(.int .u64 0),(.int .i64 0),(.int .i64 0),(.int .i64 0),.nils]).map .agg) fun t55=>
   bnd ((setElems 9 [(0,t55)] [(.agg [(.int .i64 0),(.int .u64 0),(.int .u64 0),(.int .u64 0),(.int .u64 0),(.int .i64 0),(.int .i64 0),(.int .i64 0),.nils])]).map (.vs 9 .clip)) fun t56=>
   bnd (aappE 9 88 .nils t56 r_47.2) fun r57=>
   j40_5 x0 x2 r57.1 r57.2)
   (j40_5 x0 x2 .nils r46.2))
  (j40_2 x0 x2 .nils r39.2)
theorem e40_1 (H0:Hp) (x0 x2:AV) (H:Hp):j40_1 H0 x0 x2 H=b40_1 c41 c42 (j40_2 H0) (j40_5 H0) x0 x2 H:=(CXM_eq [4,5,10,13,14,15] _ _ _ _).trans (by kernel_rfl)
theorem m40_1 {c41 dc41:A1} (hc41:L1 c41 dc41) {c42 dc42:A3} (hc42:L3 c42 dc42) {j40_2 dj40_2:A3} (hj40_2:L3 j40_2 dj40_2) {j40_5 dj40_5:A3} (hj40_5:L3 j40_5 dj40_5):L2 (b40_1 c41 c42 j40_2 j40_5) (b40_1 dc41 dc42 dj40_2 dj40_5):=fun _ _ _=>
 bC (hc41 _ _) fun _=>bR fun _=>bK (bR fun _=>bR fun _=>bR fun _=>bC (hc42 _ _ _ _) fun _=>bK (bR fun _=>bR fun _=>bR fun _=>bR fun _=>bR fun _=>bR fun _=>bR fun _=>bR fun _=>bR fun _=>bR fun _=>hj40_5 _ _ _ _) (hj40_5 _ _ _ _)) (hj40_2 _ _ _ _)
def b40_6 (c33:A3) (x0 x2:AV) (H:Hp):Res:=
 bnd (anil x0) fun t34=>
 bnd (afield 1 t34) fun t35=>
 bnd (aload false 1 t35 H) fun t36=>
 bnd (c33 x0 (.int .i64 1) t36 H) fun r37=>
 bnd (astoreU 9 x2 r37.1 r37.2) fun r_59=>
 bnd (aload true 9 x2 r_59.2) fun v2=>
 some (v2,r_59.2)
theorem e40_6 (H0:Hp) (x0 x2:AV) (H:Hp):j40_6 H0 x0 x2 H=b40_6 c33 x0 x2 H:=(CXM_eq [4,5,10,13,14,15] _ _ _ _).trans (by kernel_rfl)
theorem m40_6 {c33 dc33:A3} (hc33:L3 c33 dc33):L2 (b40_6 c33) (b40_6 dc33):=fun _ _ _=>
 bR fun _=>bR fun _=>bR fun _=>bC (hc33 _ _ _ _) fun _=>bR fun _=>bR fun _=>le_refl _
def rj40_3 (gV:AV→List AV→Hp→Res):A2:=b40_3 rc43
theorem sj40_3 (H0:Hp) {gV:AV→List AV→Hp→Res} (hV:LV gV (acall cfg (callw cfg))):L2 (rj40_3 gV) (j40_3 H0):=fun _ _ _=>le_eq (m40_3 sc43 _ _ _) (e40_3 H0 _ _ _)
def rj40_4 (gV:AV→List AV→Hp→Res) (j40_l1:A3):A3:=b40_4 j40_l1 (rc52 gV)
theorem sj40_4 (H0:Hp) {gV:AV→List AV→Hp→Res} (hV:LV gV (acall cfg (callw cfg))) {yj40_l1:A3} (hj40_l1:L3 yj40_l1 (j40_l1 H0)):L3 (rj40_4 gV yj40_l1) (j40_4 H0):=fun _ _ _ _=>le_eq (m40_4 hj40_l1 (sc52 hV) _ _ _ _) (e40_4 H0 _ _ _ _)
def rj40_l1 (gV:AV→List AV→Hp→Res) (n:Nat):A3:=@Nat.rec (fun _=>A3) (fun _ _ _ _=>none) (fun _ j40_l1=>b40_l1 rc49 (rj40_3 gV) (rj40_4 gV j40_l1)) n
theorem sj40_l1 (H0:Hp) {gV:AV→List AV→Hp→Res} (hV:LV gV (acall cfg (callw cfg))) (n:Nat):L3 (rj40_l1 gV n) (j40_l1 H0):=by
 induction n with
 | zero=>exact fun _ _ _ _=>le_none _
 | succ n hj40_l1=>exact fun _ _ _ _=>le_eq (m40_l1 sc49 (sj40_3 H0 hV) (sj40_4 H0 hV hj40_l1) _ _ _ _) (e40_l1 H0 _ _ _ _)
def rj40_2 (gV:AV→List AV→Hp→Res):A3:=b40_2 (rj40_l1 gV 100000)
theorem sj40_2 (H0:Hp) {gV:AV→List AV→Hp→Res} (hV:LV gV (acall cfg (callw cfg))):L3 (rj40_2 gV) (j40_2 H0):=fun _ _ _ _=>le_eq (m40_2 (sj40_l1 H0 hV 100000) _ _ _ _) (e40_2 H0 _ _ _ _)
def rj40_5 (gV:AV→List AV→Hp→Res):A3:=b40_5 rc42 (rc50 gV) rc51 (rj40_2 gV)
theorem sj40_5 (H0:Hp) {gV:AV→List AV→Hp→Res} (hV:LV gV (acall cfg (callw cfg))):L3 (rj40_5 gV) (j40_5 H0):=fun _ _ _ _=>le_eq (m40_5 sc42 (sc50 hV) sc51 (sj40_2 H0 hV) _ _ _ _) (e40_5 H0 _ _ _ _)
def rj40_1 (gV:AV→List AV→Hp→Res):A2:=b40_1 rc41 rc42 (rj40_2 gV) (rj40_5 gV)
theorem sj40_1 (H0:Hp) {gV:AV→List AV→Hp→Res} (hV:LV gV (acall cfg (callw cfg))):L2 (rj40_1 gV) (j40_1 H0):=fun _ _ _=>le_eq (m40_1 sc41 sc42 (sj40_2 H0 hV) (sj40_5 H0 hV) _ _ _) (e40_1 H0 _ _ _)
def rj40_6 (gV:AV→List AV→Hp→Res):A2:=b40_6 rc33
theorem sj40_6 (H0:Hp) {gV:AV→List AV→Hp→Res} (hV:LV gV (acall cfg (callw cfg))):L2 (rj40_6 gV) (j40_6 H0):=fun _ _ _=>le_eq (m40_6 sc33 _ _ _) (e40_6 H0 _ _ _)
def bc40 (c33:A3) (c41:A1) (c49:A2) (j40_1:A2) (j40_6:A2) (p0:AV) (H:Hp):Res:=
 bnd (some ((.ptr H.length 0),H++[.cells [(.int .i64 0),(.int .u64 0),(.int .u64 0),(.int .u64 0),(.int .u64 0),(.int .i64 0),(.int .i64 0),(.int .i64 0),.nils]])) fun r2=>
 bnd (anil p0) fun t6=>
 bnd (afield 1 t6) fun t7=>
 bnd (aload false 1 t7 r2.2) fun t8=>
 bnd (c49 p0 t8 r2.2) fun r9=>
 cnd r9.1
  (bnd (c41 p0 r9.2) fun r11=>
  bnd (aun .not r11.1) fun t12=>
  bnd (gdv t12 true (.tuple []) (some p0)) fun t14=>
  bnd (gdv t12 true (.tuple []) (anil t14)) fun t15=>
  bnd (gdv t12 true (.tuple []) (afield 1 t15)) fun t16=>
  bnd (gdv t12 true (.tuple []) (aload false 1 t16 r11.2)) fun t17=>
  bnd (gdv t12 true (.tuple []) (some p0)) fun t18=>
  bnd (gdv t12 true (.tuple []) (anil t18)) fun t19=>
  bnd (gdv t12 true (.tuple []) (afield 0 t19)) fun t20=>
  bnd (gdv t12 true (.tuple []) (aload false 1 t20 r11.2)) fun t21=>
  bnd (gdv t12 true (.tuple []) (alenD .string t21)) fun t22=>
  bnd (gdv t12 true (.tuple []) (ibin .lss t17 t22)) fun t23=>
  bnd (apick t12 t23 (.bool false)) fun t24=>
  cnd t24
   (bnd (anil p0) fun t27=>
   bnd (afield 1 t27) fun t28=>
   bnd (aload false 1 t28 r11.2) fun t29=>
   bnd (ibin .add t29 (.int .i64 1)) fun t30=>
   bnd (c33 p0 (.int .i64 1) t30 r11.2) fun r31=>
   bnd (astoreU 9 r2.1 r31.1 r31.2) fun r_79=>
   bnd (aload true 9 r2.1 r_79.2) fun v2=>
   some (v2,r_79.2))
   (j40_6 p0 r2.1 r11.2))
  (j40_1 p0 r2.1 r9.2)
theorem ec40 (p0:AV) (H:Hp):c40 p0 H=bc40 c33 c41 c49 (j40_1 H) (j40_6 H) p0 H:=(callw_cxm (C:=cfg) (fn:=Tryz.f40) (c:=bodyOf Tryz.f40) (n:=99) [4,5,10,13,14,15] Tryz.func40 (by kernel_rfl) (by kernel_rfl) [p0] (by kernel_rfl) H).trans (by kernel_rfl)
theorem mc40 {c33 dc33:A3} (hc33:L3 c33 dc33) {c41 dc41:A1} (hc41:L1 c41 dc41) {c49 dc49:A2} (hc49:L2 c49 dc49) {j40_1 dj40_1:A2} (hj40_1:L2 j40_1 dj40_1) {j40_6 dj40_6:A2} (hj40_6:L2 j40_6 dj40_6):L1 (bc40 c33 c41 c49 j40_1 j40_6) (bc40 dc33 dc41 dc49 dj40_1 dj40_6):=fun _ _=>
 bR fun _=>bR fun _=>bR fun _=>bR fun _=>bC (hc49 _ _ _) fun _=>bK (bC (hc41 _ _) fun _=>bR fun _=>bR fun _=>bR fun _=>bR fun _=>bR fun _=>bR fun _=>bR fun _=>bR fun _=>bR fun _=>bR fun _=>bR fun _=>bR fun _=>bK (bR fun _=>bR fun _=>bR fun _=>bR fun _=>bC (hc33 _ _ _ _) fun _=>bR fun _=>bR fun _=>le_refl _) (hj40_6 _ _ _)) (hj40_1 _ _ _)
def rc40 (gV:AV→List AV→Hp→Res):A1:=fun p0 H=>bc40 rc33 rc41 rc49 (rj40_1 gV) (rj40_6 gV) p0 H
theorem sc40 {gV:AV→List AV→Hp→Res} (hV:LV gV (acall cfg (callw cfg))):L1 (rc40 gV) c40:=fun _ H=>le_eq (mc40 sc33 sc41 sc49 (sj40_1 H hV) (sj40_6 H hV) _ _) (ec40 _ _)

def c32 (p0:AV) (H:Hp):Res:=callw cfg 32 [p0] H
def j32_1 (H0:Hp) (x2 x3:AV) (H:Hp):Res:=CXf 32 38 (sub (bodyOf Tryz.f32) [1,1,1]) (retL cfg 38 32 Tryz.f32 H0) [(2,x2),(3,x3)] H
def k32_1 (H0:Hp):KL:=seqL (fun k al H=>CXf 32 38 (sub (bodyOf Tryz.f32) [1,1,1]) k (trimL (cfg.keep 32) (sub (bodyOf Tryz.f32) [1,1,1]) al) H) (retL cfg 38 32 Tryz.f32 H0)
theorem k32_1_tame (H0:Hp):Tame 38 (k32_1 H0):=tame_seq (C:=cfg) (kp:=cfg.keep 32) (sub (bodyOf Tryz.f32) [1,1,1]) (tame_ret 32 Tryz.f32 H0)
def j32_2 (H0:Hp) (x0 x2 x3:AV) (H:Hp):Res:=CXf 32 38 (sub (bodyOf Tryz.f32) [1,1,0,0,0,1]) (seqL (fun k al H=>LPf 32 38 (sub (bodyOf Tryz.f32) [1,1,0,0,0]) k (trimL (cfg.keep 32) (sub (bodyOf Tryz.f32) [1,1,0,0,0]) al) H) (blockL 0 (k32_1 H0))) [(0,x0),(2,x2),(3,x3)] H
def j32_l1 (H0:Hp) (x0 x2 x3:AV) (H:Hp):Res:=LPf 32 38 (sub (bodyOf Tryz.f32) [1,1,0,0,0]) (blockL 0 (k32_1 H0)) [(0,x0),(2,x2),(3,x3)] H
def b32_1 (c43:A2) (x2 x3:AV) (H:Hp):Res:=
 bnd (c43 (.int .i64 4) x3 H) fun r37=>
 bnd (astoreU 9 x2 r37.1 r37.2) fun r_5=>
 bnd (aload true 9 x2 r_5.2) fun v2=>
 some (v2,r_5.2)
theorem e32_1 (H0:Hp) (x2 x3:AV) (H:Hp):j32_1 H0 x2 x3 H=b32_1 c43 x2 x3 H:=(CXM_eq [3,5] _ _ _ _).trans (by kernel_rfl)
theorem m32_1 {c43 dc43:A2} (hc43:L2 c43 dc43):L2 (b32_1 c43) (b32_1 dc43):=fun _ _ _=>
 bC (hc43 _ _ _) fun _=>bR fun _=>bR fun _=>le_refl _
def b32_2 (j32_l1:A3) (c40:A1) (x0 x2 x3:AV) (H:Hp):Res:=
 bnd (anil x0) fun t25=>
 bnd (afield 1 t25) fun t26=>
 bnd (aload false 1 t26 H) fun t27=>
 bnd (ibin .add t27 (.int .i64 1)) fun t28=>
 bnd (anil x0) fun t29=>
 bnd (afield 1 t29) fun t30=>
 bnd (astoreU 1 t30 t28 H) fun r_13=>
 bnd (c40 x0 r_13.2) fun r33=>
 bnd ((setElems 9 [(0,r33.1)] [(.agg [(.int .i64 0),(.int .u64 0),(.int .u64 0),(.int .u64 0),(.int .u64 0),(.int .i64 0),(.int .i64 0),(.int .i64 0),.nils])]).map (.vs 9 .clip)) fun t34=>
 bnd (aappE 9 88 x3 t34 r33.2) fun r35=>
 j32_l1 x0 x2 r35.1 r35.2
theorem e32_2 (H0:Hp) (x0 x2 x3:AV) (H:Hp):j32_2 H0 x0 x2 x3 H=b32_2 (j32_l1 H0) c40 x0 x2 x3 H:=(CXM_eq [3,5] _ _ _ _).trans (by kernel_rfl)
theorem m32_2 {j32_l1 dj32_l1:A3} (hj32_l1:L3 j32_l1 dj32_l1) {c40 dc40:A1} (hc40:L1 c40 dc40):L3 (b32_2 j32_l1 c40) (b32_2 dj32_l1 dc40):=fun _ _ _ _=>
 bR fun _=>bR fun _=>bR fun _=>bR fun _=>bR fun _=>bR fun _=>bR fun _=>bC (hc40 _ _) fun _=>bR fun _=>bR fun _=>hj32_l1 _ _ _ _
def b32_l1 (c41:A1) (c42:A3) (j32_1:A2) (j32_2:A3) (x0 x2 x3:AV) (H:Hp):Res:=
 bnd (anil x0) fun t8=>
 bnd (afield 21 t8) fun t9=>
 bnd (aload false 1 t9 H) fun t10=>
 bnd (ibin .eql t10 (.int .i64 0)) fun t11=>
 bnd (gdv t11 true (.tuple []) (some x0)) fun t13=>
 bnd (gdv t11 true ((.tuple []),H) (c41 t13 H)) fun r14=>
 bnd (apick t11 r14.1 (.bool false)) fun t15=>
 bnd (gdv t15 true (.tuple []) (some x0)) fun t17=>
 bnd (gdv t15 true (.tuple []) (some x0)) fun t18=>
 bnd (gdv t15 true (.tuple []) (anil t18)) fun t19=>
 bnd (gdv t15 true (.tuple []) (afield 1 t19)) fun t20=>
 bnd (gdv t15 true (.tuple []) (aload false 1 t20 r14.2)) fun t21=>
 bnd (gdv t15 true ((.tuple []),r14.2) (c42 t17 t21 (.str [124]) r14.2)) fun r22=>
 bnd (apick t15 r22.1 (.bool false)) fun t23=>
 cnd t23
  (j32_2 x0 x2 x3 r22.2)
  (j32_1 x2 x3 r22.2)
theorem e32_l1 (H0:Hp) (x0 x2 x3:AV) (H:Hp):j32_l1 H0 x0 x2 x3 H=b32_l1 c41 c42 (j32_1 H0) (j32_2 H0) x0 x2 x3 H:=(LPL_eqm (C:=cfg) [3,5] (tame_block 0 (k32_1_tame H0)) _ _).trans (by kernel_rfl)
theorem m32_l1 {c41 dc41:A1} (hc41:L1 c41 dc41) {c42 dc42:A3} (hc42:L3 c42 dc42) {j32_1 dj32_1:A2} (hj32_1:L2 j32_1 dj32_1) {j32_2 dj32_2:A3} (hj32_2:L3 j32_2 dj32_2):L3 (b32_l1 c41 c42 j32_1 j32_2) (b32_l1 dc41 dc42 dj32_1 dj32_2):=fun _ _ _ _=>
 bR fun _=>bR fun _=>bR fun _=>bR fun _=>bR fun _=>bG (hc41 _ _) fun _=>bR fun _=>bR fun _=>bR fun _=>bR fun _=>bR fun _=>bR fun _=>bG (hc42 _ _ _ _) fun _=>bR fun _=>bK (hj32_2 _ _ _ _) (hj32_1 _ _ _)
def rj32_1 (gV:AV→List AV→Hp→Res):A2:=b32_1 rc43
theorem sj32_1 (H0:Hp) {gV:AV→List AV→Hp→Res} (hV:LV gV (acall cfg (callw cfg))):L2 (rj32_1 gV) (j32_1 H0):=fun _ _ _=>le_eq (m32_1 sc43 _ _ _) (e32_1 H0 _ _ _)
def rj32_2 (gV:AV→List AV→Hp→Res) (j32_l1:A3):A3:=b32_2 j32_l1 (rc40 gV)
theorem sj32_2 (H0:Hp) {gV:AV→List AV→Hp→Res} (hV:LV gV (acall cfg (callw cfg))) {yj32_l1:A3} (hj32_l1:L3 yj32_l1 (j32_l1 H0)):L3 (rj32_2 gV yj32_l1) (j32_2 H0):=fun _ _ _ _=>le_eq (m32_2 hj32_l1 (sc40 hV) _ _ _ _) (e32_2 H0 _ _ _ _)
def rj32_l1 (gV:AV→List AV→Hp→Res) (n:Nat):A3:=@Nat.rec (fun _=>A3) (fun _ _ _ _=>none) (fun _ j32_l1=>b32_l1 rc41 rc42 (rj32_1 gV) (rj32_2 gV j32_l1)) n
theorem sj32_l1 (H0:Hp) {gV:AV→List AV→Hp→Res} (hV:LV gV (acall cfg (callw cfg))) (n:Nat):L3 (rj32_l1 gV n) (j32_l1 H0):=by
 induction n with
 | zero=>exact fun _ _ _ _=>le_none _
 | succ n hj32_l1=>exact fun _ _ _ _=>le_eq (m32_l1 sc41 sc42 (sj32_1 H0 hV) (sj32_2 H0 hV hj32_l1) _ _ _ _) (e32_l1 H0 _ _ _ _)
def bc32 (c40:A1) (j32_l1:A3) (p0:AV) (H:Hp):Res:=
 bnd (some ((.ptr H.length 0),H++[.cells [(.int .i64 0),(.int .u64 0),(.int .u64 0),(.int .u64 0),(.int .u64 0),(.int .i64 0),(.int .i64 0),(.int .i64 0),.nils]])) fun r2=>
 bnd (c40 p0 r2.2) fun r5=>
 bnd ((setElems 9 [(0,r5.1)] [(.agg [(.int .i64 0),(.int .u64 0),(.int .u64 0),(.int .u64 0),(.int .u64 0),(.int .i64 0),(.int .i64 0),(.int .i64 0),.nils])]).map (.vs 9 .clip)) fun t6=>
 j32_l1 p0 r2.1 t6 r5.2
theorem ec32 (p0:AV) (H:Hp):c32 p0 H=bc32 c40 (j32_l1 H) p0 H:=(callw_cxm (C:=cfg) (fn:=Tryz.f32) (c:=bodyOf Tryz.f32) (n:=38) [3,5] Tryz.func32 (by kernel_rfl) (by kernel_rfl) [p0] (by kernel_rfl) H).trans (by kernel_rfl)
theorem mc32 {c40 dc40:A1} (hc40:L1 c40 dc40) {j32_l1 dj32_l1:A3} (hj32_l1:L3 j32_l1 dj32_l1):L1 (bc32 c40 j32_l1) (bc32 dc40 dj32_l1):=fun _ _=>
 bR fun _=>bC (hc40 _ _) fun _=>bR fun _=>hj32_l1 _ _ _ _
def rc32 (gV:AV→List AV→Hp→Res):A1:=fun p0 H=>bc32 (rc40 gV) (rj32_l1 gV 100000) p0 H
theorem sc32 {gV:AV→List AV→Hp→Res} (hV:LV gV (acall cfg (callw cfg))):L1 (rc32 gV) c32:=fun _ H=>le_eq (mc32 (sc40 hV) (sj32_l1 H hV 100000) _ _) (ec32 _ _)

def c25 (p0 p1 p2:AV) (H:Hp):Res:=callw cfg 25 [p0,p1,p2] H
def j25_5 (H0:Hp) (x6 x10:AV) (H:Hp):Res:=CXf 25 72 (sub (bodyOf Tryz.f25) [1,1,1,1,1,1,1,1]) (retL cfg 72 25 Tryz.f25 H0) [(6,x6),(10,x10)] H
def j25_4 (H0:Hp) (x6 x9 x10:AV) (H:Hp):Res:=CXf 25 72 (sub (bodyOf Tryz.f25) [1,1,1,1,1,1,1]) (retL cfg 72 25 Tryz.f25 H0) [(6,x6),(9,x9),(10,x10)] H
def j25_3 (H0:Hp) (x6 x9 x10:AV) (H:Hp):Res:=CXf 25 72 (sub (bodyOf Tryz.f25) [1,1,1,1,1,1]) (retL cfg 72 25 Tryz.f25 H0) [(6,x6),(9,x9),(10,x10)] H
def j25_2 (H0:Hp) (x0 x1 x5 x6:AV) (H:Hp):Res:=CXf 25 72 (sub (bodyOf Tryz.f25) [1,1,1]) (retL cfg 72 25 Tryz.f25 H0) [(0,x0),(1,x1),(5,x5),(6,x6)] H
def j25_1 (H0:Hp) (x0 x1 x5 x6:AV) (H:Hp):Res:=CXf 25 72 (sub (bodyOf Tryz.f25) [1,1]) (retL cfg 72 25 Tryz.f25 H0) [(0,x0),(1,x1),(5,x5),(6,x6)] H
def b25_5 (x6 x10:AV) (H:Hp):Res:=
 bnd (aload true 9 x10 H) fun t71=>
 bnd (astoreU 9 x6 t71 H) fun r_10=>
 bnd (aload true 9 x6 r_10.2) fun v6=>
 some ((.tuple [v6,(.int .i64 0),(.int .i64 0)]),r_10.2)
theorem e25_5 (H0:Hp) (x6 x10:AV) (H:Hp):j25_5 H0 x6 x10 H=b25_5 x6 x10 H:=(CXM_eq [3,5,9,11,13] _ _ _ _).trans (by kernel_rfl)
theorem m25_5:L2 (b25_5) (b25_5):=fun _ _ _=>
 bR fun _=>bR fun _=>bR fun _=>le_refl _
def b25_4 (j25_5:A2) (x6 x9 x10:AV) (H:Hp):Res:=
 bnd (anil x9) fun t58=>
 bnd (afield 21 t58) fun t59=>
 bnd (aload false 1 t59 H) fun t60=>
 bnd (ibin .neq t60 (.int .i64 0)) fun t61=>
 cnd t61
  (frzK x9 H fun z9 z9H=>
  bnd (some (.agg [(.int .i64 0),(.int .u64 0),(.int .u64 0),(.int .u64 0),(.int .u64 0),(.int .i64 0),(.int .i64 0),(.int .i64 0),.nils])) fun t62=>
  bnd (anil z9) fun t64=>
  bnd (afield 21 t64) fun t65=>
  bnd (aloadv false 1 t65) fun t66=>
  bnd (anil z9) fun t68=>
  bnd (afield 22 t68) fun t69=>
  bnd (aloadv false 1 t69) fun t70=>
  bnd (astoreU 9 x6 t62 z9H) fun r_24=>
  bnd (aload true 9 x6 r_24.2) fun v6=>
  some ((.tuple [v6,t66,t70]),r_24.2))
  (j25_5 x6 x10 H)
theorem e25_4 (H0:Hp) (x6 x9 x10:AV) (H:Hp):j25_4 H0 x6 x9 x10 H=b25_4 (j25_5 H0) x6 x9 x10 H:=(CXM_eq [3,5,9,11,13] _ _ _ _).trans (by kernel_rfl)
theorem m25_4 {j25_5 dj25_5:A2} (hj25_5:L2 j25_5 dj25_5):L3 (b25_4 j25_5) (b25_4 dj25_5):=fun _ _ _ _=>
 bR fun _=>bR fun _=>bR fun _=>bR fun _=>bK (bF fun _ _=>bR fun _=>bR fun _=>bR fun _=>bR fun _=>bR fun _=>bR fun _=>bR fun _=>bR fun _=>bR fun _=>le_refl _) (hj25_5 _ _ _)
def b25_3 (c33:A3) (j25_4:A3) (cV:AV→List AV→Hp→Res) (x6 x9 x10:AV) (H:Hp):Res:=
 bnd (anil x9) fun t46=>
 bnd (afield 21 t46) fun t47=>
 bnd (aload false 1 t47 H) fun t48=>
 bnd (ibin .eql t48 (.int .i64 0)) fun t49=>
 bnd (gdv t49 true (.tuple []) (aload true 9 x10 H)) fun t51=>
 bnd (gdv t49 true ((.tuple []),H) (cV (.fn (.func 34) [] []) [t51] H)) fun r52=>
 bnd (gdv t49 true (.tuple []) (ibin .gtr r52.1 (.int .i64 32))) fun t53=>
 bnd (apick t49 t53 (.bool false)) fun t54=>
 cnd t54
  (bnd (c33 x9 (.int .i64 3) (.int .i64 0) r52.2) fun r56=>
  j25_4 x6 x9 x10 r56.2)
  (j25_4 x6 x9 x10 r52.2)
theorem e25_3 (H0:Hp) (x6 x9 x10:AV) (H:Hp):j25_3 H0 x6 x9 x10 H=b25_3 c33 (j25_4 H0) (acall cfg (callw cfg)) x6 x9 x10 H:=(CXM_eq [3,5,9,11,13] _ _ _ _).trans (by kernel_rfl)
theorem m25_3 {c33 dc33:A3} (hc33:L3 c33 dc33) {j25_4 dj25_4:A3} (hj25_4:L3 j25_4 dj25_4) {cV dcV:AV→List AV→Hp→Res} (hcV:LV cV dcV):L3 (b25_3 c33 j25_4 cV) (b25_3 dc33 dj25_4 dcV):=fun _ _ _ _=>
 bR fun _=>bR fun _=>bR fun _=>bR fun _=>bR fun _=>bG (hcV _ _ _) fun _=>bR fun _=>bR fun _=>bK (bC (hc33 _ _ _ _) fun _=>hj25_4 _ _ _ _) (hj25_4 _ _ _ _)
def b25_2 (c32:A1) (c33:A3) (j25_3:A3) (x0 x1 x5 x6:AV) (H:Hp):Res:=
 bnd (aload true 6 x5 H) fun t20=>
 bnd ((afill [(0,1,x0),(2,1,x1),(3,6,t20)] [(.str []),(.int .i64 0),(.int .i64 0),(.str []),.nils,(.str []),(.str []),.nils,.nils,(.int .i64 0),(.bool false),(.bool false),(.bool false),(.bool false),(.bool false),(.bool false),(.bool false),(.bool false),(.bool false),(.bool false),(.int .i64 0),(.int .i64 0),(.int .i64 0)]).map .agg) fun t21=>
 bnd (abox t21 H) fun r22=>
 bnd (c32 r22.1 r22.2) fun r24=>
 bnd (some ((.ptr r24.2.length 0),r24.2++[.cells [(.int .i64 0),(.int .u64 0),(.int .u64 0),(.int .u64 0),(.int .u64 0),(.int .i64 0),(.int .i64 0),(.int .i64 0),.nils]])) fun r10=>
 bnd (astoreU 9 r10.1 r24.1 r10.2) fun r_8=>
 bnd (anil r22.1) fun t26=>
 bnd (afield 21 t26) fun t27=>
 bnd (aload false 1 t27 r_8.2) fun t28=>
 bnd (ibin .eql t28 (.int .i64 0)) fun t29=>
 bnd (gdv t29 true (.tuple []) (some r22.1)) fun t31=>
 bnd (gdv t29 true (.tuple []) (anil t31)) fun t32=>
 bnd (gdv t29 true (.tuple []) (afield 1 t32)) fun t33=>
 bnd (gdv t29 true (.tuple []) (aload false 1 t33 r_8.2)) fun t34=>
 bnd (gdv t29 true (.tuple []) (some x0)) fun t35=>
 bnd (gdv t29 true (.tuple []) (alenD .string t35)) fun t36=>
 bnd (gdv t29 true (.tuple []) (ibin .lss t34 t36)) fun t37=>
 bnd (apick t29 t37 (.bool false)) fun t38=>
 cnd t38
  (bnd (anil r22.1) fun t41=>
  bnd (afield 1 t41) fun t42=>
  bnd (aload false 1 t42 r_8.2) fun t43=>
  bnd (c33 r22.1 (.int .i64 1) t43 r_8.2) fun r44=>
  j25_3 x6 r22.1 r10.1 r44.2)
  (j25_3 x6 r22.1 r10.1 r_8.2)
theorem e25_2 (H0:Hp) (x0 x1 x5 x6:AV) (H:Hp):j25_2 H0 x0 x1 x5 x6 H=b25_2 c32 c33 (j25_3 H0) x0 x1 x5 x6 H:=(CXM_eq [3,5,9,11,13] _ _ _ _).trans (by kernel_rfl)
theorem m25_2 {c32 dc32:A1} (hc32:L1 c32 dc32) {c33 dc33:A3} (hc33:L3 c33 dc33) {j25_3 dj25_3:A3} (hj25_3:L3 j25_3 dj25_3):L4 (b25_2 c32 c33 j25_3) (b25_2 dc32 dc33 dj25_3):=fun _ _ _ _ _=>
 bR fun _=>bR fun _=>bR fun _=>bC (hc32 _ _) fun _=>bR fun _=>bR fun _=>bR fun _=>bR fun _=>bR fun _=>bR fun _=>bR fun _=>bR fun _=>bR fun _=>bR fun _=>bR fun _=>bR fun _=>bR fun _=>bR fun _=>bK (bR fun _=>bR fun _=>bR fun _=>bC (hc33 _ _ _ _) fun _=>hj25_3 _ _ _ _) (hj25_3 _ _ _ _)
def b25_1 (j25_2:A4) (x0 x1 x5 x6:AV) (H:Hp):Res:=
 bnd (sbin .eql x0 (.str [])) fun t16=>
 cnd t16
  (bnd ((afill [(0,1,(.int .i64 1))] [(.int .i64 0),(.int .u64 0),(.int .u64 0),(.int .u64 0),(.int .u64 0),(.int .i64 0),(.int .i64 0),(.int .i64 0),.nils]).map .agg) fun t17=>
  bnd (astoreU 9 x6 t17 H) fun r_53=>
  bnd (aload true 9 x6 r_53.2) fun v6=>
  some ((.tuple [v6,(.int .i64 0),(.int .i64 0)]),r_53.2))
  (j25_2 x0 x1 x5 x6 H)
theorem e25_1 (H0:Hp) (x0 x1 x5 x6:AV) (H:Hp):j25_1 H0 x0 x1 x5 x6 H=b25_1 (j25_2 H0) x0 x1 x5 x6 H:=(CXM_eq [3,5,9,11,13] _ _ _ _).trans (by kernel_rfl)
theorem m25_1 {j25_2 dj25_2:A4} (hj25_2:L4 j25_2 dj25_2):L4 (b25_1 j25_2) (b25_1 dj25_2):=fun _ _ _ _ _=>
 bR fun _=>bK (bR fun _=>bR fun _=>bR fun _=>le_refl _) (hj25_2 _ _ _ _ _)
def rj25_5 (gV:AV→List AV→Hp→Res):A2:=b25_5
theorem sj25_5 (H0:Hp) {gV:AV→List AV→Hp→Res} (hV:LV gV (acall cfg (callw cfg))):L2 (rj25_5 gV) (j25_5 H0):=fun _ _ _=>le_eq (m25_5 _ _ _) (e25_5 H0 _ _ _)
def rj25_4 (gV:AV→List AV→Hp→Res):A3:=b25_4 (rj25_5 gV)
theorem sj25_4 (H0:Hp) {gV:AV→List AV→Hp→Res} (hV:LV gV (acall cfg (callw cfg))):L3 (rj25_4 gV) (j25_4 H0):=fun _ _ _ _=>le_eq (m25_4 (sj25_5 H0 hV) _ _ _ _) (e25_4 H0 _ _ _ _)
def rj25_3 (gV:AV→List AV→Hp→Res):A3:=b25_3 rc33 (rj25_4 gV) gV
theorem sj25_3 (H0:Hp) {gV:AV→List AV→Hp→Res} (hV:LV gV (acall cfg (callw cfg))):L3 (rj25_3 gV) (j25_3 H0):=fun _ _ _ _=>le_eq (m25_3 sc33 (sj25_4 H0 hV) hV _ _ _ _) (e25_3 H0 _ _ _ _)
def rj25_2 (gV:AV→List AV→Hp→Res):A4:=b25_2 (rc32 gV) rc33 (rj25_3 gV)
theorem sj25_2 (H0:Hp) {gV:AV→List AV→Hp→Res} (hV:LV gV (acall cfg (callw cfg))):L4 (rj25_2 gV) (j25_2 H0):=fun _ _ _ _ _=>le_eq (m25_2 (sc32 hV) sc33 (sj25_3 H0 hV) _ _ _ _ _) (e25_2 H0 _ _ _ _ _)
def rj25_1 (gV:AV→List AV→Hp→Res):A4:=b25_1 (rj25_2 gV)
theorem sj25_1 (H0:Hp) {gV:AV→List AV→Hp→Res} (hV:LV gV (acall cfg (callw cfg))):L4 (rj25_1 gV) (j25_1 H0):=fun _ _ _ _ _=>le_eq (m25_1 (sj25_2 H0 hV) _ _ _ _ _) (e25_1 H0 _ _ _ _ _)
def bc25 (j25_1:A4) (p0 p1 p2:AV) (H:Hp):Res:=
 bnd (abox p2 H) fun r5=>
 bnd (some ((.ptr r5.2.length 0),r5.2++[.cells [(.int .i64 0),(.int .u64 0),(.int .u64 0),(.int .u64 0),(.int .u64 0),(.int .i64 0),(.int .i64 0),(.int .i64 0),.nils]])) fun r6=>
 bnd (alenD .string p0) fun t12=>
 bnd (ibin .gtr t12 (.int .i64 256)) fun t13=>
 cnd t13
  (bnd (some (.agg [(.int .i64 0),(.int .u64 0),(.int .u64 0),(.int .u64 0),(.int .u64 0),(.int .i64 0),(.int .i64 0),(.int .i64 0),.nils])) fun t14=>
  bnd (astoreU 9 r6.1 t14 r6.2) fun r_58=>
  bnd (aload true 9 r6.1 r_58.2) fun v6=>
  some ((.tuple [v6,(.int .i64 3),(.int .i64 256)]),r_58.2))
  (j25_1 p0 p1 r5.1 r6.1 r6.2)
theorem ec25 (p0 p1 p2:AV) (H:Hp):c25 p0 p1 p2 H=bc25 (j25_1 H) p0 p1 p2 H:=(callw_cxm (C:=cfg) (fn:=Tryz.f25) (c:=bodyOf Tryz.f25) (n:=72) [3,5,9,11,13] Tryz.func25 (by kernel_rfl) (by kernel_rfl) [p0,p1,p2] (by kernel_rfl) H).trans (by kernel_rfl)
theorem mc25 {j25_1 dj25_1:A4} (hj25_1:L4 j25_1 dj25_1):L3 (bc25 j25_1) (bc25 dj25_1):=fun _ _ _ _=>
 bR fun _=>bR fun _=>bR fun _=>bR fun _=>bK (bR fun _=>bR fun _=>bR fun _=>le_refl _) (hj25_1 _ _ _ _ _)
def rc25 (gV:AV→List AV→Hp→Res):A3:=fun p0 p1 p2 H=>bc25 (rj25_1 gV) p0 p1 p2 H
theorem sc25 {gV:AV→List AV→Hp→Res} (hV:LV gV (acall cfg (callw cfg))):L3 (rc25 gV) c25:=fun _ _ _ H=>le_eq (mc25 (sj25_1 H hV) _ _ _ _) (ec25 _ _ _ _)
def q25:A3:=fun p0 p1 p2 H=>flatC (callw cfg 25) [p0,p1,p2] H
def rq25 (gV:AV→List AV→Hp→Res):A3:=fun p0 p1 p2 H=>flatC (ofL3 (rc25 gV)) [p0,p1,p2] H
theorem sq25 {gV:AV→List AV→Hp→Res} (hV:LV gV (acall cfg (callw cfg))):L3 (rq25 gV) q25:=fun _ _ _ _=>flat_le (ofL3_le (sc25 hV)) _ _

def c44 (p0:AV) (H:Hp):Res:=callw cfg 44 [p0] H
def j44_4 (H0:Hp) (H:Hp):Res:=CXf 44 37 (sub (bodyOf Tryz.f44) [1,1,1,1,1]) (retL cfg 37 44 Tryz.f44 H0) [] H
def j44_3 (H0:Hp) (x1:AV) (H:Hp):Res:=CXf 44 37 (sub (bodyOf Tryz.f44) [1,1,1,1]) (retL cfg 37 44 Tryz.f44 H0) [(1,x1)] H
def j44_2 (H0:Hp) (x1:AV) (H:Hp):Res:=CXf 44 37 (sub (bodyOf Tryz.f44) [1,1,1]) (retL cfg 37 44 Tryz.f44 H0) [(1,x1)] H
def j44_1 (H0:Hp) (x1:AV) (H:Hp):Res:=CXf 44 37 (sub (bodyOf Tryz.f44) [1,1]) (retL cfg 37 44 Tryz.f44 H0) [(1,x1)] H
def b44_4 (H:Hp):Res:=
 some ((.int .i64 0),H)
theorem e44_4 (H0:Hp) (H:Hp):j44_4 H0 H=b44_4 H:=(CXM_eq [3,6,9,11] _ _ _ _).trans (by kernel_rfl)
theorem m44_4:L0 (b44_4) (b44_4):=fun _=>
 le_refl _
def b44_3 (j44_4:A0) (cV:AV→List AV→Hp→Res) (x1:AV) (H:Hp):Res:=
 bnd (aload true 9 x1 H) fun t24=>
 bnd (cV (.fn (.func 56) [] []) [t24] H) fun r25=>
 bnd (ibin .gtr r25.1 (.int .i64 600)) fun t26=>
 bnd (gdv t26 false (.tuple []) (aload true 9 x1 r25.2)) fun t28=>
 bnd (gdv t26 false ((.tuple []),r25.2) (cV (.fn (.func 26) [] []) [t28] r25.2)) fun r29=>
 bnd (gdv t26 false (.tuple []) (ibin .gtr r29.1 (.int .i64 9))) fun t30=>
 bnd (apick t26 (.bool true) t30) fun t31=>
 bnd (gdv t31 false (.tuple []) (aload true 9 x1 r29.2)) fun t33=>
 bnd (gdv t31 false ((.tuple []),r29.2) (cV (.fn (.func 57) [] []) [t33] r29.2)) fun r34=>
 bnd (gdv t31 false (.tuple []) (ibin .gtr r34.1 (.int .i64 32))) fun t35=>
 bnd (apick t31 (.bool true) t35) fun t36=>
 cnd t36
  (some ((.int .i64 3),r34.2))
  (j44_4 r34.2)
theorem e44_3 (H0:Hp) (x1:AV) (H:Hp):j44_3 H0 x1 H=b44_3 (j44_4 H0) (acall cfg (callw cfg)) x1 H:=(CXM_eq [3,6,9,11] _ _ _ _).trans (by kernel_rfl)
theorem m44_3 {j44_4 dj44_4:A0} (hj44_4:L0 j44_4 dj44_4) {cV dcV:AV→List AV→Hp→Res} (hcV:LV cV dcV):L1 (b44_3 j44_4 cV) (b44_3 dj44_4 dcV):=fun _ _=>
 bR fun _=>bC (hcV _ _ _) fun _=>bR fun _=>bR fun _=>bG (hcV _ _ _) fun _=>bR fun _=>bR fun _=>bR fun _=>bG (hcV _ _ _) fun _=>bR fun _=>bR fun _=>bK (le_refl _) (hj44_4 _)
def b44_2 (j44_3:A1) (cV:AV→List AV→Hp→Res) (x1:AV) (H:Hp):Res:=
 bnd (aload true 9 x1 H) fun t18=>
 bnd (cV (.fn (.func 55) [] []) [t18,.nils] H) fun r19=>
 bnd (aext r19.1 0) fun t20=>
 bnd (aext r19.1 1) fun t21=>
 bnd (aun .not t21) fun t23=>
 cnd t23
  (some ((.int .i64 4),r19.2))
  (j44_3 x1 r19.2)
theorem e44_2 (H0:Hp) (x1:AV) (H:Hp):j44_2 H0 x1 H=b44_2 (j44_3 H0) (acall cfg (callw cfg)) x1 H:=(CXM_eq [3,6,9,11] _ _ _ _).trans (by kernel_rfl)
theorem m44_2 {j44_3 dj44_3:A1} (hj44_3:L1 j44_3 dj44_3) {cV dcV:AV→List AV→Hp→Res} (hcV:LV cV dcV):L1 (b44_2 j44_3 cV) (b44_2 dj44_3 dcV):=fun _ _=>
 bR fun _=>bC (hcV _ _ _) fun _=>bR fun _=>bR fun _=>bR fun _=>bK (le_refl _) (hj44_3 _ _)
def b44_1 (j44_2:A1) (cV:AV→List AV→Hp→Res) (x1:AV) (H:Hp):Res:=
 bnd (aload true 9 x1 H) fun t11=>
 bnd (cV (.fn (.func 54) [] []) [t11,(.int .i64 0)] H) fun r12=>
 bnd (aext r12.1 0) fun t13=>
 bnd (aext r12.1 1) fun t14=>
 bnd (aun .not t14) fun t16=>
 cnd t16
  (some ((.int .i64 2),r12.2))
  (j44_2 x1 r12.2)
theorem e44_1 (H0:Hp) (x1:AV) (H:Hp):j44_1 H0 x1 H=b44_1 (j44_2 H0) (acall cfg (callw cfg)) x1 H:=(CXM_eq [3,6,9,11] _ _ _ _).trans (by kernel_rfl)
theorem m44_1 {j44_2 dj44_2:A1} (hj44_2:L1 j44_2 dj44_2) {cV dcV:AV→List AV→Hp→Res} (hcV:LV cV dcV):L1 (b44_1 j44_2 cV) (b44_1 dj44_2 dcV):=fun _ _=>
 bR fun _=>bC (hcV _ _ _) fun _=>bR fun _=>bR fun _=>bR fun _=>bK (le_refl _) (hj44_2 _ _)
def rj44_4 (gV:AV→List AV→Hp→Res):A0:=b44_4
theorem sj44_4 (H0:Hp) {gV:AV→List AV→Hp→Res} (hV:LV gV (acall cfg (callw cfg))):L0 (rj44_4 gV) (j44_4 H0):=fun _=>le_eq (m44_4 _) (e44_4 H0 _)
def rj44_3 (gV:AV→List AV→Hp→Res):A1:=b44_3 (rj44_4 gV) gV
theorem sj44_3 (H0:Hp) {gV:AV→List AV→Hp→Res} (hV:LV gV (acall cfg (callw cfg))):L1 (rj44_3 gV) (j44_3 H0):=fun _ _=>le_eq (m44_3 (sj44_4 H0 hV) hV _ _) (e44_3 H0 _ _)
def rj44_2 (gV:AV→List AV→Hp→Res):A1:=b44_2 (rj44_3 gV) gV
theorem sj44_2 (H0:Hp) {gV:AV→List AV→Hp→Res} (hV:LV gV (acall cfg (callw cfg))):L1 (rj44_2 gV) (j44_2 H0):=fun _ _=>le_eq (m44_2 (sj44_3 H0 hV) hV _ _) (e44_2 H0 _ _)
def rj44_1 (gV:AV→List AV→Hp→Res):A1:=b44_1 (rj44_2 gV) gV
theorem sj44_1 (H0:Hp) {gV:AV→List AV→Hp→Res} (hV:LV gV (acall cfg (callw cfg))):L1 (rj44_1 gV) (j44_1 H0):=fun _ _=>le_eq (m44_1 (sj44_2 H0 hV) hV _ _) (e44_1 H0 _ _)
def bc44 (j44_1:A1) (cV:AV→List AV→Hp→Res) (p0:AV) (H:Hp):Res:=
 bnd (abox p0 H) fun r1=>
 bnd (aload true 9 r1.1 r1.2) fun t7=>
 bnd (cV (.fn (.func 53) [] []) [t7] r1.2) fun r8=>
 bnd (aun .not r8.1) fun t9=>
 cnd t9
  (some ((.int .i64 7),r8.2))
  (j44_1 r1.1 r8.2)
theorem ec44 (p0:AV) (H:Hp):c44 p0 H=bc44 (j44_1 H) (acall cfg (callw cfg)) p0 H:=(callw_cxm (C:=cfg) (fn:=Tryz.f44) (c:=bodyOf Tryz.f44) (n:=37) [3,6,9,11] Tryz.func44 (by kernel_rfl) (by kernel_rfl) [p0] (by kernel_rfl) H).trans (by kernel_rfl)
theorem mc44 {j44_1 dj44_1:A1} (hj44_1:L1 j44_1 dj44_1) {cV dcV:AV→List AV→Hp→Res} (hcV:LV cV dcV):L1 (bc44 j44_1 cV) (bc44 dj44_1 dcV):=fun _ _=>
 bR fun _=>bR fun _=>bC (hcV _ _ _) fun _=>bR fun _=>bK (le_refl _) (hj44_1 _ _)
def rc44 (gV:AV→List AV→Hp→Res):A1:=fun p0 H=>bc44 (rj44_1 gV) gV p0 H
theorem sc44 {gV:AV→List AV→Hp→Res} (hV:LV gV (acall cfg (callw cfg))):L1 (rc44 gV) c44:=fun _ H=>le_eq (mc44 (sj44_1 H hV) hV _ _) (ec44 _ _)
def q44:A1:=fun p0 H=>flatC (callw cfg 44) [p0] H
def rq44 (gV:AV→List AV→Hp→Res):A1:=fun p0 H=>flatC (ofL1 (rc44 gV)) [p0] H
theorem sq44 {gV:AV→List AV→Hp→Res} (hV:LV gV (acall cfg (callw cfg))):L1 (rq44 gV) q44:=fun _ _=>flat_le (ofL1_le (sc44 hV)) _ _

def c45 (p0:AV) (H:Hp):Res:=callw cfg 45 [p0] H
def j45_2 (H0:Hp) (x1 x2:AV) (H:Hp):Res:=CXf 45 17 (sub (bodyOf Tryz.f45) [1,1,1]) (retL cfg 17 45 Tryz.f45 H0) [(1,x1),(2,x2)] H
def j45_1 (H0:Hp) (x1 x2:AV) (H:Hp):Res:=CXf 45 17 (sub (bodyOf Tryz.f45) [1,1]) (retL cfg 17 45 Tryz.f45 H0) [(1,x1),(2,x2)] H
def b45_2 (cV:AV→List AV→Hp→Res) (x1 x2:AV) (H:Hp):Res:=
 bnd (aload true 9 x1 H) fun t15=>
 bnd (cV (.fn (.func 59) [] []) [t15] H) fun r16=>
 bnd (astoreU 9 x2 r16.1 r16.2) fun r_5=>
 bnd (aload true 9 x2 r_5.2) fun v2=>
 some ((.tuple [v2,(.int .i64 0)]),r_5.2)
theorem e45_2 (H0:Hp) (x1 x2:AV) (H:Hp):j45_2 H0 x1 x2 H=b45_2 (acall cfg (callw cfg)) x1 x2 H:=(CXM_eq [4,6] _ _ _ _).trans (by kernel_rfl)
theorem m45_2 {cV dcV:AV→List AV→Hp→Res} (hcV:LV cV dcV):L2 (b45_2 cV) (b45_2 dcV):=fun _ _ _=>
 bR fun _=>bC (hcV _ _ _) fun _=>bR fun _=>bR fun _=>le_refl _
def b45_1 (j45_2:A2) (cV:AV→List AV→Hp→Res) (x1 x2:AV) (H:Hp):Res:=
 bnd (aload true 9 x1 H) fun t11=>
 bnd (cV (.fn (.func 58) [] []) [t11] H) fun r12=>
 bnd (ibin .gtr r12.1 (.int .i64 4096)) fun t13=>
 cnd t13
  (bnd (some (.agg [(.int .i64 0),(.int .u64 0),(.int .u64 0),(.int .u64 0),(.int .u64 0),(.int .i64 0),(.int .i64 0),(.int .i64 0),.nils])) fun t14=>
  bnd (astoreU 9 x2 t14 r12.2) fun r_11=>
  bnd (aload true 9 x2 r_11.2) fun v2=>
  some ((.tuple [v2,(.int .i64 3)]),r_11.2))
  (j45_2 x1 x2 r12.2)
theorem e45_1 (H0:Hp) (x1 x2:AV) (H:Hp):j45_1 H0 x1 x2 H=b45_1 (j45_2 H0) (acall cfg (callw cfg)) x1 x2 H:=(CXM_eq [4,6] _ _ _ _).trans (by kernel_rfl)
theorem m45_1 {j45_2 dj45_2:A2} (hj45_2:L2 j45_2 dj45_2) {cV dcV:AV→List AV→Hp→Res} (hcV:LV cV dcV):L2 (b45_1 j45_2 cV) (b45_1 dj45_2 dcV):=fun _ _ _=>
 bR fun _=>bC (hcV _ _ _) fun _=>bR fun _=>bK (bR fun _=>bR fun _=>bR fun _=>le_refl _) (hj45_2 _ _ _)
def rj45_2 (gV:AV→List AV→Hp→Res):A2:=b45_2 gV
theorem sj45_2 (H0:Hp) {gV:AV→List AV→Hp→Res} (hV:LV gV (acall cfg (callw cfg))):L2 (rj45_2 gV) (j45_2 H0):=fun _ _ _=>le_eq (m45_2 hV _ _ _) (e45_2 H0 _ _ _)
def rj45_1 (gV:AV→List AV→Hp→Res):A2:=b45_1 (rj45_2 gV) gV
theorem sj45_1 (H0:Hp) {gV:AV→List AV→Hp→Res} (hV:LV gV (acall cfg (callw cfg))):L2 (rj45_1 gV) (j45_1 H0):=fun _ _ _=>le_eq (m45_1 (sj45_2 H0 hV) hV _ _ _) (e45_1 H0 _ _ _)
def bc45 (q44:A1) (j45_1:A2) (p0:AV) (H:Hp):Res:=
 bnd (abox p0 H) fun r1=>
 bnd (some ((.ptr r1.2.length 0),r1.2++[.cells [(.int .i64 0),(.int .u64 0),(.int .u64 0),(.int .u64 0),(.int .u64 0),(.int .i64 0),(.int .i64 0),(.int .i64 0),.nils]])) fun r2=>
 bnd (aload true 9 r1.1 r2.2) fun t5=>
 bnd (q44 t5 r2.2) fun r6=>
 bnd (ibin .neq r6.1 (.int .i64 0)) fun t8=>
 cnd t8
  (bnd (some (.agg [(.int .i64 0),(.int .u64 0),(.int .u64 0),(.int .u64 0),(.int .u64 0),(.int .i64 0),(.int .i64 0),(.int .i64 0),.nils])) fun t9=>
  bnd (astoreU 9 r2.1 t9 r6.2) fun r_17=>
  bnd (aload true 9 r2.1 r_17.2) fun v2=>
  some ((.tuple [v2,r6.1]),r_17.2))
  (j45_1 r1.1 r2.1 r6.2)
theorem ec45 (p0:AV) (H:Hp):c45 p0 H=bc45 q44 (j45_1 H) p0 H:=(callw_cxm (C:=cfg) (fn:=Tryz.f45) (c:=bodyOf Tryz.f45) (n:=17) [4,6] Tryz.func45 (by kernel_rfl) (by kernel_rfl) [p0] (by kernel_rfl) H).trans (by kernel_rfl)
theorem mc45 {q44 dq44:A1} (hq44:L1 q44 dq44) {j45_1 dj45_1:A2} (hj45_1:L2 j45_1 dj45_1):L1 (bc45 q44 j45_1) (bc45 dq44 dj45_1):=fun _ _=>
 bR fun _=>bR fun _=>bR fun _=>bC (hq44 _ _) fun _=>bR fun _=>bK (bR fun _=>bR fun _=>bR fun _=>le_refl _) (hj45_1 _ _ _)
def rc45 (gV:AV→List AV→Hp→Res):A1:=fun p0 H=>bc45 (rq44 gV) (rj45_1 gV) p0 H
theorem sc45 {gV:AV→List AV→Hp→Res} (hV:LV gV (acall cfg (callw cfg))):L1 (rc45 gV) c45:=fun _ H=>le_eq (mc45 (sq44 hV) (sj45_1 H hV) _ _) (ec45 _ _)
def q45:A1:=fun p0 H=>flatC (callw cfg 45) [p0] H
def rq45 (gV:AV→List AV→Hp→Res):A1:=fun p0 H=>flatC (ofL1 (rc45 gV)) [p0] H
theorem sq45 {gV:AV→List AV→Hp→Res} (hV:LV gV (acall cfg (callw cfg))):L1 (rq45 gV) q45:=fun _ _=>flat_le (ofL1_le (sc45 hV)) _ _

end
end Go.Am
