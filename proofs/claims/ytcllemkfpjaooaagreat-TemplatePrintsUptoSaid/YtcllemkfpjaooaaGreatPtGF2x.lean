/-
  Functions of the translation that are worked out at given arguments: written by program (wip/gen.py).
-/
import Derived.Test.YtcllemkfpjaooaaGreatPtGF1x
import Derived.Test.YtcllemkfpjaooaaGreatHmWx
namespace Go.Am
open Go.Proofs
set_option maxRecDepth 100000
set_option linter.unusedVariables false
noncomputable section

def c36 (p0 p1:AV) (H:Hp):Res:=callw cfg 36 [p0,p1] H
def j36_4 (H0:Hp) (x1 x4 x9:AV) (H:Hp):Res:=CXf 36 41 (sub (bodyOf Tryz.f36) [1,1,1,1,1,1,1,1,1]) (retL cfg 41 36 Tryz.f36 H0) [(1,x1),(4,x4),(9,x9)] H
def j36_3 (H0:Hp) (x1 x4 x7:AV) (H:Hp):Res:=CXf 36 41 (sub (bodyOf Tryz.f36) [1,1,1,1,1,1]) (retL cfg 41 36 Tryz.f36 H0) [(1,x1),(4,x4),(7,x7)] H
def j36_2 (H0:Hp) (x1 x2 x4:AV) (H:Hp):Res:=CXf 36 41 (sub (bodyOf Tryz.f36) [1,1,1,1]) (retL cfg 41 36 Tryz.f36 H0) [(1,x1),(2,x2),(4,x4)] H
def j36_1 (H0:Hp) (x1 x2 x4:AV) (H:Hp):Res:=CXf 36 41 (sub (bodyOf Tryz.f36) [1,1,1]) (retL cfg 41 36 Tryz.f36 H0) [(1,x1),(2,x2),(4,x4)] H
def b36_4 (x1 x4 x9:AV) (H:Hp):Res:=
 bnd ((afill [(0,1,x9),(1,1,x1)] [.nils,(.bool false)]).map .agg) fun t40=>
 bnd (astoreU 2 x4 t40 H) fun r_17=>
 bnd (aload true 2 x4 r_17.2) fun v4=>
 some ((.tuple [v4,(.int .i64 0)]),r_17.2)
theorem e36_4 (H0:Hp) (x1 x4 x9:AV) (H:Hp):j36_4 H0 x1 x4 x9 H=b36_4 x1 x4 x9 H:=(CXM_eq [4,6,9,13] _ _ _ _).trans (by kernel_rfl)
theorem m36_4:L3 (b36_4) (b36_4):=fun _ _ _ _=>
 bR fun _=>bR fun _=>bR fun _=>le_refl _
def b36_3 (j36_4:A3) (cV:AV→List AV→Hp→Res) (x1 x4 x7:AV) (H:Hp):Res:=
 bnd (aload true 9 x7 H) fun t28=>
 bnd (cV (.fn (.func 46) [] []) [.nils,t28] H) fun r29=>
 bnd ((afill [(0,1,(.int .i64 6))] [(.int .i64 0),(.int .u64 0),(.int .u64 0),(.int .u64 0),(.int .u64 0),(.int .i64 0),(.int .i64 0)]).map .agg) fun t31=>
 bnd ((setElems 7 [(0,t31)] [(.agg [(.int .i64 0),(.int .u64 0),(.int .u64 0),(.int .u64 0),(.int .u64 0),(.int .i64 0),(.int .i64 0)])]).map (.vs 7 .clip)) fun t32=>
 bnd (aappEL true 7 56 r29.1 t32 r29.2) fun r33=>
 bnd (alenD (.slice 111) r33.1) fun t35=>
 bnd (ibin .gtr t35 (.int .i64 4096)) fun t36=>
 cnd t36
  (bnd (some (.agg [.nils,(.bool false)])) fun t37=>
  bnd (astoreU 2 x4 t37 r33.2) fun r_22=>
  bnd (aload true 2 x4 r_22.2) fun v4=>
  some ((.tuple [v4,(.int .i64 3)]),r_22.2))
  (j36_4 x1 x4 r33.1 r33.2)
theorem e36_3 (H0:Hp) (x1 x4 x7:AV) (H:Hp):j36_3 H0 x1 x4 x7 H=b36_3 (j36_4 H0) (acall cfg (callw cfg)) x1 x4 x7 H:=(CXM_eq [4,6,9,13] _ _ _ _).trans (by kernel_rfl)
theorem m36_3 {j36_4 dj36_4:A3} (hj36_4:L3 j36_4 dj36_4) {cV dcV:AV→List AV→Hp→Res} (hcV:LV cV dcV):L3 (b36_3 j36_4 cV) (b36_3 dj36_4 dcV):=fun _ _ _ _=>
 bR fun _=>bC (hcV _ _ _) fun _=>bR fun _=>bR fun _=>bR fun _=>bR fun _=>bR fun _=>bK (bR fun _=>bR fun _=>bR fun _=>le_refl _) (hj36_4 _ _ _ _)
def b36_2 (q45:A1) (j36_3:A3) (x1 x2 x4:AV) (H:Hp):Res:=
 bnd (aload true 9 x2 H) fun t20=>
 bnd (q45 t20 H) fun r21=>
 bnd (aext r21.1 0) fun t22=>
 bnd (aext r21.1 1) fun t23=>
 bnd (some ((.ptr r21.2.length 0),r21.2++[.cells [(.int .i64 0),(.int .u64 0),(.int .u64 0),(.int .u64 0),(.int .u64 0),(.int .i64 0),(.int .i64 0),(.int .i64 0),.nils]])) fun r7=>
 bnd (astoreU 9 r7.1 t22 r7.2) fun r_10=>
 bnd (ibin .neq t23 (.int .i64 0)) fun t25=>
 cnd t25
  (bnd (some (.agg [.nils,(.bool false)])) fun t26=>
  bnd (astoreU 2 x4 t26 r_10.2) fun r_26=>
  bnd (aload true 2 x4 r_26.2) fun v4=>
  some ((.tuple [v4,t23]),r_26.2))
  (j36_3 x1 x4 r7.1 r_10.2)
theorem e36_2 (H0:Hp) (x1 x2 x4:AV) (H:Hp):j36_2 H0 x1 x2 x4 H=b36_2 q45 (j36_3 H0) x1 x2 x4 H:=(CXM_eq [4,6,9,13] _ _ _ _).trans (by kernel_rfl)
theorem m36_2 {q45 dq45:A1} (hq45:L1 q45 dq45) {j36_3 dj36_3:A3} (hj36_3:L3 j36_3 dj36_3):L3 (b36_2 q45 j36_3) (b36_2 dq45 dj36_3):=fun _ _ _ _=>
 bR fun _=>bC (hq45 _ _) fun _=>bR fun _=>bR fun _=>bR fun _=>bR fun _=>bR fun _=>bK (bR fun _=>bR fun _=>bR fun _=>le_refl _) (hj36_3 _ _ _ _)
def b36_1 (j36_2:A3) (cV:AV→List AV→Hp→Res) (x1 x2 x4:AV) (H:Hp):Res:=
 bnd (aload true 9 x2 H) fun t16=>
 bnd (cV (.fn (.func 35) [] []) [t16] H) fun r17=>
 cnd r17.1
  (bnd (some (.agg [.nils,(.bool false)])) fun t18=>
  bnd (astoreU 2 x4 t18 r17.2) fun r_31=>
  bnd (aload true 2 x4 r_31.2) fun v4=>
  some ((.tuple [v4,(.int .i64 7)]),r_31.2))
  (j36_2 x1 x2 x4 r17.2)
theorem e36_1 (H0:Hp) (x1 x2 x4:AV) (H:Hp):j36_1 H0 x1 x2 x4 H=b36_1 (j36_2 H0) (acall cfg (callw cfg)) x1 x2 x4 H:=(CXM_eq [4,6,9,13] _ _ _ _).trans (by kernel_rfl)
theorem m36_1 {j36_2 dj36_2:A3} (hj36_2:L3 j36_2 dj36_2) {cV dcV:AV→List AV→Hp→Res} (hcV:LV cV dcV):L3 (b36_1 j36_2 cV) (b36_1 dj36_2 dcV):=fun _ _ _ _=>
 bR fun _=>bC (hcV _ _ _) fun _=>bK (bR fun _=>bR fun _=>bR fun _=>le_refl _) (hj36_2 _ _ _ _)
def rj36_4 (gV:AV→List AV→Hp→Res):A3:=b36_4
theorem sj36_4 (H0:Hp) {gV:AV→List AV→Hp→Res} (hV:LV gV (acall cfg (callw cfg))):L3 (rj36_4 gV) (j36_4 H0):=fun _ _ _ _=>le_eq (m36_4 _ _ _ _) (e36_4 H0 _ _ _ _)
def rj36_3 (gV:AV→List AV→Hp→Res):A3:=b36_3 (rj36_4 gV) gV
theorem sj36_3 (H0:Hp) {gV:AV→List AV→Hp→Res} (hV:LV gV (acall cfg (callw cfg))):L3 (rj36_3 gV) (j36_3 H0):=fun _ _ _ _=>le_eq (m36_3 (sj36_4 H0 hV) hV _ _ _ _) (e36_3 H0 _ _ _ _)
def rj36_2 (gV:AV→List AV→Hp→Res):A3:=b36_2 (rq45 gV) (rj36_3 gV)
theorem sj36_2 (H0:Hp) {gV:AV→List AV→Hp→Res} (hV:LV gV (acall cfg (callw cfg))):L3 (rj36_2 gV) (j36_2 H0):=fun _ _ _ _=>le_eq (m36_2 (sq45 hV) (sj36_3 H0 hV) _ _ _ _) (e36_2 H0 _ _ _ _)
def rj36_1 (gV:AV→List AV→Hp→Res):A3:=b36_1 (rj36_2 gV) gV
theorem sj36_1 (H0:Hp) {gV:AV→List AV→Hp→Res} (hV:LV gV (acall cfg (callw cfg))):L3 (rj36_1 gV) (j36_1 H0):=fun _ _ _ _=>le_eq (m36_1 (sj36_2 H0 hV) hV _ _ _ _) (e36_1 H0 _ _ _ _)
def bc36 (q44:A1) (j36_1:A3) (p0 p1:AV) (H:Hp):Res:=
 bnd (abox p0 H) fun r2=>
 bnd (some ((.ptr r2.2.length 0),r2.2++[.cells [.nils,(.bool false)]])) fun r4=>
 bnd (aload true 9 r2.1 r4.2) fun t10=>
 bnd (q44 t10 r4.2) fun r11=>
 bnd (ibin .neq r11.1 (.int .i64 0)) fun t13=>
 cnd t13
  (bnd (some (.agg [.nils,(.bool false)])) fun t14=>
  bnd (astoreU 2 r4.1 t14 r11.2) fun r_35=>
  bnd (aload true 2 r4.1 r_35.2) fun v4=>
  some ((.tuple [v4,r11.1]),r_35.2))
  (j36_1 p1 r2.1 r4.1 r11.2)
theorem ec36 (p0 p1:AV) (H:Hp):c36 p0 p1 H=bc36 q44 (j36_1 H) p0 p1 H:=(callw_cxm (C:=cfg) (fn:=Tryz.f36) (c:=bodyOf Tryz.f36) (n:=41) [4,6,9,13] Tryz.func36 (by kernel_rfl) (by kernel_rfl) [p0,p1] (by kernel_rfl) H).trans (by kernel_rfl)
theorem mc36 {q44 dq44:A1} (hq44:L1 q44 dq44) {j36_1 dj36_1:A3} (hj36_1:L3 j36_1 dj36_1):L2 (bc36 q44 j36_1) (bc36 dq44 dj36_1):=fun _ _ _=>
 bR fun _=>bR fun _=>bR fun _=>bC (hq44 _ _) fun _=>bR fun _=>bK (bR fun _=>bR fun _=>bR fun _=>le_refl _) (hj36_1 _ _ _ _)
def rc36 (gV:AV→List AV→Hp→Res):A2:=fun p0 p1 H=>bc36 (rq44 gV) (rj36_1 gV) p0 p1 H
theorem sc36 {gV:AV→List AV→Hp→Res} (hV:LV gV (acall cfg (callw cfg))):L2 (rc36 gV) c36:=fun _ _ H=>le_eq (mc36 (sq44 hV) (sj36_1 H hV) _ _ _) (ec36 _ _ _)
def q36:A2:=fun p0 p1 H=>flatC (callw cfg 36) [p0,p1] H
def rq36 (gV:AV→List AV→Hp→Res):A2:=fun p0 p1 H=>flatC (ofL2 (rc36 gV)) [p0,p1] H
theorem sq36 {gV:AV→List AV→Hp→Res} (hV:LV gV (acall cfg (callw cfg))):L2 (rq36 gV) q36:=fun _ _ _=>flat_le (ofL2_le (sc36 hV)) _ _

def c27 (p0 p1:AV) (H:Hp):Res:=callw cfg 27 [p0,p1] H
def j27_1 (H0:Hp) (x1 x2:AV) (H:Hp):Res:=CXf 27 17 (sub (bodyOf Tryz.f27) [1,1]) (retL cfg 17 27 Tryz.f27 H0) [(1,x1),(2,x2)] H
def b27_1 (q36:A2) (x1 x2:AV) (H:Hp):Res:=
 bnd (aload true 9 x2 H) fun t10=>
 bnd (q36 t10 x1 H) fun r12=>
 bnd (aext r12.1 0) fun t13=>
 bnd (aext r12.1 1) fun t14=>
 bnd (some ((.ptr r12.2.length 0),r12.2++[.cells [.nils,(.bool false)]])) fun r5=>
 bnd (astoreU 2 r5.1 t13 r5.2) fun r_7=>
 bnd (ibin .eql t14 (.int .i64 0)) fun t16=>
 some (t16,r_7.2)
theorem e27_1 (H0:Hp) (x1 x2:AV) (H:Hp):j27_1 H0 x1 x2 H=b27_1 q36 x1 x2 H:=(CXM_eq [3] _ _ _ _).trans (by kernel_rfl)
theorem m27_1 {q36 dq36:A2} (hq36:L2 q36 dq36):L2 (b27_1 q36) (b27_1 dq36):=fun _ _ _=>
 bR fun _=>bC (hq36 _ _ _) fun _=>bR fun _=>bR fun _=>bR fun _=>bR fun _=>bR fun _=>le_refl _
def rj27_1 (gV:AV→List AV→Hp→Res):A2:=b27_1 (rq36 gV)
theorem sj27_1 (H0:Hp) {gV:AV→List AV→Hp→Res} (hV:LV gV (acall cfg (callw cfg))):L2 (rj27_1 gV) (j27_1 H0):=fun _ _ _=>le_eq (m27_1 (sq36 hV) _ _ _) (e27_1 H0 _ _ _)
def bc27 (j27_1:A2) (cV:AV→List AV→Hp→Res) (p0 p1:AV) (H:Hp):Res:=
 bnd (abox p0 H) fun r2=>
 bnd (aload true 9 r2.1 r2.2) fun t7=>
 bnd (cV (.fn (.func 35) [] []) [t7] r2.2) fun r8=>
 cnd r8.1
  (some ((.bool true),r8.2))
  (j27_1 p1 r2.1 r8.2)
theorem ec27 (p0 p1:AV) (H:Hp):c27 p0 p1 H=bc27 (j27_1 H) (acall cfg (callw cfg)) p0 p1 H:=(callw_cxm (C:=cfg) (fn:=Tryz.f27) (c:=bodyOf Tryz.f27) (n:=17) [3] Tryz.func27 (by kernel_rfl) (by kernel_rfl) [p0,p1] (by kernel_rfl) H).trans (by kernel_rfl)
theorem mc27 {j27_1 dj27_1:A2} (hj27_1:L2 j27_1 dj27_1) {cV dcV:AV→List AV→Hp→Res} (hcV:LV cV dcV):L2 (bc27 j27_1 cV) (bc27 dj27_1 dcV):=fun _ _ _=>
 bR fun _=>bR fun _=>bC (hcV _ _ _) fun _=>bK (le_refl _) (hj27_1 _ _ _)
def rc27 (gV:AV→List AV→Hp→Res):A2:=fun p0 p1 H=>bc27 (rj27_1 gV) gV p0 p1 H
theorem sc27 {gV:AV→List AV→Hp→Res} (hV:LV gV (acall cfg (callw cfg))):L2 (rc27 gV) c27:=fun _ _ H=>le_eq (mc27 (sj27_1 H hV) hV _ _ _) (ec27 _ _ _)

def c28 (p0:AV) (H:Hp):Res:=callw cfg 28 [p0] H
def bc28 (p0:AV) (H:Hp):Res:=
 bnd (abox p0 H) fun r1=>
 bnd (afield 1 r1.1) fun t3=>
 bnd (aload false 1 t3 r1.2) fun t4=>
 bnd (ibin .quo t4 (.int .i64 4)) fun t5=>
 bnd (ibin .rem t5 (.int .i64 2)) fun t6=>
 bnd (ibin .eql t6 (.int .i64 1)) fun t7=>
 some (t7,r1.2)
theorem ec28 (p0:AV) (H:Hp):c28 p0 H=bc28 p0 H:=(callw_cxm (C:=cfg) (fn:=Tryz.f28) (c:=bodyOf Tryz.f28) (n:=8) [] Tryz.func28 (by kernel_rfl) (by kernel_rfl) [p0] (by kernel_rfl) H).trans (by kernel_rfl)
theorem mc28:L1 (bc28) (bc28):=fun _ _=>
 bR fun _=>bR fun _=>bR fun _=>bR fun _=>bR fun _=>bR fun _=>le_refl _
def rc28:A1:=fun p0 H=>bc28 p0 H
theorem sc28:L1 rc28 c28:=fun _ H=>le_eq (mc28 _ _) (ec28 _ _)

def c15 (p0 p1 p2:AV) (H:Hp):Res:=callw cfg 15 [p0,p1,p2] H
def j15_2 (H0:Hp) (x6 x12:AV) (H:Hp):Res:=CXf 15 40 (sub (bodyOf Tryz.f15) [1,1,1,1,1]) (retL cfg 40 15 Tryz.f15 H0) [(6,x6),(12,x12)] H
def j15_1 (H0:Hp) (x0 x1 x6 x9:AV) (H:Hp):Res:=CXf 15 40 (sub (bodyOf Tryz.f15) [1,1,1]) (retL cfg 40 15 Tryz.f15 H0) [(0,x0),(1,x1),(6,x6),(9,x9)] H
def b15_2 (x6 x12:AV) (H:Hp):Res:=
 bnd (aload true 12 x12 H) fun t39=>
 bnd (astoreU 12 x6 t39 H) fun r_19=>
 bnd (aload true 12 x6 r_19.2) fun v6=>
 some ((.tuple [v6,(.int .i64 0),(.int .i64 0)]),r_19.2)
theorem e15_2 (H0:Hp) (x6 x12:AV) (H:Hp):j15_2 H0 x6 x12 H=b15_2 x6 x12 H:=(CXM_eq [4,7] _ _ _ _).trans (by kernel_rfl)
theorem m15_2:L2 (b15_2) (b15_2):=fun _ _ _=>
 bR fun _=>bR fun _=>bR fun _=>le_refl _
def b15_1 (c27:A2) (c28:A1) (j15_2:A2) (cV:AV→List AV→Hp→Res) (x0 x1 x6 x9:AV) (H:Hp):Res:=
 frzK x9 H fun z9 z9H=>
 bnd (ibin .and x1 (.int .i64 7)) fun t28=>
 bnd (aload true 9 z9 (z9H++[.free])) fun t29=>
 bnd (cV (.fn (.func 26) [] []) [t29] (z9H++[.free])) fun r30=>
 bnd (aloadv true 9 z9) fun t31=>
 bnd ((afill [(0,1,x0),(1,1,t28),(2,1,r30.1),(3,9,t31)] [(.str []),(.int .i64 0),(.int .i64 0),(.int .i64 0),(.int .u64 0),(.int .u64 0),(.int .u64 0),(.int .u64 0),(.int .i64 0),(.int .i64 0),(.int .i64 0),.nils]).map .agg) fun t32=>
 bnd (alag (z9H.length+0) (some [(.str []),(.int .i64 0),(.int .i64 0),(.int .i64 0),(.int .u64 0),(.int .u64 0),(.int .u64 0),(.int .u64 0),(.int .i64 0),(.int .i64 0),(.int .i64 0),.nils]) r30.2) fun r12=>
 bnd (astoreU 12 r12.1 t32 r12.2) fun r_17=>
 frzK z9 r_17.2 fun z9 z9H=>
 bnd (aloadv true 9 z9) fun t33=>
 bnd (aload true 12 r12.1 z9H) fun t34=>
 bnd (c28 t34 z9H) fun r35=>
 bnd (c27 t33 r35.1 r35.2) fun r36=>
 bnd (aun .not r36.1) fun t37=>
 cnd t37
  (bnd (some (.agg [(.str []),(.int .i64 0),(.int .i64 0),(.int .i64 0),(.int .u64 0),(.int .u64 0),(.int .u64 0),(.int .u64 0),(.int .i64 0),(.int .i64 0),(.int .i64 0),.nils])) fun t38=>
  bnd (astoreU 12 x6 t38 r36.2) fun r_28=>
  bnd (aload true 12 x6 r_28.2) fun v6=>
  some ((.tuple [v6,(.int .i64 3),(.int .i64 0)]),r_28.2))
  (j15_2 x6 r12.1 r36.2)
theorem e15_1 (H0:Hp) (x0 x1 x6 x9:AV) (H:Hp):j15_1 H0 x0 x1 x6 x9 H=b15_1 c27 c28 (j15_2 H0) (acall cfg (callw cfg)) x0 x1 x6 x9 H:=(CXM_eq [4,7] _ _ _ _).trans (by kernel_rfl)
theorem m15_1 {c27 dc27:A2} (hc27:L2 c27 dc27) {c28 dc28:A1} (hc28:L1 c28 dc28) {j15_2 dj15_2:A2} (hj15_2:L2 j15_2 dj15_2) {cV dcV:AV→List AV→Hp→Res} (hcV:LV cV dcV):L4 (b15_1 c27 c28 j15_2 cV) (b15_1 dc27 dc28 dj15_2 dcV):=fun _ _ _ _ _=>
 bF fun _ _=>bR fun _=>bR fun _=>bC (hcV _ _ _) fun _=>bR fun _=>bR fun _=>bR fun _=>bR fun _=>bF fun _ _=>bR fun _=>bR fun _=>bC (hc28 _ _) fun _=>bC (hc27 _ _ _) fun _=>bR fun _=>bK (bR fun _=>bR fun _=>bR fun _=>le_refl _) (hj15_2 _ _ _)
def rj15_2 (gV:AV→List AV→Hp→Res):A2:=b15_2
theorem sj15_2 (H0:Hp) {gV:AV→List AV→Hp→Res} (hV:LV gV (acall cfg (callw cfg))):L2 (rj15_2 gV) (j15_2 H0):=fun _ _ _=>le_eq (m15_2 _ _ _) (e15_2 H0 _ _ _)
def rj15_1 (gV:AV→List AV→Hp→Res):A4:=b15_1 (rc27 gV) rc28 (rj15_2 gV) gV
theorem sj15_1 (H0:Hp) {gV:AV→List AV→Hp→Res} (hV:LV gV (acall cfg (callw cfg))):L4 (rj15_1 gV) (j15_1 H0):=fun _ _ _ _ _=>le_eq (m15_1 (sc27 hV) sc28 (sj15_2 H0 hV) hV _ _ _ _ _) (e15_1 H0 _ _ _ _ _)
def bc15 (q25:A3) (j15_1:A4) (p0 p1 p2:AV) (H:Hp):Res:=
 bnd (abox p2 H) fun r5=>
 bnd (some ((.ptr r5.2.length 0),r5.2++[.cells [(.str []),(.int .i64 0),(.int .i64 0),(.int .i64 0),(.int .u64 0),(.int .u64 0),(.int .u64 0),(.int .u64 0),(.int .i64 0),(.int .i64 0),(.int .i64 0),.nils]])) fun r6=>
 bnd (aload true 6 r5.1 r6.2) fun t16=>
 bnd (q25 p0 p1 t16 r6.2) fun r17=>
 bnd (aext r17.1 0) fun t18=>
 bnd (aext r17.1 1) fun t19=>
 bnd (aext r17.1 2) fun t20=>
 bnd (some ((.ptr r17.2.length 0),r17.2++[.cells [(.int .i64 0),(.int .u64 0),(.int .u64 0),(.int .u64 0),(.int .u64 0),(.int .i64 0),(.int .i64 0),(.int .i64 0),.nils]])) fun r9=>
 bnd (astoreU 9 r9.1 t18 r9.2) fun r_9=>
 bnd (ibin .neq t19 (.int .i64 0)) fun t22=>
 cnd t22
  (bnd (some (.agg [(.str []),(.int .i64 0),(.int .i64 0),(.int .i64 0),(.int .u64 0),(.int .u64 0),(.int .u64 0),(.int .u64 0),(.int .i64 0),(.int .i64 0),(.int .i64 0),.nils])) fun t23=>
  bnd (astoreU 12 r6.1 t23 r_9.2) fun r_32=>
  bnd (aload true 12 r6.1 r_32.2) fun v6=>
  some ((.tuple [v6,t19,t20]),r_32.2))
  (j15_1 p0 p1 r6.1 r9.1 r_9.2)
theorem ec15 (p0 p1 p2:AV) (H:Hp):c15 p0 p1 p2 H=bc15 q25 (j15_1 H) p0 p1 p2 H:=(callw_cxm (C:=cfg) (fn:=Tryz.f15) (c:=bodyOf Tryz.f15) (n:=40) [4,7] Tryz.func15 (by kernel_rfl) (by kernel_rfl) [p0,p1,p2] (by kernel_rfl) H).trans (by kernel_rfl)
theorem mc15 {q25 dq25:A3} (hq25:L3 q25 dq25) {j15_1 dj15_1:A4} (hj15_1:L4 j15_1 dj15_1):L3 (bc15 q25 j15_1) (bc15 dq25 dj15_1):=fun _ _ _ _=>
 bR fun _=>bR fun _=>bR fun _=>bC (hq25 _ _ _ _) fun _=>bR fun _=>bR fun _=>bR fun _=>bR fun _=>bR fun _=>bR fun _=>bK (bR fun _=>bR fun _=>bR fun _=>le_refl _) (hj15_1 _ _ _ _ _)
def rc15 (gV:AV→List AV→Hp→Res):A3:=fun p0 p1 p2 H=>bc15 (rq25 gV) (rj15_1 gV) p0 p1 p2 H
theorem sc15 {gV:AV→List AV→Hp→Res} (hV:LV gV (acall cfg (callw cfg))):L3 (rc15 gV) c15:=fun _ _ _ H=>le_eq (mc15 (sq25 hV) (sj15_1 H hV) _ _ _ _) (ec15 _ _ _ _)
def q15:A3:=fun p0 p1 p2 H=>flatC (callw cfg 15) [p0,p1,p2] H
def rq15 (gV:AV→List AV→Hp→Res):A3:=fun p0 p1 p2 H=>flatC (ofL3 (rc15 gV)) [p0,p1,p2] H
theorem sq15 {gV:AV→List AV→Hp→Res} (hV:LV gV (acall cfg (callw cfg))):L3 (rq15 gV) q15:=fun _ _ _ _=>flat_le (ofL3_le (sc15 hV)) _ _

def c62 (p0:AV) (H:Hp):Res:=callw cfg 62 [p0] H
def j62_1 (H0:Hp) (H:Hp):Res:=CXf 62 31 (sub (bodyOf Tryz.f62) [1,1,1,1]) (retL cfg 31 62 Tryz.f62 H0) [] H
def b62_1 (H:Hp):Res:=
 some ((.int .i64 0),H)
theorem e62_1 (H0:Hp) (H:Hp):j62_1 H0 H=b62_1 H:=(CXM_eq [11] _ _ _ _).trans (by kernel_rfl)
theorem m62_1:L0 (b62_1) (b62_1):=fun _=>
 le_refl _
def rj62_1 (gV:AV→List AV→Hp→Res):A0:=b62_1
theorem sj62_1 (H0:Hp) {gV:AV→List AV→Hp→Res} (hV:LV gV (acall cfg (callw cfg))):L0 (rj62_1 gV) (j62_1 H0):=fun _=>le_eq (m62_1 _) (e62_1 H0 _)
def bc62 (j62_1:A0) (cV:AV→List AV→Hp→Res) (p0:AV) (H:Hp):Res:=
 bnd (abox p0 H) fun r1=>
 bnd (some ((.map r1.2.length),r1.2++[.map [] 0])) fun r5=>
 bnd ((afill [(6,1,r5.1)] [(.bool false),(.bool false),(.bool false),(.int .i64 0),(.int .i64 0),.nils,.nilm]).map .agg) fun t6=>
 bnd (some ((.ptr r5.2.length 0),r5.2++[.cells [(.bool false),(.bool false),(.bool false),(.int .i64 0),(.int .i64 0),.nils,.nilm]])) fun r3=>
 bnd (astoreU 7 r3.1 t6 r3.2) fun r_5=>
 bnd (aload true 9 r1.1 r_5.2) fun t7=>
 bnd (cV (.fn (.func 80) [] []) [r3.1,t7] r_5.2) fun r8=>
 bnd (afield 0 r3.1) fun t10=>
 bnd (aload false 1 t10 r8.2) fun t11=>
 cnd t11
  (some ((.int .i64 7),r8.2))
  (bnd (afield 1 r3.1) fun t13=>
  bnd (aload false 1 t13 r8.2) fun t14=>
  cnd t14
   (some ((.int .i64 2),r8.2))
   (bnd (afield 2 r3.1) fun t16=>
   bnd (aload false 1 t16 r8.2) fun t17=>
   cnd t17
    (some ((.int .i64 4),r8.2))
    (bnd (afield 3 r3.1) fun t19=>
    bnd (aload false 1 t19 r8.2) fun t20=>
    bnd (ibin .gtr t20 (.int .i64 600)) fun t21=>
    bnd (gdv t21 false (.tuple []) (afield 4 r3.1)) fun t23=>
    bnd (gdv t21 false (.tuple []) (aload false 1 t23 r8.2)) fun t24=>
    bnd (gdv t21 false (.tuple []) (ibin .gtr t24 (.int .i64 9))) fun t25=>
    bnd (apick t21 (.bool true) t25) fun t26=>
    bnd (gdv t26 false (.tuple []) (some r8.1)) fun t28=>
    bnd (gdv t26 false (.tuple []) (ibin .gtr t28 (.int .i64 32))) fun t29=>
    bnd (apick t26 (.bool true) t29) fun t30=>
    cnd t30
     (some ((.int .i64 3),r8.2))
     (j62_1 r8.2))))
theorem ec62 (p0:AV) (H:Hp):c62 p0 H=bc62 (j62_1 H) (acall cfg (callw cfg)) p0 H:=(callw_cxm (C:=cfg) (fn:=Tryz.f62) (c:=bodyOf Tryz.f62) (n:=31) [11] Tryz.func62 (by kernel_rfl) (by kernel_rfl) [p0] (by kernel_rfl) H).trans (by kernel_rfl)
theorem mc62 {j62_1 dj62_1:A0} (hj62_1:L0 j62_1 dj62_1) {cV dcV:AV→List AV→Hp→Res} (hcV:LV cV dcV):L1 (bc62 j62_1 cV) (bc62 dj62_1 dcV):=fun _ _=>
 bR fun _=>bR fun _=>bR fun _=>bR fun _=>bR fun _=>bR fun _=>bC (hcV _ _ _) fun _=>bR fun _=>bR fun _=>bK (le_refl _) (bR fun _=>bR fun _=>bK (le_refl _) (bR fun _=>bR fun _=>bK (le_refl _) (bR fun _=>bR fun _=>bR fun _=>bR fun _=>bR fun _=>bR fun _=>bR fun _=>bR fun _=>bR fun _=>bR fun _=>bK (le_refl _) (hj62_1 _))))
def rc62 (gV:AV→List AV→Hp→Res):A1:=fun p0 H=>bc62 (rj62_1 gV) gV p0 H
theorem sc62 {gV:AV→List AV→Hp→Res} (hV:LV gV (acall cfg (callw cfg))):L1 (rc62 gV) c62:=fun _ H=>le_eq (mc62 (sj62_1 H hV) hV _ _) (ec62 _ _)
def q62:A1:=fun p0 H=>flatC (callw cfg 62) [p0] H
def rq62 (gV:AV→List AV→Hp→Res):A1:=fun p0 H=>flatC (ofL1 (rc62 gV)) [p0] H
theorem sq62 {gV:AV→List AV→Hp→Res} (hV:LV gV (acall cfg (callw cfg))):L1 (rq62 gV) q62:=fun _ _=>flat_le (ofL1_le (sc62 hV)) _ _

def c81 (p0 p1:AV) (H:Hp):Res:=callw cfg 81 [p0,p1] H
def bc81 (cV:AV→List AV→Hp→Res) (p0 p1:AV) (H:Hp):Res:=
 bnd (abox p0 H) fun r2=>
 bnd (abox p1 r2.2) fun r3=>
 bnd (some ((.ptr r3.2.length 0),r3.2++[.cells [(.int .i64 0)]])) fun r5=>
 bnd (astoreU 1 r5.1 (.int .i64 0) r5.2) fun r_4=>
 bnd (aload true 9 r2.1 r_4.2) fun t6=>
 bnd (some (.fn (.func 105) [] [r3.1,r5.1])) fun t7=>
 bnd (cV (.fn (.func 104) [] []) [t6,t7] r_4.2) fun r8=>
 bnd (aload false 1 r5.1 r8.2) fun t9=>
 some (t9,r8.2)
theorem ec81 (p0 p1:AV) (H:Hp):c81 p0 p1 H=bc81 (acall cfg (callw cfg)) p0 p1 H:=(callw_cxm (C:=cfg) (fn:=Tryz.f81) (c:=bodyOf Tryz.f81) (n:=10) [] Tryz.func81 (by kernel_rfl) (by kernel_rfl) [p0,p1] (by kernel_rfl) H).trans (by kernel_rfl)
theorem mc81 {cV dcV:AV→List AV→Hp→Res} (hcV:LV cV dcV):L2 (bc81 cV) (bc81 dcV):=fun _ _ _=>
 bR fun _=>bR fun _=>bR fun _=>bR fun _=>bR fun _=>bR fun _=>bC (hcV _ _ _) fun _=>bR fun _=>le_refl _
def rc81 (gV:AV→List AV→Hp→Res):A2:=fun p0 p1 H=>bc81 gV p0 p1 H
theorem sc81 {gV:AV→List AV→Hp→Res} (hV:LV gV (acall cfg (callw cfg))):L2 (rc81 gV) c81:=fun _ _ H=>le_eq (mc81 hV _ _ _) (ec81 _ _ _)

def c63 (p0:AV) (H:Hp):Res:=callw cfg 63 [p0] H
def bc63 (c81:A2) (p0:AV) (H:Hp):Res:=
 bnd (abox p0 H) fun r1=>
 bnd (aload true 9 r1.1 r1.2) fun t3=>
 bnd (c81 t3 (.int .i64 6) r1.2) fun r4=>
 some (r4.1,r4.2)
theorem ec63 (p0:AV) (H:Hp):c63 p0 H=bc63 c81 p0 H:=(callw_cxm (C:=cfg) (fn:=Tryz.f63) (c:=bodyOf Tryz.f63) (n:=5) [] Tryz.func63 (by kernel_rfl) (by kernel_rfl) [p0] (by kernel_rfl) H).trans (by kernel_rfl)
theorem mc63 {c81 dc81:A2} (hc81:L2 c81 dc81):L1 (bc63 c81) (bc63 dc81):=fun _ _=>
 bR fun _=>bR fun _=>bC (hc81 _ _ _) fun _=>le_refl _
def rc63 (gV:AV→List AV→Hp→Res):A1:=fun p0 H=>bc63 (rc81 gV) p0 H
theorem sc63 {gV:AV→List AV→Hp→Res} (hV:LV gV (acall cfg (callw cfg))):L1 (rc63 gV) c63:=fun _ H=>le_eq (mc63 (sc81 hV) _ _) (ec63 _ _)

def c64 (p0:AV) (H:Hp):Res:=callw cfg 64 [p0] H
def bc64 (c81:A2) (p0:AV) (H:Hp):Res:=
 bnd (abox p0 H) fun r1=>
 bnd (aload true 9 r1.1 r1.2) fun t3=>
 bnd (c81 t3 (.int .i64 9) r1.2) fun r4=>
 bnd (ibin .gtr r4.1 (.int .i64 0)) fun t5=>
 some (t5,r4.2)
theorem ec64 (p0:AV) (H:Hp):c64 p0 H=bc64 c81 p0 H:=(callw_cxm (C:=cfg) (fn:=Tryz.f64) (c:=bodyOf Tryz.f64) (n:=6) [] Tryz.func64 (by kernel_rfl) (by kernel_rfl) [p0] (by kernel_rfl) H).trans (by kernel_rfl)
theorem mc64 {c81 dc81:A2} (hc81:L2 c81 dc81):L1 (bc64 c81) (bc64 dc81):=fun _ _=>
 bR fun _=>bR fun _=>bC (hc81 _ _ _) fun _=>bR fun _=>le_refl _
def rc64 (gV:AV→List AV→Hp→Res):A1:=fun p0 H=>bc64 (rc81 gV) p0 H
theorem sc64 {gV:AV→List AV→Hp→Res} (hV:LV gV (acall cfg (callw cfg))):L1 (rc64 gV) c64:=fun _ H=>le_eq (mc64 (sc81 hV) _ _) (ec64 _ _)

def c65 (p0:AV) (H:Hp):Res:=callw cfg 65 [p0] H
def bc65 (p0:AV) (H:Hp):Res:=
 bnd (abox p0 H) fun r1=>
 bnd (afield 1 r1.1) fun t3=>
 bnd (aload false 1 t3 r1.2) fun t4=>
 bnd (ibin .and t4 (.int .i64 4)) fun t5=>
 bnd (ibin .neq t5 (.int .i64 0)) fun t6=>
 some (t6,r1.2)
theorem ec65 (p0:AV) (H:Hp):c65 p0 H=bc65 p0 H:=(callw_cxm (C:=cfg) (fn:=Tryz.f65) (c:=bodyOf Tryz.f65) (n:=7) [] Tryz.func65 (by kernel_rfl) (by kernel_rfl) [p0] (by kernel_rfl) H).trans (by kernel_rfl)
theorem mc65:L1 (bc65) (bc65):=fun _ _=>
 bR fun _=>bR fun _=>bR fun _=>bR fun _=>bR fun _=>le_refl _
def rc65:A1:=fun p0 H=>bc65 p0 H
theorem sc65:L1 rc65 c65:=fun _ H=>le_eq (mc65 _ _) (ec65 _ _)

def c82 (p0:AV) (H:Hp):Res:=callw cfg 82 [p0] H
def j82_2 (H0:Hp) (x1 x2:AV) (H:Hp):Res:=CXf 82 18 (sub (bodyOf Tryz.f82) [1,1,1]) (retL cfg 18 82 Tryz.f82 H0) [(1,x1),(2,x2)] H
def j82_1 (H0:Hp) (x1 x2:AV) (H:Hp):Res:=CXf 82 18 (sub (bodyOf Tryz.f82) [1,1]) (retL cfg 18 82 Tryz.f82 H0) [(1,x1),(2,x2)] H
def b82_2 (cV:AV→List AV→Hp→Res) (x1 x2:AV) (H:Hp):Res:=
 bnd (aload true 9 x1 H) fun t15=>
 bnd (cV (.fn (.func 108) [] []) [t15] H) fun r16=>
 bnd (cV (.fn (.func 107) [] []) [r16.1] r16.2) fun r17=>
 bnd (astoreU 9 x2 r17.1 r17.2) fun r_6=>
 bnd (aload true 9 x2 r_6.2) fun v2=>
 some ((.tuple [v2,(.int .i64 0)]),r_6.2)
theorem e82_2 (H0:Hp) (x1 x2:AV) (H:Hp):j82_2 H0 x1 x2 H=b82_2 (acall cfg (callw cfg)) x1 x2 H:=(CXM_eq [4,6] _ _ _ _).trans (by kernel_rfl)
theorem m82_2 {cV dcV:AV→List AV→Hp→Res} (hcV:LV cV dcV):L2 (b82_2 cV) (b82_2 dcV):=fun _ _ _=>
 bR fun _=>bC (hcV _ _ _) fun _=>bC (hcV _ _ _) fun _=>bR fun _=>bR fun _=>le_refl _
def b82_1 (j82_2:A2) (cV:AV→List AV→Hp→Res) (x1 x2:AV) (H:Hp):Res:=
 bnd (aload true 9 x1 H) fun t11=>
 bnd (cV (.fn (.func 106) [] []) [t11] H) fun r12=>
 bnd (ibin .gtr r12.1 (.int .i64 4096)) fun t13=>
 cnd t13
  (bnd (some (.agg [(.int .i64 0),(.int .u64 0),(.int .u64 0),(.int .u64 0),(.int .u64 0),(.int .i64 0),(.int .i64 0),(.int .i64 0),.nils])) fun t14=>
  bnd (astoreU 9 x2 t14 r12.2) fun r_12=>
  bnd (aload true 9 x2 r_12.2) fun v2=>
  some ((.tuple [v2,(.int .i64 3)]),r_12.2))
  (j82_2 x1 x2 r12.2)
theorem e82_1 (H0:Hp) (x1 x2:AV) (H:Hp):j82_1 H0 x1 x2 H=b82_1 (j82_2 H0) (acall cfg (callw cfg)) x1 x2 H:=(CXM_eq [4,6] _ _ _ _).trans (by kernel_rfl)
theorem m82_1 {j82_2 dj82_2:A2} (hj82_2:L2 j82_2 dj82_2) {cV dcV:AV→List AV→Hp→Res} (hcV:LV cV dcV):L2 (b82_1 j82_2 cV) (b82_1 dj82_2 dcV):=fun _ _ _=>
 bR fun _=>bC (hcV _ _ _) fun _=>bR fun _=>bK (bR fun _=>bR fun _=>bR fun _=>le_refl _) (hj82_2 _ _ _)
def rj82_2 (gV:AV→List AV→Hp→Res):A2:=b82_2 gV
theorem sj82_2 (H0:Hp) {gV:AV→List AV→Hp→Res} (hV:LV gV (acall cfg (callw cfg))):L2 (rj82_2 gV) (j82_2 H0):=fun _ _ _=>le_eq (m82_2 hV _ _ _) (e82_2 H0 _ _ _)
def rj82_1 (gV:AV→List AV→Hp→Res):A2:=b82_1 (rj82_2 gV) gV
theorem sj82_1 (H0:Hp) {gV:AV→List AV→Hp→Res} (hV:LV gV (acall cfg (callw cfg))):L2 (rj82_1 gV) (j82_1 H0):=fun _ _ _=>le_eq (m82_1 (sj82_2 H0 hV) hV _ _ _) (e82_1 H0 _ _ _)
def bc82 (q62:A1) (j82_1:A2) (p0:AV) (H:Hp):Res:=
 bnd (abox p0 H) fun r1=>
 bnd (some ((.ptr r1.2.length 0),r1.2++[.cells [(.int .i64 0),(.int .u64 0),(.int .u64 0),(.int .u64 0),(.int .u64 0),(.int .i64 0),(.int .i64 0),(.int .i64 0),.nils]])) fun r2=>
 bnd (aload true 9 r1.1 r2.2) fun t5=>
 bnd (q62 t5 r2.2) fun r6=>
 bnd (ibin .neq r6.1 (.int .i64 0)) fun t8=>
 cnd t8
  (bnd (some (.agg [(.int .i64 0),(.int .u64 0),(.int .u64 0),(.int .u64 0),(.int .u64 0),(.int .i64 0),(.int .i64 0),(.int .i64 0),.nils])) fun t9=>
  bnd (astoreU 9 r2.1 t9 r6.2) fun r_18=>
  bnd (aload true 9 r2.1 r_18.2) fun v2=>
  some ((.tuple [v2,r6.1]),r_18.2))
  (j82_1 r1.1 r2.1 r6.2)
theorem ec82 (p0:AV) (H:Hp):c82 p0 H=bc82 q62 (j82_1 H) p0 H:=(callw_cxm (C:=cfg) (fn:=Tryz.f82) (c:=bodyOf Tryz.f82) (n:=18) [4,6] Tryz.func82 (by kernel_rfl) (by kernel_rfl) [p0] (by kernel_rfl) H).trans (by kernel_rfl)
theorem mc82 {q62 dq62:A1} (hq62:L1 q62 dq62) {j82_1 dj82_1:A2} (hj82_1:L2 j82_1 dj82_1):L1 (bc82 q62 j82_1) (bc82 dq62 dj82_1):=fun _ _=>
 bR fun _=>bR fun _=>bR fun _=>bC (hq62 _ _) fun _=>bR fun _=>bK (bR fun _=>bR fun _=>bR fun _=>le_refl _) (hj82_1 _ _ _)
def rc82 (gV:AV→List AV→Hp→Res):A1:=fun p0 H=>bc82 (rq62 gV) (rj82_1 gV) p0 H
theorem sc82 {gV:AV→List AV→Hp→Res} (hV:LV gV (acall cfg (callw cfg))):L1 (rc82 gV) c82:=fun _ H=>le_eq (mc82 (sq62 hV) (sj82_1 H hV) _ _) (ec82 _ _)
def q82:A1:=fun p0 H=>flatC (callw cfg 82) [p0] H
def rq82 (gV:AV→List AV→Hp→Res):A1:=fun p0 H=>flatC (ofL1 (rc82 gV)) [p0] H
theorem sq82 {gV:AV→List AV→Hp→Res} (hV:LV gV (acall cfg (callw cfg))):L1 (rq82 gV) q82:=fun _ _=>flat_le (ofL1_le (sc82 hV)) _ _

def c84 (p0 p1:AV) (H:Hp):Res:=callw cfg 84 [p0,p1] H
def j84_1 (H0:Hp) (x0 x3:AV) (H:Hp):Res:=CXf 84 30 (sub (bodyOf Tryz.f84) [1,1]) (retL cfg 30 84 Tryz.f84 H0) [(0,x0),(3,x3)] H
def b84_1 (x0 x3:AV) (H:Hp):Res:=
 bnd (anil x0) fun t16=>
 bnd (afield 0 t16) fun t17=>
 bnd (aload false 1 t17 H) fun t18=>
 bnd (aload true 7 x3 H) fun t19=>
 bnd ((setElems 7 [(0,t19)] [(.agg [(.int .i64 0),(.int .u64 0),(.int .u64 0),(.int .u64 0),(.int .u64 0),(.int .i64 0),(.int .i64 0)])]).map (.vs 7 .clip)) fun t20=>
 bnd (aappEL true 7 56 t18 t20 H) fun r21=>
 bnd (anil x0) fun t22=>
 bnd (afield 0 t22) fun t23=>
 bnd (astoreU 1 t23 r21.1 r21.2) fun r_10=>
 bnd (anil x0) fun t25=>
 bnd (afield 0 t25) fun t26=>
 bnd (aload false 1 t26 r_10.2) fun t27=>
 bnd (alenD (.slice 111) t27) fun t28=>
 bnd (ibin .sub t28 (.int .i64 1)) fun t29=>
 some (t29,r_10.2)
theorem e84_1 (H0:Hp) (x0 x3:AV) (H:Hp):j84_1 H0 x0 x3 H=b84_1 x0 x3 H:=(CXM_eq [4] _ _ _ _).trans (by kernel_rfl)
theorem m84_1:L2 (b84_1) (b84_1):=fun _ _ _=>
 bR fun _=>bR fun _=>bR fun _=>bR fun _=>bR fun _=>bR fun _=>bR fun _=>bR fun _=>bR fun _=>bR fun _=>bR fun _=>bR fun _=>bR fun _=>bR fun _=>le_refl _
def rj84_1:A2:=b84_1
theorem sj84_1 (H0:Hp):L2 (rj84_1) (j84_1 H0):=fun _ _ _=>le_eq (m84_1 _ _ _) (e84_1 H0 _ _ _)
def bc84 (j84_1:A2) (p0 p1:AV) (H:Hp):Res:=
 bnd (abox p1 H) fun r3=>
 bnd (anil p0) fun t6=>
 bnd (afield 0 t6) fun t7=>
 bnd (aload false 1 t7 r3.2) fun t8=>
 bnd (alenD (.slice 111) t8) fun t9=>
 bnd (ibin .geq t9 (.int .i64 4096)) fun t10=>
 cnd t10
  (bnd (anil p0) fun t12=>
  bnd (afield 1 t12) fun t13=>
  bnd (astoreU 1 t13 (.bool true) r3.2) fun r_23=>
  some ((.int .i64 0),r_23.2))
  (j84_1 p0 r3.1 r3.2)
theorem ec84 (p0 p1:AV) (H:Hp):c84 p0 p1 H=bc84 (j84_1 H) p0 p1 H:=(callw_cxm (C:=cfg) (fn:=Tryz.f84) (c:=bodyOf Tryz.f84) (n:=30) [4] Tryz.func84 (by kernel_rfl) (by kernel_rfl) [p0,p1] (by kernel_rfl) H).trans (by kernel_rfl)
theorem mc84 {j84_1 dj84_1:A2} (hj84_1:L2 j84_1 dj84_1):L2 (bc84 j84_1) (bc84 dj84_1):=fun _ _ _=>
 bR fun _=>bR fun _=>bR fun _=>bR fun _=>bR fun _=>bR fun _=>bK (bR fun _=>bR fun _=>bR fun _=>le_refl _) (hj84_1 _ _ _)
def rc84:A2:=fun p0 p1 H=>bc84 (rj84_1) p0 p1 H
theorem sc84:L2 rc84 c84:=fun _ _ H=>le_eq (mc84 (sj84_1 H) _ _ _) (ec84 _ _ _)

def c66 (p0 p1:AV) (H:Hp):Res:=callw cfg 66 [p0,p1] H
def j66_4 (H0:Hp) (x1 x4 x9:AV) (H:Hp):Res:=CXf 66 47 (sub (bodyOf Tryz.f66) [1,1,1,1,1,1,1,1,1]) (retL cfg 47 66 Tryz.f66 H0) [(1,x1),(4,x4),(9,x9)] H
def j66_3 (H0:Hp) (x1 x4 x7:AV) (H:Hp):Res:=CXf 66 47 (sub (bodyOf Tryz.f66) [1,1,1,1,1]) (retL cfg 47 66 Tryz.f66 H0) [(1,x1),(4,x4),(7,x7)] H
def j66_2 (H0:Hp) (x1 x2 x4:AV) (H:Hp):Res:=CXf 66 47 (sub (bodyOf Tryz.f66) [1,1,1]) (retL cfg 47 66 Tryz.f66 H0) [(1,x1),(2,x2),(4,x4)] H
def j66_1 (H0:Hp) (x1 x2 x4:AV) (H:Hp):Res:=CXf 66 47 (sub (bodyOf Tryz.f66) [1,1]) (retL cfg 47 66 Tryz.f66 H0) [(1,x1),(2,x2),(4,x4)] H
def b66_4 (x1 x4 x9:AV) (H:Hp):Res:=
 bnd (anil x9) fun t42=>
 bnd (afield 0 t42) fun t43=>
 bnd (aload false 1 t43 H) fun t44=>
 bnd ((afill [(0,1,t44),(1,1,x1)] [.nils,(.bool false)]).map .agg) fun t46=>
 bnd (astoreU 2 x4 t46 H) fun r_19=>
 bnd (aload true 2 x4 r_19.2) fun v4=>
 some ((.tuple [v4,(.int .i64 0)]),r_19.2)
theorem e66_4 (H0:Hp) (x1 x4 x9:AV) (H:Hp):j66_4 H0 x1 x4 x9 H=b66_4 x1 x4 x9 H:=(CXM_eq [4,6,9,14] _ _ _ _).trans (by kernel_rfl)
theorem m66_4:L3 (b66_4) (b66_4):=fun _ _ _ _=>
 bR fun _=>bR fun _=>bR fun _=>bR fun _=>bR fun _=>bR fun _=>le_refl _
def b66_3 (c84:A2) (j66_4:A3) (cV:AV→List AV→Hp→Res) (x1 x4 x7:AV) (H:Hp):Res:=
 bnd (some (.agg [.nils,(.bool false)])) fun t28=>
 bnd (abox t28 H) fun r29=>
 bnd (aload true 9 x7 r29.2) fun t31=>
 bnd (cV (.fn (.func 83) [] []) [r29.1,t31] r29.2) fun r32=>
 bnd ((afill [(0,1,(.int .i64 6))] [(.int .i64 0),(.int .u64 0),(.int .u64 0),(.int .u64 0),(.int .u64 0),(.int .i64 0),(.int .i64 0)]).map .agg) fun t34=>
 bnd (c84 r29.1 t34 r32.2) fun r35=>
 bnd (anil r29.1) fun t37=>
 bnd (afield 1 t37) fun t38=>
 bnd (aload false 1 t38 r35.2) fun t39=>
 cnd t39
  (bnd (some (.agg [.nils,(.bool false)])) fun t40=>
  bnd (astoreU 2 x4 t40 r35.2) fun r_25=>
  bnd (aload true 2 x4 r_25.2) fun v4=>
  some ((.tuple [v4,(.int .i64 3)]),r_25.2))
  (j66_4 x1 x4 r29.1 r35.2)
theorem e66_3 (H0:Hp) (x1 x4 x7:AV) (H:Hp):j66_3 H0 x1 x4 x7 H=b66_3 c84 (j66_4 H0) (acall cfg (callw cfg)) x1 x4 x7 H:=(CXM_eq [4,6,9,14] _ _ _ _).trans (by kernel_rfl)
theorem m66_3 {c84 dc84:A2} (hc84:L2 c84 dc84) {j66_4 dj66_4:A3} (hj66_4:L3 j66_4 dj66_4) {cV dcV:AV→List AV→Hp→Res} (hcV:LV cV dcV):L3 (b66_3 c84 j66_4 cV) (b66_3 dc84 dj66_4 dcV):=fun _ _ _ _=>
 bR fun _=>bR fun _=>bR fun _=>bC (hcV _ _ _) fun _=>bR fun _=>bC (hc84 _ _ _) fun _=>bR fun _=>bR fun _=>bR fun _=>bK (bR fun _=>bR fun _=>bR fun _=>le_refl _) (hj66_4 _ _ _ _)
def b66_2 (q82:A1) (j66_3:A3) (x1 x2 x4:AV) (H:Hp):Res:=
 bnd (aload true 9 x2 H) fun t20=>
 bnd (q82 t20 H) fun r21=>
 bnd (aext r21.1 0) fun t22=>
 bnd (aext r21.1 1) fun t23=>
 bnd (some ((.ptr r21.2.length 0),r21.2++[.cells [(.int .i64 0),(.int .u64 0),(.int .u64 0),(.int .u64 0),(.int .u64 0),(.int .i64 0),(.int .i64 0),(.int .i64 0),.nils]])) fun r7=>
 bnd (astoreU 9 r7.1 t22 r7.2) fun r_8=>
 bnd (ibin .neq t23 (.int .i64 0)) fun t25=>
 cnd t25
  (bnd (some (.agg [.nils,(.bool false)])) fun t26=>
  bnd (astoreU 2 x4 t26 r_8.2) fun r_29=>
  bnd (aload true 2 x4 r_29.2) fun v4=>
  some ((.tuple [v4,t23]),r_29.2))
  (j66_3 x1 x4 r7.1 r_8.2)
theorem e66_2 (H0:Hp) (x1 x2 x4:AV) (H:Hp):j66_2 H0 x1 x2 x4 H=b66_2 q82 (j66_3 H0) x1 x2 x4 H:=(CXM_eq [4,6,9,14] _ _ _ _).trans (by kernel_rfl)
theorem m66_2 {q82 dq82:A1} (hq82:L1 q82 dq82) {j66_3 dj66_3:A3} (hj66_3:L3 j66_3 dj66_3):L3 (b66_2 q82 j66_3) (b66_2 dq82 dj66_3):=fun _ _ _ _=>
 bR fun _=>bC (hq82 _ _) fun _=>bR fun _=>bR fun _=>bR fun _=>bR fun _=>bR fun _=>bK (bR fun _=>bR fun _=>bR fun _=>le_refl _) (hj66_3 _ _ _ _)
def b66_1 (c64:A1) (j66_2:A3) (x1 x2 x4:AV) (H:Hp):Res:=
 bnd (aload true 9 x2 H) fun t16=>
 bnd (c64 t16 H) fun r17=>
 cnd r17.1
  (bnd (some (.agg [.nils,(.bool false)])) fun t18=>
  bnd (astoreU 2 x4 t18 r17.2) fun r_34=>
  bnd (aload true 2 x4 r_34.2) fun v4=>
  some ((.tuple [v4,(.int .i64 7)]),r_34.2))
  (j66_2 x1 x2 x4 r17.2)
theorem e66_1 (H0:Hp) (x1 x2 x4:AV) (H:Hp):j66_1 H0 x1 x2 x4 H=b66_1 c64 (j66_2 H0) x1 x2 x4 H:=(CXM_eq [4,6,9,14] _ _ _ _).trans (by kernel_rfl)
theorem m66_1 {c64 dc64:A1} (hc64:L1 c64 dc64) {j66_2 dj66_2:A3} (hj66_2:L3 j66_2 dj66_2):L3 (b66_1 c64 j66_2) (b66_1 dc64 dj66_2):=fun _ _ _ _=>
 bR fun _=>bC (hc64 _ _) fun _=>bK (bR fun _=>bR fun _=>bR fun _=>le_refl _) (hj66_2 _ _ _ _)
def rj66_4 (gV:AV→List AV→Hp→Res):A3:=b66_4
theorem sj66_4 (H0:Hp) {gV:AV→List AV→Hp→Res} (hV:LV gV (acall cfg (callw cfg))):L3 (rj66_4 gV) (j66_4 H0):=fun _ _ _ _=>le_eq (m66_4 _ _ _ _) (e66_4 H0 _ _ _ _)
def rj66_3 (gV:AV→List AV→Hp→Res):A3:=b66_3 rc84 (rj66_4 gV) gV
theorem sj66_3 (H0:Hp) {gV:AV→List AV→Hp→Res} (hV:LV gV (acall cfg (callw cfg))):L3 (rj66_3 gV) (j66_3 H0):=fun _ _ _ _=>le_eq (m66_3 sc84 (sj66_4 H0 hV) hV _ _ _ _) (e66_3 H0 _ _ _ _)
def rj66_2 (gV:AV→List AV→Hp→Res):A3:=b66_2 (rq82 gV) (rj66_3 gV)
theorem sj66_2 (H0:Hp) {gV:AV→List AV→Hp→Res} (hV:LV gV (acall cfg (callw cfg))):L3 (rj66_2 gV) (j66_2 H0):=fun _ _ _ _=>le_eq (m66_2 (sq82 hV) (sj66_3 H0 hV) _ _ _ _) (e66_2 H0 _ _ _ _)
def rj66_1 (gV:AV→List AV→Hp→Res):A3:=b66_1 (rc64 gV) (rj66_2 gV)
theorem sj66_1 (H0:Hp) {gV:AV→List AV→Hp→Res} (hV:LV gV (acall cfg (callw cfg))):L3 (rj66_1 gV) (j66_1 H0):=fun _ _ _ _=>le_eq (m66_1 (sc64 hV) (sj66_2 H0 hV) _ _ _ _) (e66_1 H0 _ _ _ _)
def bc66 (q62:A1) (j66_1:A3) (p0 p1:AV) (H:Hp):Res:=
 bnd (abox p0 H) fun r2=>
 bnd (some ((.ptr r2.2.length 0),r2.2++[.cells [.nils,(.bool false)]])) fun r4=>
 bnd (aload true 9 r2.1 r4.2) fun t10=>
 bnd (q62 t10 r4.2) fun r11=>
 bnd (ibin .neq r11.1 (.int .i64 0)) fun t13=>
 cnd t13
  (bnd (some (.agg [.nils,(.bool false)])) fun t14=>
  bnd (astoreU 2 r4.1 t14 r11.2) fun r_40=>
  bnd (aload true 2 r4.1 r_40.2) fun v4=>
  some ((.tuple [v4,r11.1]),r_40.2))
  (j66_1 p1 r2.1 r4.1 r11.2)
theorem ec66 (p0 p1:AV) (H:Hp):c66 p0 p1 H=bc66 q62 (j66_1 H) p0 p1 H:=(callw_cxm (C:=cfg) (fn:=Tryz.f66) (c:=bodyOf Tryz.f66) (n:=47) [4,6,9,14] Tryz.func66 (by kernel_rfl) (by kernel_rfl) [p0,p1] (by kernel_rfl) H).trans (by kernel_rfl)
theorem mc66 {q62 dq62:A1} (hq62:L1 q62 dq62) {j66_1 dj66_1:A3} (hj66_1:L3 j66_1 dj66_1):L2 (bc66 q62 j66_1) (bc66 dq62 dj66_1):=fun _ _ _=>
 bR fun _=>bR fun _=>bR fun _=>bC (hq62 _ _) fun _=>bR fun _=>bK (bR fun _=>bR fun _=>bR fun _=>le_refl _) (hj66_1 _ _ _ _)
def rc66 (gV:AV→List AV→Hp→Res):A2:=fun p0 p1 H=>bc66 (rq62 gV) (rj66_1 gV) p0 p1 H
theorem sc66 {gV:AV→List AV→Hp→Res} (hV:LV gV (acall cfg (callw cfg))):L2 (rc66 gV) c66:=fun _ _ H=>le_eq (mc66 (sq62 hV) (sj66_1 H hV) _ _ _) (ec66 _ _ _)
def q66:A2:=fun p0 p1 H=>flatC (callw cfg 66) [p0,p1] H
def rq66 (gV:AV→List AV→Hp→Res):A2:=fun p0 p1 H=>flatC (ofL2 (rc66 gV)) [p0,p1] H
theorem sq66 {gV:AV→List AV→Hp→Res} (hV:LV gV (acall cfg (callw cfg))):L2 (rq66 gV) q66:=fun _ _ _=>flat_le (ofL2_le (sc66 hV)) _ _

def c47 (p0:AV) (H:Hp):Res:=callw cfg 47 [p0] H
def j47_3 (H0:Hp) (x1 x4:AV) (H:Hp):Res:=CXf 47 62 (sub (bodyOf Tryz.f47) [1,1,1,1,1]) (retL cfg 62 47 Tryz.f47 H0) [(1,x1),(4,x4)] H
def j47_2 (H0:Hp) (x1:AV) (H:Hp):Res:=CXf 47 62 (sub (bodyOf Tryz.f47) [1,1,1]) (retL cfg 62 47 Tryz.f47 H0) [(1,x1)] H
def j47_1 (H0:Hp) (x1:AV) (H:Hp):Res:=CXf 47 62 (sub (bodyOf Tryz.f47) [1,1]) (retL cfg 62 47 Tryz.f47 H0) [(1,x1)] H
def b47_3 (c65:A1) (x1 x4:AV) (H:Hp):Res:=
 frzK x1 H fun z1 z1H=>
 frzK x4 z1H fun z4 z4H=>
 bnd (afield 3 z1) fun t54=>
 bnd (aloadv true 9 t54) fun t55=>
 bnd (aloadv true 2 z4) fun t56=>
 bnd (aload true 12 z1 z4H) fun t57=>
 bnd (c65 t57 z4H) fun r58=>
 bnd ((afill [(0,9,t55),(9,2,t56),(11,1,r58.1)] [(.int .i64 0),(.int .u64 0),(.int .u64 0),(.int .u64 0),(.int .u64 0),(.int .i64 0),(.int .i64 0),(.int .i64 0),.nils,.nils,(.bool false),(.bool false)]).map .agg) fun t59=>
 bnd (abox t59 r58.2) fun r60=>
 bnd (amkI Tryz.prog 114 r60.1) fun t61=>
 some ((.tuple [t61,(.int .i64 0)]),r60.2)
theorem e47_3 (H0:Hp) (x1 x4:AV) (H:Hp):j47_3 H0 x1 x4 H=b47_3 c65 x1 x4 H:=(CXM_eq [3,5,8] _ _ _ _).trans (by kernel_rfl)
theorem m47_3 {c65 dc65:A1} (hc65:L1 c65 dc65):L2 (b47_3 c65) (b47_3 dc65):=fun _ _ _=>
 bF fun _ _=>bF fun _ _=>bR fun _=>bR fun _=>bR fun _=>bR fun _=>bC (hc65 _ _) fun _=>bR fun _=>bR fun _=>bR fun _=>le_refl _
def b47_2 (c65:A1) (q66:A2) (j47_3:A2) (x1:AV) (H:Hp):Res:=
 frzK x1 H fun z1 z1H=>
 bnd (afield 3 z1) fun t45=>
 bnd (aloadv true 9 t45) fun t46=>
 bnd (aload true 12 z1 (z1H++[.free])) fun t47=>
 bnd (c65 t47 (z1H++[.free])) fun r48=>
 bnd (q66 t46 r48.1 r48.2) fun r49=>
 bnd (aext r49.1 0) fun t50=>
 bnd (aext r49.1 1) fun t51=>
 bnd (alag (z1H.length+0) (some [.nils,(.bool false)]) r49.2) fun r4=>
 bnd (astoreU 2 r4.1 t50 r4.2) fun r_11=>
 bnd (ibin .neq t51 (.int .i64 0)) fun t53=>
 cnd t53
  (some ((.tuple [.nili,(.int .i64 7)]),r_11.2))
  (j47_3 z1 r4.1 r_11.2)
theorem e47_2 (H0:Hp) (x1:AV) (H:Hp):j47_2 H0 x1 H=b47_2 c65 q66 (j47_3 H0) x1 H:=(CXM_eq [3,5,8] _ _ _ _).trans (by kernel_rfl)
theorem m47_2 {c65 dc65:A1} (hc65:L1 c65 dc65) {q66 dq66:A2} (hq66:L2 q66 dq66) {j47_3 dj47_3:A2} (hj47_3:L2 j47_3 dj47_3):L1 (b47_2 c65 q66 j47_3) (b47_2 dc65 dq66 dj47_3):=fun _ _=>
 bF fun _ _=>bR fun _=>bR fun _=>bR fun _=>bC (hc65 _ _) fun _=>bC (hq66 _ _ _) fun _=>bR fun _=>bR fun _=>bR fun _=>bR fun _=>bR fun _=>bK (le_refl _) (hj47_3 _ _ _)
def b47_1 (c64:A1) (c65:A1) (j47_2:A1) (x1:AV) (H:Hp):Res:=
 bnd (afield 3 x1) fun t34=>
 bnd (aload true 9 t34 H) fun t35=>
 bnd (c64 t35 H) fun r36=>
 cnd r36.1
  (frzK x1 r36.2 fun z1 z1H=>
  bnd (afield 3 z1) fun t37=>
  bnd (aloadv true 9 t37) fun t38=>
  bnd (aload true 12 z1 z1H) fun t39=>
  bnd (c65 t39 z1H) fun r40=>
  bnd ((afill [(0,9,t38),(9,1,r40.1)] [(.int .i64 0),(.int .u64 0),(.int .u64 0),(.int .u64 0),(.int .u64 0),(.int .i64 0),(.int .i64 0),(.int .i64 0),.nils,(.bool false)]).map .agg) fun t41=>
  bnd (abox t41 r40.2) fun r42=>
  bnd (amkI Tryz.prog 118 r42.1) fun t43=>
  some ((.tuple [t43,(.int .i64 0)]),r42.2))
  (j47_2 x1 r36.2)
theorem e47_1 (H0:Hp) (x1:AV) (H:Hp):j47_1 H0 x1 H=b47_1 c64 c65 (j47_2 H0) x1 H:=(CXM_eq [3,5,8] _ _ _ _).trans (by kernel_rfl)
theorem m47_1 {c64 dc64:A1} (hc64:L1 c64 dc64) {c65 dc65:A1} (hc65:L1 c65 dc65) {j47_2 dj47_2:A1} (hj47_2:L1 j47_2 dj47_2):L1 (b47_1 c64 c65 j47_2) (b47_1 dc64 dc65 dj47_2):=fun _ _=>
 bR fun _=>bR fun _=>bC (hc64 _ _) fun _=>bK (bF fun _ _=>bR fun _=>bR fun _=>bR fun _=>bC (hc65 _ _) fun _=>bR fun _=>bR fun _=>bR fun _=>le_refl _) (hj47_2 _ _)
def rj47_3 (gV:AV→List AV→Hp→Res):A2:=b47_3 rc65
theorem sj47_3 (H0:Hp) {gV:AV→List AV→Hp→Res} (hV:LV gV (acall cfg (callw cfg))):L2 (rj47_3 gV) (j47_3 H0):=fun _ _ _=>le_eq (m47_3 sc65 _ _ _) (e47_3 H0 _ _ _)
def rj47_2 (gV:AV→List AV→Hp→Res):A1:=b47_2 rc65 (rq66 gV) (rj47_3 gV)
theorem sj47_2 (H0:Hp) {gV:AV→List AV→Hp→Res} (hV:LV gV (acall cfg (callw cfg))):L1 (rj47_2 gV) (j47_2 H0):=fun _ _=>le_eq (m47_2 sc65 (sq66 hV) (sj47_3 H0 hV) _ _) (e47_2 H0 _ _)
def rj47_1 (gV:AV→List AV→Hp→Res):A1:=b47_1 (rc64 gV) rc65 (rj47_2 gV)
theorem sj47_1 (H0:Hp) {gV:AV→List AV→Hp→Res} (hV:LV gV (acall cfg (callw cfg))):L1 (rj47_1 gV) (j47_1 H0):=fun _ _=>le_eq (m47_1 (sc64 hV) sc65 (sj47_2 H0 hV) _ _) (e47_1 H0 _ _)
def bc47 (c63:A1) (q62:A1) (j47_1:A1) (p0:AV) (H:Hp):Res:=
 bnd (abox p0 H) fun r1=>
 frzK r1.1 r1.2 fun z1 z1H=>
 bnd (afield 3 z1) fun t6=>
 bnd (aload true 9 t6 z1H) fun t7=>
 bnd (q62 t7 z1H) fun r8=>
 bnd (ibin .neq r8.1 (.int .i64 0)) fun t9=>
 bnd (gdv t9 false (.tuple []) (afield 2 z1)) fun t11=>
 bnd (gdv t9 false (.tuple []) (aloadv false 1 t11)) fun t12=>
 bnd (gdv t9 false (.tuple []) (afield 3 z1)) fun t13=>
 bnd (gdv t9 false (.tuple []) (aload true 9 t13 r8.2)) fun t14=>
 bnd (gdv t9 false ((.tuple []),r8.2) (c63 t14 r8.2)) fun r15=>
 bnd (gdv t9 false (.tuple []) (ibin .neq t12 r15.1)) fun t16=>
 bnd (apick t9 (.bool true) t16) fun t17=>
 bnd (gdv t17 false (.tuple []) (afield 1 z1)) fun t19=>
 bnd (gdv t17 false (.tuple []) (aload false 1 t19 r15.2)) fun t20=>
 bnd (gdv t17 false (.tuple []) (ibin .lss t20 (.int .i64 0))) fun t21=>
 bnd (apick t17 (.bool true) t21) fun t22=>
 bnd (gdv t22 false (.tuple []) (afield 1 z1)) fun t24=>
 bnd (gdv t22 false (.tuple []) (aload false 1 t24 r15.2)) fun t25=>
 bnd (gdv t22 false (.tuple []) (ibin .gtr t25 (.int .i64 7))) fun t26=>
 bnd (apick t22 (.bool true) t26) fun t27=>
 bnd (gdv t27 false (.tuple []) (afield 0 z1)) fun t29=>
 bnd (gdv t27 false (.tuple []) (aload false 1 t29 r15.2)) fun t30=>
 bnd (gdv t27 false (.tuple []) (alenD .string t30)) fun t31=>
 bnd (gdv t27 false (.tuple []) (ibin .gtr t31 (.int .i64 256))) fun t32=>
 bnd (apick t27 (.bool true) t32) fun t33=>
 cnd t33
  (some ((.tuple [.nili,(.int .i64 7)]),r15.2))
  (j47_1 z1 r15.2)
theorem ec47 (p0:AV) (H:Hp):c47 p0 H=bc47 c63 q62 (j47_1 H) p0 H:=(callw_cxm (C:=cfg) (fn:=Tryz.f47) (c:=bodyOf Tryz.f47) (n:=62) [3,5,8] Tryz.func47 (by kernel_rfl) (by kernel_rfl) [p0] (by kernel_rfl) H).trans (by kernel_rfl)
theorem mc47 {c63 dc63:A1} (hc63:L1 c63 dc63) {q62 dq62:A1} (hq62:L1 q62 dq62) {j47_1 dj47_1:A1} (hj47_1:L1 j47_1 dj47_1):L1 (bc47 c63 q62 j47_1) (bc47 dc63 dq62 dj47_1):=fun _ _=>
 bR fun _=>bF fun _ _=>bR fun _=>bR fun _=>bC (hq62 _ _) fun _=>bR fun _=>bR fun _=>bR fun _=>bR fun _=>bR fun _=>bG (hc63 _ _) fun _=>bR fun _=>bR fun _=>bR fun _=>bR fun _=>bR fun _=>bR fun _=>bR fun _=>bR fun _=>bR fun _=>bR fun _=>bR fun _=>bR fun _=>bR fun _=>bR fun _=>bR fun _=>bK (le_refl _) (hj47_1 _ _)
def rc47 (gV:AV→List AV→Hp→Res):A1:=fun p0 H=>bc47 (rc63 gV) (rq62 gV) (rj47_1 gV) p0 H
theorem sc47 {gV:AV→List AV→Hp→Res} (hV:LV gV (acall cfg (callw cfg))):L1 (rc47 gV) c47:=fun _ H=>le_eq (mc47 (sc63 hV) (sq62 hV) (sj47_1 H hV) _ _) (ec47 _ _)

def c37 (p0 p1 p2:AV) (H:Hp):Res:=callw cfg 37 [p0,p1,p2] H
def j37_1 (H0:Hp) (x8:AV) (H:Hp):Res:=CXf 37 33 (sub (bodyOf Tryz.f37) [1,1,1]) (retL cfg 33 37 Tryz.f37 H0) [(8,x8)] H
def b37_1 (x8:AV) (H:Hp):Res:=
 some ((.tuple [x8,(.int .i64 0)]),H)
theorem e37_1 (H0:Hp) (x8:AV) (H:Hp):j37_1 H0 x8 H=b37_1 x8 H:=(CXM_eq [8] _ _ _ _).trans (by kernel_rfl)
theorem m37_1:L1 (b37_1) (b37_1):=fun _ _=>
 le_refl _
def rj37_1 (gV:AV→List AV→Hp→Res):A1:=b37_1
theorem sj37_1 (H0:Hp) {gV:AV→List AV→Hp→Res} (hV:LV gV (acall cfg (callw cfg))):L1 (rj37_1 gV) (j37_1 H0):=fun _ _=>le_eq (m37_1 _ _) (e37_1 H0 _ _)
def bc37 (c47:A1) (j37_1:A1) (p0 p1 p2:AV) (H:Hp):Res:=
 bnd (abox p0 H) fun r3=>
 bnd (aload true 12 r3.1 r3.2) fun t11=>
 bnd (c47 t11 r3.2) fun r12=>
 bnd (aext r12.1 0) fun t13=>
 bnd (aext r12.1 1) fun t14=>
 bnd (ibin .neq t14 (.int .i64 0)) fun t17=>
 cnd t17
  (some ((.tuple [.nili,t14]),r12.2))
  (bnd (alenD .string p1) fun t21=>
  bnd (ibin .gtr t21 (.int .i64 65536)) fun t22=>
  cnd t22
   (some ((.tuple [.nili,(.int .i64 3)]),r12.2))
   (bnd (ibin .lss p2 (.int .i64 0)) fun t25=>
   bnd (gdv t25 false (.tuple []) (some p2)) fun t27=>
   bnd (gdv t25 false (.tuple []) (some p1)) fun t28=>
   bnd (gdv t25 false (.tuple []) (alenD .string t28)) fun t29=>
   bnd (gdv t25 false (.tuple []) (ibin .gtr t27 t29)) fun t30=>
   bnd (apick t25 (.bool true) t30) fun t31=>
   cnd t31
    (some ((.tuple [.nili,(.int .i64 2)]),r12.2))
    (j37_1 t13 r12.2)))
theorem ec37 (p0 p1 p2:AV) (H:Hp):c37 p0 p1 p2 H=bc37 c47 (j37_1 H) p0 p1 p2 H:=(callw_cxm (C:=cfg) (fn:=Tryz.f37) (c:=bodyOf Tryz.f37) (n:=33) [8] Tryz.func37 (by kernel_rfl) (by kernel_rfl) [p0,p1,p2] (by kernel_rfl) H).trans (by kernel_rfl)
theorem mc37 {c47 dc47:A1} (hc47:L1 c47 dc47) {j37_1 dj37_1:A1} (hj37_1:L1 j37_1 dj37_1):L3 (bc37 c47 j37_1) (bc37 dc47 dj37_1):=fun _ _ _ _=>
 bR fun _=>bR fun _=>bC (hc47 _ _) fun _=>bR fun _=>bR fun _=>bR fun _=>bK (le_refl _) (bR fun _=>bR fun _=>bK (le_refl _) (bR fun _=>bR fun _=>bR fun _=>bR fun _=>bR fun _=>bR fun _=>bK (le_refl _) (hj37_1 _ _)))
def rc37 (gV:AV→List AV→Hp→Res):A3:=fun p0 p1 p2 H=>bc37 (rc47 gV) (rj37_1 gV) p0 p1 p2 H
theorem sc37 {gV:AV→List AV→Hp→Res} (hV:LV gV (acall cfg (callw cfg))):L3 (rc37 gV) c37:=fun _ _ _ H=>le_eq (mc37 (sc47 hV) (sj37_1 H hV) _ _ _ _) (ec37 _ _ _ _)

def c38 (p0 p1 p2 p3:AV) (H:Hp):Res:=callw cfg 38 [p0,p1,p2,p3] H
def j38_2 (H0:Hp) (x8 x11:AV) (H:Hp):Res:=CXf 38 59 (sub (bodyOf Tryz.f38) [1,1,1,1]) (retL cfg 59 38 Tryz.f38 H0) [(8,x8),(11,x11)] H
def j38_1 (H0:Hp) (x0 x1 x2 x8 x11:AV) (H:Hp):Res:=CXf 38 59 (sub (bodyOf Tryz.f38) [1,1,1]) (retL cfg 59 38 Tryz.f38 H0) [(0,x0),(1,x1),(2,x2),(8,x8),(11,x11)] H
def b38_2 (x8 x11:AV) (H:Hp):Res:=
 bnd (aload true 1 x11 H) fun t58=>
 bnd (astoreU 1 x8 t58 H) fun r_9=>
 bnd (aload true 1 x8 r_9.2) fun v8=>
 some ((.tuple [v8,(.bool true),(.int .i64 0)]),r_9.2)
theorem e38_2 (H0:Hp) (x8 x11:AV) (H:Hp):j38_2 H0 x8 x11 H=b38_2 x8 x11 H:=(CXM_eq [4,11] _ _ _ _).trans (by kernel_rfl)
theorem m38_2:L2 (b38_2) (b38_2):=fun _ _ _=>
 bR fun _=>bR fun _=>bR fun _=>le_refl _
def b38_1 (j38_2:A2) (cV:AV→List AV→Hp→Res) (x0 x1 x2 x8 x11:AV) (H:Hp):Res:=
 bnd (atyI Tryz.prog true 114 .nilp x0) fun t33=>
 bnd (aext t33 1) fun t34=>
 bnd (aext t33 0) fun t35=>
 cnd t34
  (bnd (ibin .gtr x1 (.int .i64 0)) fun t37=>
  cnd t37
   (bnd (anil t35) fun t39=>
   bnd (afield 0 t39) fun t40=>
   bnd (aload true 9 t40 H) fun t41=>
   bnd (afield 0 x11) fun t43=>
   bnd (aload false 1 t43 H) fun t44=>
   bnd (aindexS 2 t44 (.int .i64 0)) fun t45=>
   bnd (aload true 2 t45 H) fun t46=>
   bnd (anil t35) fun t48=>
   bnd (afield 11 t48) fun t49=>
   bnd (aload false 1 t49 H) fun t50=>
   bnd (cV (.fn (.func 48) [] []) [t41,x2,t46,t50] H) fun r51=>
   bnd (aext r51.1 0) fun t52=>
   bnd (aext r51.1 1) fun t53=>
   bnd (aext r51.1 2) fun t54=>
   bnd (astoreU 1 x8 t52 r51.2) fun r_29=>
   bnd (aload true 1 x8 r_29.2) fun v8=>
   some ((.tuple [v8,t53,t54]),r_29.2))
   (j38_2 x8 x11 H))
  (bnd (atyI Tryz.prog true 118 .nilp x0) fun t55=>
  bnd (aext t55 1) fun t56=>
  bnd (aext t55 0) fun t57=>
  cnd t56
   (j38_2 x8 x11 H)
   (j38_2 x8 x11 H))
theorem e38_1 (H0:Hp) (x0 x1 x2 x8 x11:AV) (H:Hp):j38_1 H0 x0 x1 x2 x8 x11 H=b38_1 (j38_2 H0) (acall cfg (callw cfg)) x0 x1 x2 x8 x11 H:=(CXM_eq [4,11] _ _ _ _).trans (by kernel_rfl)
theorem m38_1 {j38_2 dj38_2:A2} (hj38_2:L2 j38_2 dj38_2) {cV dcV:AV→List AV→Hp→Res} (hcV:LV cV dcV):L5 (b38_1 j38_2 cV) (b38_1 dj38_2 dcV):=fun _ _ _ _ _ _=>
 bR fun _=>bR fun _=>bR fun _=>bK (bR fun _=>bK (bR fun _=>bR fun _=>bR fun _=>bR fun _=>bR fun _=>bR fun _=>bR fun _=>bR fun _=>bR fun _=>bR fun _=>bC (hcV _ _ _) fun _=>bR fun _=>bR fun _=>bR fun _=>bR fun _=>bR fun _=>le_refl _) (hj38_2 _ _ _)) (bR fun _=>bR fun _=>bR fun _=>bK (hj38_2 _ _ _) (hj38_2 _ _ _))
def rj38_2 (gV:AV→List AV→Hp→Res):A2:=b38_2
theorem sj38_2 (H0:Hp) {gV:AV→List AV→Hp→Res} (hV:LV gV (acall cfg (callw cfg))):L2 (rj38_2 gV) (j38_2 H0):=fun _ _ _=>le_eq (m38_2 _ _ _) (e38_2 H0 _ _ _)
def rj38_1 (gV:AV→List AV→Hp→Res):A5:=b38_1 (rj38_2 gV) gV
theorem sj38_1 (H0:Hp) {gV:AV→List AV→Hp→Res} (hV:LV gV (acall cfg (callw cfg))):L5 (rj38_1 gV) (j38_1 H0):=fun _ _ _ _ _ _=>le_eq (m38_1 (sj38_2 H0 hV) hV _ _ _ _ _ _) (e38_1 H0 _ _ _ _ _ _)
def bc38 (j38_1:A5) (cV:AV→List AV→Hp→Res) (p0 p1 p2 p3:AV) (H:Hp):Res:=
 bnd (some ((.ptr H.length 0),H++[.cells [.nils]])) fun r8=>
 bnd (invV Tryz.prog cV p0 "texttools/regex.whole" [p2, p3] r8.2) fun r20=>
 bnd (aext r20.1 0) fun t21=>
 bnd (aext r20.1 1) fun t22=>
 bnd (aext r20.1 2) fun t23=>
 bnd (some ((.ptr r20.2.length 0),r20.2++[.cells [.nils]])) fun r11=>
 bnd (astoreU 1 r11.1 t21 r11.2) fun r_7=>
 bnd (aun .not t22) fun t25=>
 bnd (gdv t25 false (.tuple []) (some t23)) fun t27=>
 bnd (gdv t25 false (.tuple []) (ibin .neq t27 (.int .i64 0))) fun t28=>
 bnd (apick t25 (.bool true) t28) fun t29=>
 cnd t29
  (bnd (some (.agg [.nils])) fun t30=>
  bnd (astoreU 1 r8.1 t30 r_7.2) fun r_39=>
  bnd (aload true 1 r8.1 r_39.2) fun v8=>
  some ((.tuple [v8,(.bool false),t23]),r_39.2))
  (j38_1 p0 p1 p2 r8.1 r11.1 r_7.2)
theorem ec38 (p0 p1 p2 p3:AV) (H:Hp):c38 p0 p1 p2 p3 H=bc38 (j38_1 H) (acall cfg (callw cfg)) p0 p1 p2 p3 H:=(callw_cxm (C:=cfg) (fn:=Tryz.f38) (c:=bodyOf Tryz.f38) (n:=59) [4,11] Tryz.func38 (by kernel_rfl) (by kernel_rfl) [p0,p1,p2,p3] (by kernel_rfl) H).trans (by kernel_rfl)
theorem mc38 {j38_1 dj38_1:A5} (hj38_1:L5 j38_1 dj38_1) {cV dcV:AV→List AV→Hp→Res} (hcV:LV cV dcV):L4 (bc38 j38_1 cV) (bc38 dj38_1 dcV):=fun _ _ _ _ _=>
 bR fun _=>bC (invV_le hcV _ _ _ _) fun _=>bR fun _=>bR fun _=>bR fun _=>bR fun _=>bR fun _=>bR fun _=>bR fun _=>bR fun _=>bR fun _=>bK (bR fun _=>bR fun _=>bR fun _=>le_refl _) (hj38_1 _ _ _ _ _ _)
def rc38 (gV:AV→List AV→Hp→Res):A4:=fun p0 p1 p2 p3 H=>bc38 (rj38_1 gV) gV p0 p1 p2 p3 H
theorem sc38 {gV:AV→List AV→Hp→Res} (hV:LV gV (acall cfg (callw cfg))):L4 (rc38 gV) c38:=fun _ _ _ _ H=>le_eq (mc38 (sj38_1 H hV) hV _ _ _ _ _) (ec38 _ _ _ _ _)

def c29 (p0 p1:AV) (H:Hp):Res:=callw cfg 29 [p0,p1] H
def j29_2 (H0:Hp) (x8:AV) (H:Hp):Res:=CXf 29 73 (sub (bodyOf Tryz.f29) [1,1,1,1,1,1]) (retL cfg 73 29 Tryz.f29 H0) [(8,x8)] H
def k29_1 (H0:Hp):KL:=seqL (fun k al H=>CXf 29 73 (sub (bodyOf Tryz.f29) [1,1,1,1,1,1]) k (trimL (cfg.keep 29) (sub (bodyOf Tryz.f29) [1,1,1,1,1,1]) al) H) (retL cfg 73 29 Tryz.f29 H0)
theorem k29_1_tame (H0:Hp):Tame 73 (k29_1 H0):=tame_seq (C:=cfg) (kp:=cfg.keep 29) (sub (bodyOf Tryz.f29) [1,1,1,1,1,1]) (tame_ret 29 Tryz.f29 H0)
def j29_6 (H0:Hp) (x1 x2 x6 x8 x9 x14 x15:AV) (H:Hp):Res:=CXf 29 73 (sub (bodyOf Tryz.f29) [1,1,1,1,1,0,1,0,0,1,0,1,1,1,1,1,1]) (blockL 1 (seqL (fun k al H=>LPf 29 73 (sub (bodyOf Tryz.f29) [1,1,1,1,1,0,1,0,0]) k (trimL (cfg.keep 29) (sub (bodyOf Tryz.f29) [1,1,1,1,1,0,1,0,0]) al) H) (blockL 0 (k29_1 H0)))) [(1,x1),(2,x2),(6,x6),(8,x8),(9,x9),(14,x14),(15,x15)] H
def j29_5 (H0:Hp) (x1 x2 x6 x8 x9 x11:AV) (H:Hp):Res:=CXf 29 73 (sub (bodyOf Tryz.f29) [1,1,1,1,1,0,1,0,0,1,0,1,1,1]) (blockL 1 (seqL (fun k al H=>LPf 29 73 (sub (bodyOf Tryz.f29) [1,1,1,1,1,0,1,0,0]) k (trimL (cfg.keep 29) (sub (bodyOf Tryz.f29) [1,1,1,1,1,0,1,0,0]) al) H) (blockL 0 (k29_1 H0)))) [(1,x1),(2,x2),(6,x6),(8,x8),(9,x9),(11,x11)] H
def j29_4 (H0:Hp) (x1 x2 x6 x8 x9 x11 x12:AV) (H:Hp):Res:=CXf 29 73 (sub (bodyOf Tryz.f29) [1,1,1,1,1,0,1,0,0,1,0,1,1]) (blockL 1 (seqL (fun k al H=>LPf 29 73 (sub (bodyOf Tryz.f29) [1,1,1,1,1,0,1,0,0]) k (trimL (cfg.keep 29) (sub (bodyOf Tryz.f29) [1,1,1,1,1,0,1,0,0]) al) H) (blockL 0 (k29_1 H0)))) [(1,x1),(2,x2),(6,x6),(8,x8),(9,x9),(11,x11),(12,x12)] H
def j29_3 (H0:Hp) (x1 x2 x6 x8 x9 x10:AV) (H:Hp):Res:=CXf 29 73 (sub (bodyOf Tryz.f29) [1,1,1,1,1,0,1,0,0,1]) (seqL (fun k al H=>LPf 29 73 (sub (bodyOf Tryz.f29) [1,1,1,1,1,0,1,0,0]) k (trimL (cfg.keep 29) (sub (bodyOf Tryz.f29) [1,1,1,1,1,0,1,0,0]) al) H) (blockL 0 (k29_1 H0))) [(1,x1),(2,x2),(6,x6),(8,x8),(9,x9),(10,x10)] H
def j29_l1 (H0:Hp) (x1 x2 x6 x8 x9 x10:AV) (H:Hp):Res:=LPf 29 73 (sub (bodyOf Tryz.f29) [1,1,1,1,1,0,1,0,0]) (blockL 0 (k29_1 H0)) [(1,x1),(2,x2),(6,x6),(8,x8),(9,x9),(10,x10)] H
def j29_1 (H0:Hp) (x1 x2 x6:AV) (H:Hp):Res:=CXf 29 73 (sub (bodyOf Tryz.f29) [1,1,1]) (retL cfg 73 29 Tryz.f29 H0) [(1,x1),(2,x2),(6,x6)] H
def b29_2 (x8:AV) (H:Hp):Res:=
 some ((.tuple [x8,(.int .i64 0)]),H)
theorem e29_2 (H0:Hp) (x8:AV) (H:Hp):j29_2 H0 x8 H=b29_2 x8 H:=(CXM_eq [4,8,11,12,17,20] _ _ _ _).trans (by kernel_rfl)
theorem m29_2:L1 (b29_2) (b29_2):=fun _ _=>
 le_refl _
def b29_6 (j29_l1:A6) (x1 x2 x6 x8 x9 x14 x15:AV) (H:Hp):Res:=
 bnd (afield 1 x14) fun t67=>
 bnd (aload false 1 t67 H) fun t68=>
 cnd x15
  (bnd (ibin .add t68 (.int .i64 1)) fun t71=>
  j29_l1 x1 x2 x6 x8 x9 t71 H)
  (j29_l1 x1 x2 x6 x8 x9 t68 H)
theorem e29_6 (H0:Hp) (x1 x2 x6 x8 x9 x14 x15:AV) (H:Hp):j29_6 H0 x1 x2 x6 x8 x9 x14 x15 H=b29_6 (j29_l1 H0) x1 x2 x6 x8 x9 x14 x15 H:=(CXM_eq [4,8,11,12,17,20] _ _ _ _).trans (by kernel_rfl)
theorem m29_6 {j29_l1 dj29_l1:A6} (hj29_l1:L6 j29_l1 dj29_l1):L7 (b29_6 j29_l1) (b29_6 dj29_l1):=fun _ _ _ _ _ _ _ _=>
 bR fun _=>bR fun _=>bK (bR fun _=>hj29_l1 _ _ _ _ _ _ _) (hj29_l1 _ _ _ _ _ _ _)
def b29_5 (j29_6:A7) (x1 x2 x6 x8 x9 x11:AV) (H:Hp):Res:=
 bnd (afield 0 x11) fun t44=>
 bnd (aload false 1 t44 H) fun t45=>
 bnd (aindexS 2 t45 (.int .i64 0)) fun t46=>
 bnd (aload true 2 t46 H) fun t47=>
 bnd (some ((.ptr H.length 0),H++[.cells [(.int .i64 0),(.int .i64 0)]])) fun r14=>
 bnd (astoreU 2 r14.1 t47 r14.2) fun r_19=>
 bnd (afield 0 r14.1) fun t48=>
 bnd (aload false 1 t48 r_19.2) fun t49=>
 bnd (afield 1 r14.1) fun t50=>
 bnd (aload false 1 t50 r_19.2) fun t51=>
 bnd (ibin .eql t49 t51) fun t52=>
 bnd (aun .not t52) fun t54=>
 bnd (gdv t54 false (.tuple []) (afield 0 r14.1)) fun t56=>
 bnd (gdv t54 false (.tuple []) (aload false 1 t56 r_19.2)) fun t57=>
 bnd (gdv t54 false (.tuple []) (some x9)) fun t58=>
 bnd (gdv t54 false (.tuple []) (ibin .neq t57 t58)) fun t59=>
 bnd (apick t54 (.bool true) t59) fun t60=>
 cnd t60
  (bnd (aload true 1 x11 r_19.2) fun t62=>
  bnd ((setElems 1 [(0,t62)] [(.agg [.nils])]).map (.vs 1 .clip)) fun t63=>
  bnd (aappE 1 24 x8 t63 r_19.2) fun r64=>
  bnd (afield 1 r14.1) fun t65=>
  bnd (aload false 1 t65 r64.2) fun t66=>
  j29_6 x1 x2 x6 r64.1 t66 r14.1 t52 r64.2)
  (j29_6 x1 x2 x6 x8 x9 r14.1 t52 r_19.2)
theorem e29_5 (H0:Hp) (x1 x2 x6 x8 x9 x11:AV) (H:Hp):j29_5 H0 x1 x2 x6 x8 x9 x11 H=b29_5 (j29_6 H0) x1 x2 x6 x8 x9 x11 H:=(CXM_eq [4,8,11,12,17,20] _ _ _ _).trans (by kernel_rfl)
theorem m29_5 {j29_6 dj29_6:A7} (hj29_6:L7 j29_6 dj29_6):L6 (b29_5 j29_6) (b29_5 dj29_6):=fun _ _ _ _ _ _ _=>
 bR fun _=>bR fun _=>bR fun _=>bR fun _=>bR fun _=>bR fun _=>bR fun _=>bR fun _=>bR fun _=>bR fun _=>bR fun _=>bR fun _=>bR fun _=>bR fun _=>bR fun _=>bR fun _=>bR fun _=>bK (bR fun _=>bR fun _=>bR fun _=>bR fun _=>bR fun _=>hj29_6 _ _ _ _ _ _ _ _) (hj29_6 _ _ _ _ _ _ _ _)
def b29_4 (j29_2:A1) (j29_5:A6) (x1 x2 x6 x8 x9 x11 x12:AV) (H:Hp):Res:=
 bnd (aun .not x12) fun t43=>
 cnd t43
  (j29_2 x8 H)
  (j29_5 x1 x2 x6 x8 x9 x11 H)
theorem e29_4 (H0:Hp) (x1 x2 x6 x8 x9 x11 x12:AV) (H:Hp):j29_4 H0 x1 x2 x6 x8 x9 x11 x12 H=b29_4 (j29_2 H0) (j29_5 H0) x1 x2 x6 x8 x9 x11 x12 H:=(CXM_eq [4,8,11,12,17,20] _ _ _ _).trans (by kernel_rfl)
theorem m29_4 {j29_2 dj29_2:A1} (hj29_2:L1 j29_2 dj29_2) {j29_5 dj29_5:A6} (hj29_5:L6 j29_5 dj29_5):L7 (b29_4 j29_2 j29_5) (b29_4 dj29_2 dj29_5):=fun _ _ _ _ _ _ _ _=>
 bR fun _=>bK (hj29_2 _ _) (hj29_5 _ _ _ _ _ _ _)
def b29_3 (c38:A4) (j29_4:A7) (x1 x2 x6 x8 x9 x10:AV) (H:Hp):Res:=
 bnd (afield 2 x2) fun t31=>
 bnd (aload false 1 t31 H) fun t32=>
 bnd (c38 x6 t32 x1 x10 H) fun r35=>
 bnd (aext r35.1 0) fun t36=>
 bnd (aext r35.1 1) fun t37=>
 bnd (aext r35.1 2) fun t38=>
 bnd (some ((.ptr r35.2.length 0),r35.2++[.cells [.nils]])) fun r11=>
 bnd (astoreU 1 r11.1 t36 r11.2) fun r_13=>
 bnd (ibin .neq t38 (.int .i64 0)) fun t40=>
 cnd t40
  (some ((.tuple [.nils,t38]),r_13.2))
  (j29_4 x1 x2 x6 x8 x9 r11.1 t37 r_13.2)
theorem e29_3 (H0:Hp) (x1 x2 x6 x8 x9 x10:AV) (H:Hp):j29_3 H0 x1 x2 x6 x8 x9 x10 H=b29_3 c38 (j29_4 H0) x1 x2 x6 x8 x9 x10 H:=(CXM_eq [4,8,11,12,17,20] _ _ _ _).trans (by kernel_rfl)
theorem m29_3 {c38 dc38:A4} (hc38:L4 c38 dc38) {j29_4 dj29_4:A7} (hj29_4:L7 j29_4 dj29_4):L6 (b29_3 c38 j29_4) (b29_3 dc38 dj29_4):=fun _ _ _ _ _ _ _=>
 bR fun _=>bR fun _=>bC (hc38 _ _ _ _ _) fun _=>bR fun _=>bR fun _=>bR fun _=>bR fun _=>bR fun _=>bR fun _=>bK (le_refl _) (hj29_4 _ _ _ _ _ _ _ _)
def b29_l1 (j29_2:A1) (j29_3:A6) (x1 x2 x6 x8 x9 x10:AV) (H:Hp):Res:=
 bnd (alenD .string x1) fun t27=>
 bnd (ibin .leq x10 t27) fun t28=>
 cnd t28
  (j29_3 x1 x2 x6 x8 x9 x10 H)
  (j29_2 x8 H)
theorem e29_l1 (H0:Hp) (x1 x2 x6 x8 x9 x10:AV) (H:Hp):j29_l1 H0 x1 x2 x6 x8 x9 x10 H=b29_l1 (j29_2 H0) (j29_3 H0) x1 x2 x6 x8 x9 x10 H:=(LPL_eqm (C:=cfg) [4,8,11,12,17,20] (tame_block 0 (k29_1_tame H0)) _ _).trans (by kernel_rfl)
theorem m29_l1 {j29_2 dj29_2:A1} (hj29_2:L1 j29_2 dj29_2) {j29_3 dj29_3:A6} (hj29_3:L6 j29_3 dj29_3):L6 (b29_l1 j29_2 j29_3) (b29_l1 dj29_2 dj29_3):=fun _ _ _ _ _ _ _=>
 bR fun _=>bR fun _=>bK (hj29_3 _ _ _ _ _ _ _) (hj29_2 _ _)
def b29_1 (j29_l1:A6) (x1 x2 x6:AV) (H:Hp):Res:=
 j29_l1 x1 x2 x6 .nils (.int .i64 (-1)) (.int .i64 0) H
theorem e29_1 (H0:Hp) (x1 x2 x6:AV) (H:Hp):j29_1 H0 x1 x2 x6 H=b29_1 (j29_l1 H0) x1 x2 x6 H:=(CXM_eq [4,8,11,12,17,20] _ _ _ _).trans (by kernel_rfl)
theorem m29_1 {j29_l1 dj29_l1:A6} (hj29_l1:L6 j29_l1 dj29_l1):L3 (b29_1 j29_l1) (b29_1 dj29_l1):=fun _ _ _ _=>
 hj29_l1 _ _ _ _ _ _ _
def rj29_2 (gV:AV→List AV→Hp→Res):A1:=b29_2
theorem sj29_2 (H0:Hp) {gV:AV→List AV→Hp→Res} (hV:LV gV (acall cfg (callw cfg))):L1 (rj29_2 gV) (j29_2 H0):=fun _ _=>le_eq (m29_2 _ _) (e29_2 H0 _ _)
def rj29_6 (gV:AV→List AV→Hp→Res) (j29_l1:A6):A7:=b29_6 j29_l1
theorem sj29_6 (H0:Hp) {gV:AV→List AV→Hp→Res} (hV:LV gV (acall cfg (callw cfg))) {yj29_l1:A6} (hj29_l1:L6 yj29_l1 (j29_l1 H0)):L7 (rj29_6 gV yj29_l1) (j29_6 H0):=fun _ _ _ _ _ _ _ _=>le_eq (m29_6 hj29_l1 _ _ _ _ _ _ _ _) (e29_6 H0 _ _ _ _ _ _ _ _)
def rj29_5 (gV:AV→List AV→Hp→Res) (j29_l1:A6):A6:=b29_5 (rj29_6 gV j29_l1)
theorem sj29_5 (H0:Hp) {gV:AV→List AV→Hp→Res} (hV:LV gV (acall cfg (callw cfg))) {yj29_l1:A6} (hj29_l1:L6 yj29_l1 (j29_l1 H0)):L6 (rj29_5 gV yj29_l1) (j29_5 H0):=fun _ _ _ _ _ _ _=>le_eq (m29_5 (sj29_6 H0 hV hj29_l1) _ _ _ _ _ _ _) (e29_5 H0 _ _ _ _ _ _ _)
def rj29_4 (gV:AV→List AV→Hp→Res) (j29_l1:A6):A7:=b29_4 (rj29_2 gV) (rj29_5 gV j29_l1)
theorem sj29_4 (H0:Hp) {gV:AV→List AV→Hp→Res} (hV:LV gV (acall cfg (callw cfg))) {yj29_l1:A6} (hj29_l1:L6 yj29_l1 (j29_l1 H0)):L7 (rj29_4 gV yj29_l1) (j29_4 H0):=fun _ _ _ _ _ _ _ _=>le_eq (m29_4 (sj29_2 H0 hV) (sj29_5 H0 hV hj29_l1) _ _ _ _ _ _ _ _) (e29_4 H0 _ _ _ _ _ _ _ _)
def rj29_3 (gV:AV→List AV→Hp→Res) (j29_l1:A6):A6:=b29_3 (rc38 gV) (rj29_4 gV j29_l1)
theorem sj29_3 (H0:Hp) {gV:AV→List AV→Hp→Res} (hV:LV gV (acall cfg (callw cfg))) {yj29_l1:A6} (hj29_l1:L6 yj29_l1 (j29_l1 H0)):L6 (rj29_3 gV yj29_l1) (j29_3 H0):=fun _ _ _ _ _ _ _=>le_eq (m29_3 (sc38 hV) (sj29_4 H0 hV hj29_l1) _ _ _ _ _ _ _) (e29_3 H0 _ _ _ _ _ _ _)
def rj29_l1 (gV:AV→List AV→Hp→Res) (n:Nat):A6:=@Nat.rec (fun _=>A6) (fun _ _ _ _ _ _ _=>none) (fun _ j29_l1=>b29_l1 (rj29_2 gV) (rj29_3 gV j29_l1)) n
theorem sj29_l1 (H0:Hp) {gV:AV→List AV→Hp→Res} (hV:LV gV (acall cfg (callw cfg))) (n:Nat):L6 (rj29_l1 gV n) (j29_l1 H0):=by
 induction n with
 | zero=>exact fun _ _ _ _ _ _ _=>le_none _
 | succ n hj29_l1=>exact fun _ _ _ _ _ _ _=>le_eq (m29_l1 (sj29_2 H0 hV) (sj29_3 H0 hV hj29_l1) _ _ _ _ _ _ _) (e29_l1 H0 _ _ _ _ _ _ _)
def rj29_1 (gV:AV→List AV→Hp→Res):A3:=b29_1 (rj29_l1 gV 100000)
theorem sj29_1 (H0:Hp) {gV:AV→List AV→Hp→Res} (hV:LV gV (acall cfg (callw cfg))):L3 (rj29_1 gV) (j29_1 H0):=fun _ _ _ _=>le_eq (m29_1 (sj29_l1 H0 hV 100000) _ _ _ _) (e29_1 H0 _ _ _ _)
def bc29 (c37:A3) (j29_1:A3) (p0 p1:AV) (H:Hp):Res:=
 bnd (abox p0 H) fun r2=>
 bnd (aload true 12 r2.1 r2.2) fun t17=>
 bnd (c37 t17 p1 (.int .i64 0) r2.2) fun r19=>
 bnd (aext r19.1 0) fun t20=>
 bnd (aext r19.1 1) fun t21=>
 bnd (ibin .neq t21 (.int .i64 0)) fun t23=>
 cnd t23
  (some ((.tuple [.nils,t21]),r19.2))
  (j29_1 p1 r2.1 t20 r19.2)
theorem ec29 (p0 p1:AV) (H:Hp):c29 p0 p1 H=bc29 c37 (j29_1 H) p0 p1 H:=(callw_cxm (C:=cfg) (fn:=Tryz.f29) (c:=bodyOf Tryz.f29) (n:=73) [4,8,11,12,17,20] Tryz.func29 (by kernel_rfl) (by kernel_rfl) [p0,p1] (by kernel_rfl) H).trans (by kernel_rfl)
theorem mc29 {c37 dc37:A3} (hc37:L3 c37 dc37) {j29_1 dj29_1:A3} (hj29_1:L3 j29_1 dj29_1):L2 (bc29 c37 j29_1) (bc29 dc37 dj29_1):=fun _ _ _=>
 bR fun _=>bR fun _=>bC (hc37 _ _ _ _) fun _=>bR fun _=>bR fun _=>bR fun _=>bK (le_refl _) (hj29_1 _ _ _ _)
def rc29 (gV:AV→List AV→Hp→Res):A2:=fun p0 p1 H=>bc29 (rc37 gV) (rj29_1 gV) p0 p1 H
theorem sc29 {gV:AV→List AV→Hp→Res} (hV:LV gV (acall cfg (callw cfg))):L2 (rc29 gV) c29:=fun _ _ H=>le_eq (mc29 (sc37 hV) (sj29_1 H hV) _ _ _) (ec29 _ _ _)
def q29:A2:=fun p0 p1 H=>flatC (callw cfg 29) [p0,p1] H
def rq29 (gV:AV→List AV→Hp→Res):A2:=fun p0 p1 H=>flatC (ofL2 (rc29 gV)) [p0,p1] H
theorem sq29 {gV:AV→List AV→Hp→Res} (hV:LV gV (acall cfg (callw cfg))):L2 (rq29 gV) q29:=fun _ _ _=>flat_le (ofL2_le (sc29 hV)) _ _

def c17 (p0 p1 p2 p3 p4:AV) (H:Hp):Res:=callw cfg 17 [p0,p1,p2,p3,p4] H
def j17_4 (H0:Hp) (x15 x17:AV) (H:Hp):Res:=CXf 17 82 (sub (bodyOf Tryz.f17) [1,1,1,1,1,1,1,1,1]) (retL cfg 82 17 Tryz.f17 H0) [(15,x15),(17,x17)] H
def j17_3 (H0:Hp) (x2 x15 x16 x17:AV) (H:Hp):Res:=CXf 17 82 (sub (bodyOf Tryz.f17) [1,1,1,1,1,1,1]) (retL cfg 82 17 Tryz.f17 H0) [(2,x2),(15,x15),(16,x16),(17,x17)] H
def k17_1 (H0:Hp):KL:=seqL (fun k al H=>CXf 17 82 (sub (bodyOf Tryz.f17) [1,1,1,1,1,1,1]) k (trimL (cfg.keep 17) (sub (bodyOf Tryz.f17) [1,1,1,1,1,1,1]) al) H) (retL cfg 82 17 Tryz.f17 H0)
theorem k17_1_tame (H0:Hp):Tame 82 (k17_1 H0):=tame_seq (C:=cfg) (kp:=cfg.keep 17) (sub (bodyOf Tryz.f17) [1,1,1,1,1,1,1]) (tame_ret 17 Tryz.f17 H0)
def j17_6 (H0:Hp) (x1 x2 x3 x4 x15 x16 x17 x31 x32 x33:AV) (H:Hp):Res:=CXf 17 82 (sub (bodyOf Tryz.f17) [1,1,1,1,1,1,0,1,0,0,1,1,1]) (seqL (fun k al H=>LPf 17 82 (sub (bodyOf Tryz.f17) [1,1,1,1,1,1,0,1,0,0]) k (trimL (cfg.keep 17) (sub (bodyOf Tryz.f17) [1,1,1,1,1,1,0,1,0,0]) al) H) (blockL 0 (k17_1 H0))) [(1,x1),(2,x2),(3,x3),(4,x4),(15,x15),(16,x16),(17,x17),(31,x31),(32,x32),(33,x33)] H
def k17_2 (H0:Hp):KL:=seqL (fun k al H=>CXf 17 82 (sub (bodyOf Tryz.f17) [1,1,1,1,1,1,0,1,0,0,1,1,1]) k (trimL (cfg.keep 17) (sub (bodyOf Tryz.f17) [1,1,1,1,1,1,0,1,0,0,1,1,1]) al) H) (seqL (fun k al H=>LPf 17 82 (sub (bodyOf Tryz.f17) [1,1,1,1,1,1,0,1,0,0]) k (trimL (cfg.keep 17) (sub (bodyOf Tryz.f17) [1,1,1,1,1,1,0,1,0,0]) al) H) (blockL 0 (k17_1 H0)))
def j17_7 (H0:Hp) (x1 x2 x3 x4 x15 x16 x17 x19 x31 x32 x33:AV) (H:Hp):Res:=CXf 17 82 (sub (bodyOf Tryz.f17) [1,1,1,1,1,1,0,1,0,0,1,1,0,0,1,1]) (blockL 1 (k17_2 H0)) [(1,x1),(2,x2),(3,x3),(4,x4),(15,x15),(16,x16),(17,x17),(19,x19),(31,x31),(32,x32),(33,x33)] H
def j17_5 (H0:Hp) (x1 x2 x3 x4 x15 x16 x17 x31 x32 x33 x34:AV) (H:Hp):Res:=CXf 17 82 (sub (bodyOf Tryz.f17) [1,1,1,1,1,1,0,1,0,0,1,1]) (seqL (fun k al H=>LPf 17 82 (sub (bodyOf Tryz.f17) [1,1,1,1,1,1,0,1,0,0]) k (trimL (cfg.keep 17) (sub (bodyOf Tryz.f17) [1,1,1,1,1,1,0,1,0,0]) al) H) (blockL 0 (k17_1 H0))) [(1,x1),(2,x2),(3,x3),(4,x4),(15,x15),(16,x16),(17,x17),(31,x31),(32,x32),(33,x33),(34,x34)] H
def j17_l1 (H0:Hp) (x1 x2 x3 x4 x15 x16 x17 x31 x32 x33:AV) (H:Hp):Res:=LPf 17 82 (sub (bodyOf Tryz.f17) [1,1,1,1,1,1,0,1,0,0]) (blockL 0 (k17_1 H0)) [(1,x1),(2,x2),(3,x3),(4,x4),(15,x15),(16,x16),(17,x17),(31,x31),(32,x32),(33,x33)] H
def j17_2 (H0:Hp) (x1 x2 x3 x4 x13:AV) (H:Hp):Res:=CXf 17 82 (sub (bodyOf Tryz.f17) [1,1,1,1]) (retL cfg 82 17 Tryz.f17 H0) [(1,x1),(2,x2),(3,x3),(4,x4),(13,x13)] H
def j17_1 (H0:Hp) (x1 x2 x3 x4 x5:AV) (H:Hp):Res:=CXf 17 82 (sub (bodyOf Tryz.f17) [1,1]) (retL cfg 82 17 Tryz.f17 H0) [(1,x1),(2,x2),(3,x3),(4,x4),(5,x5)] H
def b17_4 (x15 x17:AV) (H:Hp):Res:=
 bnd (stringE.run [x15] H) fun r80=>
 some ((.tuple [r80.1,x17,(.int .i64 0)]),r80.2)
theorem e17_4 (H0:Hp) (x15 x17:AV) (H:Hp):j17_4 H0 x15 x17 H=b17_4 x15 x17 H:=(CXM_eq [3,6,10,12,18,19,22] _ _ _ _).trans (by kernel_rfl)
theorem m17_4:L2 (b17_4) (b17_4):=fun _ _ _=>
 bR fun _=>le_refl _
def b17_3 (j17_4:A2) (x2 x15 x16 x17:AV) (H:Hp):Res:=
 bnd (asliceS x2 (some x16) none none) fun t76=>
 bnd (textE.run [x15,t76] H) fun r77=>
 bnd (lenE.run [x15] r77.2) fun r78=>
 bnd (ibin .gtr r78.1 (.int .i64 65536)) fun t79=>
 cnd t79
  (some ((.tuple [(.str []),(.int .i64 0),(.int .i64 3)]),r78.2))
  (j17_4 x15 x17 r78.2)
theorem e17_3 (H0:Hp) (x2 x15 x16 x17:AV) (H:Hp):j17_3 H0 x2 x15 x16 x17 H=b17_3 (j17_4 H0) x2 x15 x16 x17 H:=(CXM_eq [3,6,10,12,18,19,22] _ _ _ _).trans (by kernel_rfl)
theorem m17_3 {j17_4 dj17_4:A2} (hj17_4:L2 j17_4 dj17_4):L4 (b17_3 j17_4) (b17_3 dj17_4):=fun _ _ _ _ _=>
 bR fun _=>bR fun _=>bR fun _=>bR fun _=>bK (le_refl _) (hj17_4 _ _ _)
def b17_6 (j17_l1:A10) (x1 x2 x3 x4 x15 x16 x17 x31 x32 x33:AV) (H:Hp):Res:=
 bnd (ibin .add x33 (.int .i64 1)) fun t73=>
 j17_l1 x1 x2 x3 x4 x15 x16 x17 x31 x32 t73 H
theorem e17_6 (H0:Hp) (x1 x2 x3 x4 x15 x16 x17 x31 x32 x33:AV) (H:Hp):j17_6 H0 x1 x2 x3 x4 x15 x16 x17 x31 x32 x33 H=b17_6 (j17_l1 H0) x1 x2 x3 x4 x15 x16 x17 x31 x32 x33 H:=(CXM_eq [3,6,10,12,18,19,22] _ _ _ _).trans (by kernel_rfl)
theorem m17_6 {j17_l1 dj17_l1:A10} (hj17_l1:L10 j17_l1 dj17_l1):L10 (b17_6 j17_l1) (b17_6 dj17_l1):=fun _ _ _ _ _ _ _ _ _ _ _=>
 bR fun _=>hj17_l1 _ _ _ _ _ _ _ _ _ _ _
def b17_7 (c13:A3) (j17_6:A10) (x1 x2 x3 x4 x15 x16 x17 x19 x31 x32 x33:AV) (H:Hp):Res:=
 bnd (afield 0 x19) fun t52=>
 bnd (aload false 1 t52 H) fun t53=>
 bnd (aindexS 2 t53 (.int .i64 0)) fun t54=>
 bnd (afield 0 t54) fun t55=>
 bnd (aload false 1 t55 H) fun t56=>
 bnd (asliceS x2 (some x16) (some t56) none) fun t57=>
 bnd (textE.run [x15,t57] H) fun r58=>
 bnd (aload true 1 x19 r58.2) fun t61=>
 bnd (c13 x1 x2 t61 r58.2) fun r62=>
 bnd (textE.run [x15,r62.1] r62.2) fun r63=>
 bnd (afield 0 x19) fun t64=>
 bnd (aload false 1 t64 r63.2) fun t65=>
 bnd (aindexS 2 t65 (.int .i64 0)) fun t66=>
 bnd (afield 1 t66) fun t67=>
 bnd (aload false 1 t67 r63.2) fun t68=>
 bnd (ibin .add x17 (.int .i64 1)) fun t70=>
 bnd (lenE.run [x15] r63.2) fun r71=>
 bnd (ibin .gtr r71.1 (.int .i64 65536)) fun t72=>
 cnd t72
  (some ((.tuple [(.str []),(.int .i64 0),(.int .i64 3)]),r71.2))
  (j17_6 x1 x2 x3 x4 x15 t68 t70 x31 x32 x33 r71.2)
theorem e17_7 (H0:Hp) (x1 x2 x3 x4 x15 x16 x17 x19 x31 x32 x33:AV) (H:Hp):j17_7 H0 x1 x2 x3 x4 x15 x16 x17 x19 x31 x32 x33 H=b17_7 c13 (j17_6 H0) x1 x2 x3 x4 x15 x16 x17 x19 x31 x32 x33 H:=(CXM_eq [3,6,10,12,18,19,22] _ _ _ _).trans (by kernel_rfl)
theorem m17_7 {c13 dc13:A3} (hc13:L3 c13 dc13) {j17_6 dj17_6:A10} (hj17_6:L10 j17_6 dj17_6):L11 (b17_7 c13 j17_6) (b17_7 dc13 dj17_6):=fun _ _ _ _ _ _ _ _ _ _ _ _=>
 bR fun _=>bR fun _=>bR fun _=>bR fun _=>bR fun _=>bR fun _=>bR fun _=>bR fun _=>bC (hc13 _ _ _ _) fun _=>bR fun _=>bR fun _=>bR fun _=>bR fun _=>bR fun _=>bR fun _=>bR fun _=>bR fun _=>bR fun _=>bK (le_refl _) (hj17_6 _ _ _ _ _ _ _ _ _ _ _)
def b17_5 (j17_6:A10) (j17_7:A11) (x1 x2 x3 x4 x15 x16 x17 x31 x32 x33 x34:AV) (H:Hp):Res:=
 bnd (aindexS 1 x31 x33) fun t36=>
 bnd (aload true 1 t36 H) fun t37=>
 bnd (some ((.ptr H.length 0),H++[.cells [.nils]])) fun r19=>
 bnd (astoreU 1 r19.1 t37 r19.2) fun r_18=>
 bnd (ibin .add x33 (.int .i64 1)) fun t39=>
 bnd (ibin .lss t39 x3) fun t41=>
 bnd (gdv t41 false (.tuple []) (some x17)) fun t43=>
 bnd (gdv t41 false (.tuple []) (ibin .gtr t43 (.int .i64 0))) fun t44=>
 bnd (gdv t41 false (.tuple []) (some t44)) fun t45=>
 bnd (gdv t45 true (.tuple []) (some x4)) fun t46=>
 bnd (gdv t45 true (.tuple []) (aun .not t46)) fun t47=>
 bnd (gdv t41 false (.tuple []) (apick t45 t47 (.bool false))) fun t48=>
 bnd (apick t41 (.bool true) t48) fun t49=>
 cnd t49
  (j17_6 x1 x2 x3 x4 x15 x16 x17 x31 x32 x33 r_18.2)
  (j17_7 x1 x2 x3 x4 x15 x16 x17 r19.1 x31 x32 x33 r_18.2)
theorem e17_5 (H0:Hp) (x1 x2 x3 x4 x15 x16 x17 x31 x32 x33 x34:AV) (H:Hp):j17_5 H0 x1 x2 x3 x4 x15 x16 x17 x31 x32 x33 x34 H=b17_5 (j17_6 H0) (j17_7 H0) x1 x2 x3 x4 x15 x16 x17 x31 x32 x33 x34 H:=(CXM_eq [3,6,10,12,18,19,22] _ _ _ _).trans (by kernel_rfl)
theorem m17_5 {j17_6 dj17_6:A10} (hj17_6:L10 j17_6 dj17_6) {j17_7 dj17_7:A11} (hj17_7:L11 j17_7 dj17_7):L11 (b17_5 j17_6 j17_7) (b17_5 dj17_6 dj17_7):=fun _ _ _ _ _ _ _ _ _ _ _ _=>
 bR fun _=>bR fun _=>bR fun _=>bR fun _=>bR fun _=>bR fun _=>bR fun _=>bR fun _=>bR fun _=>bR fun _=>bR fun _=>bR fun _=>bR fun _=>bK (hj17_6 _ _ _ _ _ _ _ _ _ _ _) (hj17_7 _ _ _ _ _ _ _ _ _ _ _ _)
def b17_l1 (j17_3:A4) (j17_5:A11) (x1 x2 x3 x4 x15 x16 x17 x31 x32 x33:AV) (H:Hp):Res:=
 bnd (ibin .lss x33 x32) fun t34=>
 cnd t34
  (j17_5 x1 x2 x3 x4 x15 x16 x17 x31 x32 x33 t34 H)
  (j17_3 x2 x15 x16 x17 H)
theorem e17_l1 (H0:Hp) (x1 x2 x3 x4 x15 x16 x17 x31 x32 x33:AV) (H:Hp):j17_l1 H0 x1 x2 x3 x4 x15 x16 x17 x31 x32 x33 H=b17_l1 (j17_3 H0) (j17_5 H0) x1 x2 x3 x4 x15 x16 x17 x31 x32 x33 H:=(LPL_eqm (C:=cfg) [3,6,10,12,18,19,22] (tame_block 0 (k17_1_tame H0)) _ _).trans (by kernel_rfl)
theorem m17_l1 {j17_3 dj17_3:A4} (hj17_3:L4 j17_3 dj17_3) {j17_5 dj17_5:A11} (hj17_5:L11 j17_5 dj17_5):L10 (b17_l1 j17_3 j17_5) (b17_l1 dj17_3 dj17_5):=fun _ _ _ _ _ _ _ _ _ _ _=>
 bR fun _=>bK (hj17_5 _ _ _ _ _ _ _ _ _ _ _ _) (hj17_3 _ _ _ _ _)
def b17_2 (j17_l1:A10) (x1 x2 x3 x4 x13:AV) (H:Hp):Res:=
 bnd (some ((.ptr H.length 0),H++[.bld 66 5 []])) fun r15=>
 bnd (alenD (.slice 31) x13) fun t32=>
 j17_l1 x1 x2 x3 x4 r15.1 (.int .i64 0) (.int .i64 0) x13 t32 (.int .i64 0) r15.2
theorem e17_2 (H0:Hp) (x1 x2 x3 x4 x13:AV) (H:Hp):j17_2 H0 x1 x2 x3 x4 x13 H=b17_2 (j17_l1 H0) x1 x2 x3 x4 x13 H:=(CXM_eq [3,6,10,12,18,19,22] _ _ _ _).trans (by kernel_rfl)
theorem m17_2 {j17_l1 dj17_l1:A10} (hj17_l1:L10 j17_l1 dj17_l1):L5 (b17_2 j17_l1) (b17_2 dj17_l1):=fun _ _ _ _ _ _=>
 bR fun _=>bR fun _=>hj17_l1 _ _ _ _ _ _ _ _ _ _ _
def b17_1 (q29:A2) (j17_2:A5) (x1 x2 x3 x4 x5:AV) (H:Hp):Res:=
 bnd (aload true 12 x5 H) fun t23=>
 bnd (q29 t23 x2 H) fun r25=>
 bnd (aext r25.1 0) fun t26=>
 bnd (aext r25.1 1) fun t27=>
 bnd (ibin .neq t27 (.int .i64 0)) fun t29=>
 cnd t29
  (some ((.tuple [(.str []),(.int .i64 0),t27]),r25.2))
  (j17_2 x1 x2 x3 x4 t26 r25.2)
theorem e17_1 (H0:Hp) (x1 x2 x3 x4 x5:AV) (H:Hp):j17_1 H0 x1 x2 x3 x4 x5 H=b17_1 q29 (j17_2 H0) x1 x2 x3 x4 x5 H:=(CXM_eq [3,6,10,12,18,19,22] _ _ _ _).trans (by kernel_rfl)
theorem m17_1 {q29 dq29:A2} (hq29:L2 q29 dq29) {j17_2 dj17_2:A5} (hj17_2:L5 j17_2 dj17_2):L5 (b17_1 q29 j17_2) (b17_1 dq29 dj17_2):=fun _ _ _ _ _ _=>
 bR fun _=>bC (hq29 _ _ _) fun _=>bR fun _=>bR fun _=>bR fun _=>bK (le_refl _) (hj17_2 _ _ _ _ _ _)
def rj17_4 (gV:AV→List AV→Hp→Res):A2:=b17_4
theorem sj17_4 (H0:Hp) {gV:AV→List AV→Hp→Res} (hV:LV gV (acall cfg (callw cfg))):L2 (rj17_4 gV) (j17_4 H0):=fun _ _ _=>le_eq (m17_4 _ _ _) (e17_4 H0 _ _ _)
def rj17_3 (gV:AV→List AV→Hp→Res):A4:=b17_3 (rj17_4 gV)
theorem sj17_3 (H0:Hp) {gV:AV→List AV→Hp→Res} (hV:LV gV (acall cfg (callw cfg))):L4 (rj17_3 gV) (j17_3 H0):=fun _ _ _ _ _=>le_eq (m17_3 (sj17_4 H0 hV) _ _ _ _ _) (e17_3 H0 _ _ _ _ _)
def rj17_6 (gV:AV→List AV→Hp→Res) (j17_l1:A10):A10:=b17_6 j17_l1
theorem sj17_6 (H0:Hp) {gV:AV→List AV→Hp→Res} (hV:LV gV (acall cfg (callw cfg))) {yj17_l1:A10} (hj17_l1:L10 yj17_l1 (j17_l1 H0)):L10 (rj17_6 gV yj17_l1) (j17_6 H0):=fun _ _ _ _ _ _ _ _ _ _ _=>le_eq (m17_6 hj17_l1 _ _ _ _ _ _ _ _ _ _ _) (e17_6 H0 _ _ _ _ _ _ _ _ _ _ _)
def rj17_7 (gV:AV→List AV→Hp→Res) (j17_l1:A10):A11:=b17_7 rc13 (rj17_6 gV j17_l1)
theorem sj17_7 (H0:Hp) {gV:AV→List AV→Hp→Res} (hV:LV gV (acall cfg (callw cfg))) {yj17_l1:A10} (hj17_l1:L10 yj17_l1 (j17_l1 H0)):L11 (rj17_7 gV yj17_l1) (j17_7 H0):=fun _ _ _ _ _ _ _ _ _ _ _ _=>le_eq (m17_7 sc13 (sj17_6 H0 hV hj17_l1) _ _ _ _ _ _ _ _ _ _ _ _) (e17_7 H0 _ _ _ _ _ _ _ _ _ _ _ _)
def rj17_5 (gV:AV→List AV→Hp→Res) (j17_l1:A10):A11:=b17_5 (rj17_6 gV j17_l1) (rj17_7 gV j17_l1)
theorem sj17_5 (H0:Hp) {gV:AV→List AV→Hp→Res} (hV:LV gV (acall cfg (callw cfg))) {yj17_l1:A10} (hj17_l1:L10 yj17_l1 (j17_l1 H0)):L11 (rj17_5 gV yj17_l1) (j17_5 H0):=fun _ _ _ _ _ _ _ _ _ _ _ _=>le_eq (m17_5 (sj17_6 H0 hV hj17_l1) (sj17_7 H0 hV hj17_l1) _ _ _ _ _ _ _ _ _ _ _ _) (e17_5 H0 _ _ _ _ _ _ _ _ _ _ _ _)
def rj17_l1 (gV:AV→List AV→Hp→Res) (n:Nat):A10:=@Nat.rec (fun _=>A10) (fun _ _ _ _ _ _ _ _ _ _ _=>none) (fun _ j17_l1=>b17_l1 (rj17_3 gV) (rj17_5 gV j17_l1)) n
theorem sj17_l1 (H0:Hp) {gV:AV→List AV→Hp→Res} (hV:LV gV (acall cfg (callw cfg))) (n:Nat):L10 (rj17_l1 gV n) (j17_l1 H0):=by
 induction n with
 | zero=>exact fun _ _ _ _ _ _ _ _ _ _ _=>le_none _
 | succ n hj17_l1=>exact fun _ _ _ _ _ _ _ _ _ _ _=>le_eq (m17_l1 (sj17_3 H0 hV) (sj17_5 H0 hV hj17_l1) _ _ _ _ _ _ _ _ _ _ _) (e17_l1 H0 _ _ _ _ _ _ _ _ _ _ _)
def rj17_2 (gV:AV→List AV→Hp→Res):A5:=b17_2 (rj17_l1 gV 100000)
theorem sj17_2 (H0:Hp) {gV:AV→List AV→Hp→Res} (hV:LV gV (acall cfg (callw cfg))):L5 (rj17_2 gV) (j17_2 H0):=fun _ _ _ _ _ _=>le_eq (m17_2 (sj17_l1 H0 hV 100000) _ _ _ _ _ _) (e17_2 H0 _ _ _ _ _ _)
def rj17_1 (gV:AV→List AV→Hp→Res):A5:=b17_1 (rq29 gV) (rj17_2 gV)
theorem sj17_1 (H0:Hp) {gV:AV→List AV→Hp→Res} (hV:LV gV (acall cfg (callw cfg))):L5 (rj17_1 gV) (j17_1 H0):=fun _ _ _ _ _ _=>le_eq (m17_1 (sq29 hV) (sj17_2 H0 hV) _ _ _ _ _ _) (e17_1 H0 _ _ _ _ _ _)
def bc17 (j17_1:A5) (p0 p1 p2 p3 p4:AV) (H:Hp):Res:=
 bnd (abox p0 H) fun r5=>
 bnd (ibin .lss p3 (.int .i64 1)) fun t21=>
 cnd t21
  (some ((.tuple [(.str []),(.int .i64 0),(.int .i64 2)]),r5.2))
  (j17_1 p1 p2 p3 p4 r5.1 r5.2)
theorem ec17 (p0 p1 p2 p3 p4:AV) (H:Hp):c17 p0 p1 p2 p3 p4 H=bc17 (j17_1 H) p0 p1 p2 p3 p4 H:=(callw_cxm (C:=cfg) (fn:=Tryz.f17) (c:=bodyOf Tryz.f17) (n:=82) [3,6,10,12,18,19,22] Tryz.func17 (by kernel_rfl) (by kernel_rfl) [p0,p1,p2,p3,p4] (by kernel_rfl) H).trans (by kernel_rfl)
theorem mc17 {j17_1 dj17_1:A5} (hj17_1:L5 j17_1 dj17_1):L5 (bc17 j17_1) (bc17 dj17_1):=fun _ _ _ _ _ _=>
 bR fun _=>bR fun _=>bK (le_refl _) (hj17_1 _ _ _ _ _ _)
def rc17 (gV:AV→List AV→Hp→Res):A5:=fun p0 p1 p2 p3 p4 H=>bc17 (rj17_1 gV) p0 p1 p2 p3 p4 H
theorem sc17 {gV:AV→List AV→Hp→Res} (hV:LV gV (acall cfg (callw cfg))):L5 (rc17 gV) c17:=fun _ _ _ _ _ H=>le_eq (mc17 (sj17_1 H hV) _ _ _ _ _ _) (ec17 _ _ _ _ _ _)

def c10 (H:Hp):Res:=callw cfg 10 [] H
def j10_1 (H0:Hp) (x1:AV) (H:Hp):Res:=CXf 10 86 (sub (bodyOf Tryz.f10) [1,1,1,1]) (retL cfg 86 10 Tryz.f10 H0) [(1,x1)] H
def b10_1 (c11:A1) (c13:A3) (c17:A5) (q15:A3) (q16:A0) (x1:AV) (H:Hp):Res:=
 bnd ((afill [(0,1,(.int .i64 0)),(1,1,(.int .i64 2))] [(.int .i64 0),(.int .i64 0)]).map .agg) fun t43=>
 bnd ((afill [(0,1,(.int .i64 1)),(1,1,(.int .i64 2))] [(.int .i64 0),(.int .i64 0)]).map .agg) fun t44=>
 bnd ((setElems 2 [(0,t43),(1,t44)] [(.agg [(.int .i64 0),(.int .i64 0)]),(.agg [(.int .i64 0),(.int .i64 0)])]).map (.vs 2 .clip)) fun t45=>
 bnd ((afill [(0,1,t45)] [.nils]).map .agg) fun t46=>
 bnd (some ((.ptr H.length 0),H++[.cells [.nils]])) fun r7=>
 bnd (astoreU 1 r7.1 t46 r7.2) fun r_14=>
 bnd (q16 r_14.2) fun r48=>
 bnd (q15 (.str [97,42]) (.int .i64 1) r48.1 r48.2) fun r49=>
 bnd (aext r49.1 0) fun t50=>
 bnd (aext r49.1 1) fun t51=>
 bnd (aext r49.1 2) fun t52=>
 bnd (some ((.ptr r49.2.length 0),r49.2++[.cells [(.str []),(.int .i64 0),(.int .i64 0),(.int .i64 0),(.int .u64 0),(.int .u64 0),(.int .u64 0),(.int .u64 0),(.int .i64 0),(.int .i64 0),(.int .i64 0),.nils]])) fun r8=>
 bnd (astoreU 12 r8.1 t50 r8.2) fun r_21=>
 bnd (aload true 12 r8.1 r_21.2) fun t54=>
 bnd ((afill [(0,1,(.int .i64 1)),(2,1,(.str [120]))] [(.int .i64 0),(.int .i64 0),(.str [])]).map .agg) fun t55=>
 bnd ((setElems 3 [(0,t55)] [(.agg [(.int .i64 0),(.int .i64 0),(.str [])])]).map (.vs 3 .clip)) fun t56=>
 bnd (c17 t54 t56 (.str [98,97,97,99]) (.int .i64 1) (.bool true) r_21.2) fun r57=>
 bnd (aext r57.1 0) fun t58=>
 bnd (aext r57.1 1) fun t59=>
 bnd (aext r57.1 2) fun t60=>
 bnd (aload true 1 r7.1 r57.2) fun t62=>
 bnd (c13 x1 (.str [120,121,122]) t62 r57.2) fun r63=>
 bnd (sbin .eql r63.1 (.str [97,120,121,121])) fun t64=>
 bnd (gdv t64 true (.tuple []) (some x1)) fun t66=>
 bnd (gdv t64 true ((.tuple []),r63.2) (c11 t66 r63.2)) fun r67=>
 bnd (gdv t64 true (.tuple []) (sbin .eql r67.1 (.str [97,38,92,49]))) fun t68=>
 bnd (apick t64 t68 (.bool false)) fun t69=>
 bnd (gdv t69 true (.tuple []) (some t51)) fun t71=>
 bnd (gdv t69 true (.tuple []) (ibin .eql t71 (.int .i64 0))) fun t72=>
 bnd (apick t69 t72 (.bool false)) fun t73=>
 bnd (gdv t73 true (.tuple []) (some t60)) fun t75=>
 bnd (gdv t73 true (.tuple []) (ibin .eql t75 (.int .i64 0))) fun t76=>
 bnd (apick t73 t76 (.bool false)) fun t77=>
 bnd (gdv t77 true (.tuple []) (some t59)) fun t79=>
 bnd (gdv t77 true (.tuple []) (ibin .eql t79 (.int .i64 3))) fun t80=>
 bnd (apick t77 t80 (.bool false)) fun t81=>
 bnd (gdv t81 true (.tuple []) (some t58)) fun t83=>
 bnd (gdv t81 true (.tuple []) (sbin .eql t83 (.str [120,98,120,99,120]))) fun t84=>
 bnd (apick t81 t84 (.bool false)) fun t85=>
 some (t85,r67.2)
theorem e10_1 (H0:Hp) (x1:AV) (H:Hp):j10_1 H0 x1 H=b10_1 c11 c13 c17 q15 q16 x1 H:=(CXM_eq [5] _ _ _ _).trans (by kernel_rfl)
theorem m10_1 {c11 dc11:A1} (hc11:L1 c11 dc11) {c13 dc13:A3} (hc13:L3 c13 dc13) {c17 dc17:A5} (hc17:L5 c17 dc17) {q15 dq15:A3} (hq15:L3 q15 dq15) {q16 dq16:A0} (hq16:L0 q16 dq16):L1 (b10_1 c11 c13 c17 q15 q16) (b10_1 dc11 dc13 dc17 dq15 dq16):=fun _ _=>
 bR fun _=>bR fun _=>bR fun _=>bR fun _=>bR fun _=>bR fun _=>bC (hq16 _) fun _=>bC (hq15 _ _ _ _) fun _=>bR fun _=>bR fun _=>bR fun _=>bR fun _=>bR fun _=>bR fun _=>bR fun _=>bR fun _=>bC (hc17 _ _ _ _ _ _) fun _=>bR fun _=>bR fun _=>bR fun _=>bR fun _=>bC (hc13 _ _ _ _) fun _=>bR fun _=>bR fun _=>bG (hc11 _ _) fun _=>bR fun _=>bR fun _=>bR fun _=>bR fun _=>bR fun _=>bR fun _=>bR fun _=>bR fun _=>bR fun _=>bR fun _=>bR fun _=>bR fun _=>bR fun _=>bR fun _=>le_refl _
def rj10_1 (gV:AV→List AV→Hp→Res):A1:=b10_1 rc11 rc13 (rc17 gV) (rq15 gV) rq16
theorem sj10_1 (H0:Hp) {gV:AV→List AV→Hp→Res} (hV:LV gV (acall cfg (callw cfg))):L1 (rj10_1 gV) (j10_1 H0):=fun _ _=>le_eq (m10_1 sc11 sc13 (sc17 hV) (sq15 hV) sq16 _ _) (e10_1 H0 _ _)
def bc10 (c7:A2) (j10_1:A1) (H:Hp):Res:=
 bnd (c7 (.str [97,38,92,49]) (.int .i64 1) H) fun r15=>
 bnd (aext r15.1 0) fun t16=>
 bnd (aext r15.1 1) fun t17=>
 bnd (aext r15.1 2) fun t18=>
 bnd (c7 (.str [97,38,92,49]) (.int .i64 0) r15.2) fun r20=>
 bnd (aext r20.1 0) fun t21=>
 bnd (aext r20.1 1) fun t22=>
 bnd (aext r20.1 2) fun t23=>
 bnd (ibin .neq t17 (.int .i64 0)) fun t25=>
 bnd (gdv t25 false (.tuple []) (some t18)) fun t27=>
 bnd (gdv t25 false (.tuple []) (ibin .neq t27 (.int .i64 0))) fun t28=>
 bnd (apick t25 (.bool true) t28) fun t29=>
 bnd (gdv t29 false (.tuple []) (some t16)) fun t31=>
 bnd (gdv t29 false (.tuple []) (alenD (.slice 56) t31)) fun t32=>
 bnd (gdv t29 false (.tuple []) (ibin .neq t32 (.int .i64 3))) fun t33=>
 bnd (apick t29 (.bool true) t33) fun t34=>
 bnd (gdv t34 false (.tuple []) (some t22)) fun t36=>
 bnd (gdv t34 false (.tuple []) (ibin .neq t36 (.int .i64 2))) fun t37=>
 bnd (apick t34 (.bool true) t37) fun t38=>
 bnd (gdv t38 false (.tuple []) (some t23)) fun t40=>
 bnd (gdv t38 false (.tuple []) (ibin .neq t40 (.int .i64 2))) fun t41=>
 bnd (apick t38 (.bool true) t41) fun t42=>
 cnd t42
  (some ((.bool false),r20.2))
  (j10_1 t16 r20.2)
theorem ec10 (H:Hp):c10 H=bc10 c7 (j10_1 H) H:=(callw_cxm (C:=cfg) (fn:=Tryz.f10) (c:=bodyOf Tryz.f10) (n:=86) [5] Tryz.func10 (by kernel_rfl) (by kernel_rfl) [] (by kernel_rfl) H).trans (by kernel_rfl)
theorem mc10 {c7 dc7:A2} (hc7:L2 c7 dc7) {j10_1 dj10_1:A1} (hj10_1:L1 j10_1 dj10_1):L0 (bc10 c7 j10_1) (bc10 dc7 dj10_1):=fun _=>
 bC (hc7 _ _ _) fun _=>bR fun _=>bR fun _=>bR fun _=>bC (hc7 _ _ _) fun _=>bR fun _=>bR fun _=>bR fun _=>bR fun _=>bR fun _=>bR fun _=>bR fun _=>bR fun _=>bR fun _=>bR fun _=>bR fun _=>bR fun _=>bR fun _=>bR fun _=>bR fun _=>bR fun _=>bR fun _=>bK (le_refl _) (hj10_1 _ _)
def rc10 (gV:AV→List AV→Hp→Res):A0:=fun H=>bc10 (rc7 gV) (rj10_1 gV) H
theorem sc10 {gV:AV→List AV→Hp→Res} (hV:LV gV (acall cfg (callw cfg))):L0 (rc10 gV) c10:=fun H=>le_eq (mc10 (sc7 hV) (sj10_1 H hV) _) (ec10 _)
def c19 (p0 p1:AV) (H:Hp):Res:=callw cfg 19 [p0,p1] H
def j19_1 (H0:Hp) (x0 x1:AV) (H:Hp):Res:=CXf 19 36 (sub (bodyOf Tryz.f19) [1]) (retL cfg 36 19 Tryz.f19 H0) [(0,x0),(1,x1)] H
def b19_1 (x0 x1:AV) (H:Hp):Res:=
 bnd (aload false 1 x1 H) fun t29=>
 bnd ((setElems 1 [(0,x0)] [(.int .u8 0)]).map (.vs 1 .clip)) fun t31=>
 bnd (cvRd t31 H) fun t32=>
 bnd ((afill [(0,1,(.int .i64 1)),(2,1,t32)] [(.int .i64 0),(.int .i64 0),(.str [])]).map .agg) fun t33=>
 bnd ((setElems 3 [(0,t33)] [(.agg [(.int .i64 0),(.int .i64 0),(.str [])])]).map (.vs 3 .clip)) fun t34=>
 bnd (aappEL true 3 32 t29 t34 H) fun r35=>
 bnd (astoreU 1 x1 r35.1 r35.2) fun r_7=>
 some ((.tuple []),r_7.2)
theorem e19_1 (H0:Hp) (x0 x1:AV) (H:Hp):j19_1 H0 x0 x1 H=b19_1 x0 x1 H:=(CXM_eq [3] _ _ _ _).trans (by kernel_rfl)
theorem m19_1:L2 (b19_1) (b19_1):=fun _ _ _=>
 bR fun _=>bR fun _=>bR fun _=>bR fun _=>bR fun _=>bR fun _=>bR fun _=>le_refl _
def rj19_1:A2:=b19_1
theorem sj19_1 (H0:Hp):L2 (rj19_1) (j19_1 H0):=fun _ _ _=>le_eq (m19_1 _ _ _) (e19_1 H0 _ _ _)
def bc19 (j19_1:A2) (p0 p1:AV) (H:Hp):Res:=
 bnd (aload false 1 p1 H) fun t4=>
 bnd (alenD (.slice 56) t4) fun t5=>
 bnd (ibin .gtr t5 (.int .i64 0)) fun t7=>
 bnd (gdv t7 true (.tuple []) (aload false 1 p1 H)) fun t9=>
 bnd (gdv t7 true (.tuple []) (some t5)) fun t10=>
 bnd (gdv t7 true (.tuple []) (ibin .sub t10 (.int .i64 1))) fun t11=>
 bnd (gdv t7 true (.tuple []) (aindexS 3 t9 t11)) fun t12=>
 bnd (gdv t7 true (.tuple []) (afield 0 t12)) fun t13=>
 bnd (gdv t7 true (.tuple []) (aload false 1 t13 H)) fun t14=>
 bnd (gdv t7 true (.tuple []) (ibin .eql t14 (.int .i64 1))) fun t15=>
 bnd (apick t7 t15 (.bool false)) fun t16=>
 cnd t16
  (bnd (aload false 1 p1 H) fun t17=>
  bnd (ibin .sub t5 (.int .i64 1)) fun t19=>
  bnd (aindexS 3 t17 t19) fun t20=>
  bnd (afield 2 t20) fun t21=>
  bnd (aload false 1 t21 H) fun t22=>
  bnd ((setElems 1 [(0,p0)] [(.int .u8 0)]).map (.vs 1 .clip)) fun t24=>
  bnd (cvRd t24 H) fun t25=>
  bnd (sbin .add t22 t25) fun t26=>
  bnd (aindexS 3 t17 t19) fun t27=>
  bnd (afield 2 t27) fun t28=>
  bnd (astoreU 1 t28 t26 H) fun r_29=>
  some ((.tuple []),r_29.2))
  (j19_1 p0 p1 H)
theorem ec19 (p0 p1:AV) (H:Hp):c19 p0 p1 H=bc19 (j19_1 H) p0 p1 H:=(callw_cxm (C:=cfg) (fn:=Tryz.f19) (c:=bodyOf Tryz.f19) (n:=36) [3] Tryz.func19 (by kernel_rfl) (by kernel_rfl) [p0,p1] (by kernel_rfl) H).trans (by kernel_rfl)
theorem mc19 {j19_1 dj19_1:A2} (hj19_1:L2 j19_1 dj19_1):L2 (bc19 j19_1) (bc19 dj19_1):=fun _ _ _=>
 bR fun _=>bR fun _=>bR fun _=>bR fun _=>bR fun _=>bR fun _=>bR fun _=>bR fun _=>bR fun _=>bR fun _=>bR fun _=>bK (bR fun _=>bR fun _=>bR fun _=>bR fun _=>bR fun _=>bR fun _=>bR fun _=>bR fun _=>bR fun _=>bR fun _=>bR fun _=>le_refl _) (hj19_1 _ _ _)
def rc19:A2:=fun p0 p1 H=>bc19 (rj19_1) p0 p1 H
theorem sc19:L2 rc19 c19:=fun _ _ H=>le_eq (mc19 (sj19_1 H) _ _ _) (ec19 _ _ _)

def c26 (p0:AV) (H:Hp):Res:=callw cfg 26 [p0] H
def j26_2 (H0:Hp) (x3:AV) (H:Hp):Res:=CXf 26 24 (sub (bodyOf Tryz.f26) [1,1,1,1]) (retL cfg 24 26 Tryz.f26 H0) [(3,x3)] H
def k26_1 (H0:Hp):KL:=seqL (fun k al H=>CXf 26 24 (sub (bodyOf Tryz.f26) [1,1,1,1]) k (trimL (cfg.keep 26) (sub (bodyOf Tryz.f26) [1,1,1,1]) al) H) (retL cfg 24 26 Tryz.f26 H0)
theorem k26_1_tame (H0:Hp):Tame 24 (k26_1 H0):=tame_seq (C:=cfg) (kp:=cfg.keep 26) (sub (bodyOf Tryz.f26) [1,1,1,1]) (tame_ret 26 Tryz.f26 H0)
def j26_4 (H0:Hp) (x1 x3 x4:AV) (H:Hp):Res:=CXf 26 24 (sub (bodyOf Tryz.f26) [1,1,1,0,1,0,0,1,1]) (seqL (fun k al H=>LPf 26 24 (sub (bodyOf Tryz.f26) [1,1,1,0,1,0,0]) k (trimL (cfg.keep 26) (sub (bodyOf Tryz.f26) [1,1,1,0,1,0,0]) al) H) (blockL 0 (k26_1 H0))) [(1,x1),(3,x3),(4,x4)] H
def j26_3 (H0:Hp) (x1 x3 x4:AV) (H:Hp):Res:=CXf 26 24 (sub (bodyOf Tryz.f26) [1,1,1,0,1,0,0,1]) (seqL (fun k al H=>LPf 26 24 (sub (bodyOf Tryz.f26) [1,1,1,0,1,0,0]) k (trimL (cfg.keep 26) (sub (bodyOf Tryz.f26) [1,1,1,0,1,0,0]) al) H) (blockL 0 (k26_1 H0))) [(1,x1),(3,x3),(4,x4)] H
def j26_l1 (H0:Hp) (x1 x3 x4:AV) (H:Hp):Res:=LPf 26 24 (sub (bodyOf Tryz.f26) [1,1,1,0,1,0,0]) (blockL 0 (k26_1 H0)) [(1,x1),(3,x3),(4,x4)] H
def j26_1 (H0:Hp) (x1 x3:AV) (H:Hp):Res:=CXf 26 24 (sub (bodyOf Tryz.f26) [1,1,1]) (retL cfg 24 26 Tryz.f26 H0) [(1,x1),(3,x3)] H
def b26_2 (x3:AV) (H:Hp):Res:=
 some (x3,H)
theorem e26_2 (H0:Hp) (x3:AV) (H:Hp):j26_2 H0 x3 H=b26_2 x3 H:=(CXM_eq [4,6,7,8] _ _ _ _).trans (by kernel_rfl)
theorem m26_2:L1 (b26_2) (b26_2):=fun _ _=>
 le_refl _
def b26_4 (j26_l1:A3) (x1 x3 x4:AV) (H:Hp):Res:=
 bnd (ibin .add x4 (.int .i64 1)) fun t14=>
 j26_l1 x1 x3 t14 H
theorem e26_4 (H0:Hp) (x1 x3 x4:AV) (H:Hp):j26_4 H0 x1 x3 x4 H=b26_4 (j26_l1 H0) x1 x3 x4 H:=(CXM_eq [4,6,7,8] _ _ _ _).trans (by kernel_rfl)
theorem m26_4 {j26_l1 dj26_l1:A3} (hj26_l1:L3 j26_l1 dj26_l1):L3 (b26_4 j26_l1) (b26_4 dj26_l1):=fun _ _ _ _=>
 bR fun _=>hj26_l1 _ _ _ _
def b26_3 (j26_4:A3) (cV:AV→List AV→Hp→Res) (x1 x3 x4:AV) (H:Hp):Res:=
 bnd (afield 8 x1) fun t16=>
 bnd (aload false 1 t16 H) fun t17=>
 bnd (aindexS 9 t17 x4) fun t19=>
 bnd (aload true 9 t19 H) fun t20=>
 bnd (cV (.fn (.func 26) [] []) [t20] H) fun r21=>
 bnd (ibin .add x3 r21.1) fun t22=>
 j26_4 x1 t22 x4 r21.2
theorem e26_3 (H0:Hp) (x1 x3 x4:AV) (H:Hp):j26_3 H0 x1 x3 x4 H=b26_3 (j26_4 H0) (acall cfg (callw cfg)) x1 x3 x4 H:=(CXM_eq [4,6,7,8] _ _ _ _).trans (by kernel_rfl)
theorem m26_3 {j26_4 dj26_4:A3} (hj26_4:L3 j26_4 dj26_4) {cV dcV:AV→List AV→Hp→Res} (hcV:LV cV dcV):L3 (b26_3 j26_4 cV) (b26_3 dj26_4 dcV):=fun _ _ _ _=>
 bR fun _=>bR fun _=>bR fun _=>bR fun _=>bC (hcV _ _ _) fun _=>bR fun _=>hj26_4 _ _ _ _
def b26_l1 (j26_2:A1) (j26_3:A3) (x1 x3 x4:AV) (H:Hp):Res:=
 bnd (afield 8 x1) fun t9=>
 bnd (aload false 1 t9 H) fun t10=>
 bnd (alenD (.slice 41) t10) fun t11=>
 bnd (ibin .lss x4 t11) fun t12=>
 cnd t12
  (j26_3 x1 x3 x4 H)
  (j26_2 x3 H)
theorem e26_l1 (H0:Hp) (x1 x3 x4:AV) (H:Hp):j26_l1 H0 x1 x3 x4 H=b26_l1 (j26_2 H0) (j26_3 H0) x1 x3 x4 H:=(LPL_eqm (C:=cfg) [4,6,7,8] (tame_block 0 (k26_1_tame H0)) _ _).trans (by kernel_rfl)
theorem m26_l1 {j26_2 dj26_2:A1} (hj26_2:L1 j26_2 dj26_2) {j26_3 dj26_3:A3} (hj26_3:L3 j26_3 dj26_3):L3 (b26_l1 j26_2 j26_3) (b26_l1 dj26_2 dj26_3):=fun _ _ _ _=>
 bR fun _=>bR fun _=>bR fun _=>bR fun _=>bK (hj26_3 _ _ _ _) (hj26_2 _ _)
def b26_1 (j26_l1:A3) (x1 x3:AV) (H:Hp):Res:=
 j26_l1 x1 x3 (.int .i64 0) H
theorem e26_1 (H0:Hp) (x1 x3:AV) (H:Hp):j26_1 H0 x1 x3 H=b26_1 (j26_l1 H0) x1 x3 H:=(CXM_eq [4,6,7,8] _ _ _ _).trans (by kernel_rfl)
theorem m26_1 {j26_l1 dj26_l1:A3} (hj26_l1:L3 j26_l1 dj26_l1):L2 (b26_1 j26_l1) (b26_1 dj26_l1):=fun _ _ _=>
 hj26_l1 _ _ _ _
def rj26_2 (gV:AV→List AV→Hp→Res):A1:=b26_2
theorem sj26_2 (H0:Hp) {gV:AV→List AV→Hp→Res} (hV:LV gV (acall cfg (callw cfg))):L1 (rj26_2 gV) (j26_2 H0):=fun _ _=>le_eq (m26_2 _ _) (e26_2 H0 _ _)
def rj26_4 (gV:AV→List AV→Hp→Res) (j26_l1:A3):A3:=b26_4 j26_l1
theorem sj26_4 (H0:Hp) {gV:AV→List AV→Hp→Res} (hV:LV gV (acall cfg (callw cfg))) {yj26_l1:A3} (hj26_l1:L3 yj26_l1 (j26_l1 H0)):L3 (rj26_4 gV yj26_l1) (j26_4 H0):=fun _ _ _ _=>le_eq (m26_4 hj26_l1 _ _ _ _) (e26_4 H0 _ _ _ _)
def rj26_3 (gV:AV→List AV→Hp→Res) (j26_l1:A3):A3:=b26_3 (rj26_4 gV j26_l1) gV
theorem sj26_3 (H0:Hp) {gV:AV→List AV→Hp→Res} (hV:LV gV (acall cfg (callw cfg))) {yj26_l1:A3} (hj26_l1:L3 yj26_l1 (j26_l1 H0)):L3 (rj26_3 gV yj26_l1) (j26_3 H0):=fun _ _ _ _=>le_eq (m26_3 (sj26_4 H0 hV hj26_l1) hV _ _ _ _) (e26_3 H0 _ _ _ _)
def rj26_l1 (gV:AV→List AV→Hp→Res) (n:Nat):A3:=@Nat.rec (fun _=>A3) (fun _ _ _ _=>none) (fun _ j26_l1=>b26_l1 (rj26_2 gV) (rj26_3 gV j26_l1)) n
theorem sj26_l1 (H0:Hp) {gV:AV→List AV→Hp→Res} (hV:LV gV (acall cfg (callw cfg))) (n:Nat):L3 (rj26_l1 gV n) (j26_l1 H0):=by
 induction n with
 | zero=>exact fun _ _ _ _=>le_none _
 | succ n hj26_l1=>exact fun _ _ _ _=>le_eq (m26_l1 (sj26_2 H0 hV) (sj26_3 H0 hV hj26_l1) _ _ _ _) (e26_l1 H0 _ _ _ _)
def rj26_1 (gV:AV→List AV→Hp→Res):A2:=b26_1 (rj26_l1 gV 100000)
theorem sj26_1 (H0:Hp) {gV:AV→List AV→Hp→Res} (hV:LV gV (acall cfg (callw cfg))):L2 (rj26_1 gV) (j26_1 H0):=fun _ _ _=>le_eq (m26_1 (sj26_l1 H0 hV 100000) _ _ _) (e26_1 H0 _ _ _)
def bc26 (j26_1:A2) (p0:AV) (H:Hp):Res:=
 bnd (abox p0 H) fun r1=>
 bnd (afield 0 r1.1) fun t5=>
 bnd (aload false 1 t5 r1.2) fun t6=>
 bnd (ibin .eql t6 (.int .i64 6)) fun t7=>
 cnd t7
  (j26_1 r1.1 (.int .i64 1) r1.2)
  (j26_1 r1.1 (.int .i64 0) r1.2)
theorem ec26 (p0:AV) (H:Hp):c26 p0 H=bc26 (j26_1 H) p0 H:=(callw_cxm (C:=cfg) (fn:=Tryz.f26) (c:=bodyOf Tryz.f26) (n:=24) [4,6,7,8] Tryz.func26 (by kernel_rfl) (by kernel_rfl) [p0] (by kernel_rfl) H).trans (by kernel_rfl)
theorem mc26 {j26_1 dj26_1:A2} (hj26_1:L2 j26_1 dj26_1):L1 (bc26 j26_1) (bc26 dj26_1):=fun _ _=>
 bR fun _=>bR fun _=>bR fun _=>bR fun _=>bK (hj26_1 _ _ _) (hj26_1 _ _ _)
def rc26 (gV:AV→List AV→Hp→Res):A1:=fun p0 H=>bc26 (rj26_1 gV) p0 H
theorem sc26 {gV:AV→List AV→Hp→Res} (hV:LV gV (acall cfg (callw cfg))):L1 (rc26 gV) c26:=fun _ H=>le_eq (mc26 (sj26_1 H hV) _ _) (ec26 _ _)

def c34 (p0:AV) (H:Hp):Res:=callw cfg 34 [p0] H
def j34_1 (H0:Hp) (x3:AV) (H:Hp):Res:=CXf 34 22 (sub (bodyOf Tryz.f34) [1,1,1]) (retL cfg 22 34 Tryz.f34 H0) [(3,x3)] H
def k34_1 (H0:Hp):KL:=seqL (fun k al H=>CXf 34 22 (sub (bodyOf Tryz.f34) [1,1,1]) k (trimL (cfg.keep 34) (sub (bodyOf Tryz.f34) [1,1,1]) al) H) (retL cfg 22 34 Tryz.f34 H0)
theorem k34_1_tame (H0:Hp):Tame 22 (k34_1 H0):=tame_seq (C:=cfg) (kp:=cfg.keep 34) (sub (bodyOf Tryz.f34) [1,1,1]) (tame_ret 34 Tryz.f34 H0)
def j34_3 (H0:Hp) (x1 x3 x4:AV) (H:Hp):Res:=CXf 34 22 (sub (bodyOf Tryz.f34) [1,1,0,1,0,0,1,1]) (seqL (fun k al H=>LPf 34 22 (sub (bodyOf Tryz.f34) [1,1,0,1,0,0]) k (trimL (cfg.keep 34) (sub (bodyOf Tryz.f34) [1,1,0,1,0,0]) al) H) (blockL 0 (k34_1 H0))) [(1,x1),(3,x3),(4,x4)] H
def j34_2 (H0:Hp) (x1 x3 x4:AV) (H:Hp):Res:=CXf 34 22 (sub (bodyOf Tryz.f34) [1,1,0,1,0,0,1]) (seqL (fun k al H=>LPf 34 22 (sub (bodyOf Tryz.f34) [1,1,0,1,0,0]) k (trimL (cfg.keep 34) (sub (bodyOf Tryz.f34) [1,1,0,1,0,0]) al) H) (blockL 0 (k34_1 H0))) [(1,x1),(3,x3),(4,x4)] H
def j34_l1 (H0:Hp) (x1 x3 x4:AV) (H:Hp):Res:=LPf 34 22 (sub (bodyOf Tryz.f34) [1,1,0,1,0,0]) (blockL 0 (k34_1 H0)) [(1,x1),(3,x3),(4,x4)] H
def b34_1 (x3:AV) (H:Hp):Res:=
 bnd (ibin .add x3 (.int .i64 1)) fun t21=>
 some (t21,H)
theorem e34_1 (H0:Hp) (x3:AV) (H:Hp):j34_1 H0 x3 H=b34_1 x3 H:=(CXM_eq [4,5,6] _ _ _ _).trans (by kernel_rfl)
theorem m34_1:L1 (b34_1) (b34_1):=fun _ _=>
 bR fun _=>le_refl _
def b34_3 (j34_l1:A3) (x1 x3 x4:AV) (H:Hp):Res:=
 bnd (ibin .add x4 (.int .i64 1)) fun t11=>
 j34_l1 x1 x3 t11 H
theorem e34_3 (H0:Hp) (x1 x3 x4:AV) (H:Hp):j34_3 H0 x1 x3 x4 H=b34_3 (j34_l1 H0) x1 x3 x4 H:=(CXM_eq [4,5,6] _ _ _ _).trans (by kernel_rfl)
theorem m34_3 {j34_l1 dj34_l1:A3} (hj34_l1:L3 j34_l1 dj34_l1):L3 (b34_3 j34_l1) (b34_3 dj34_l1):=fun _ _ _ _=>
 bR fun _=>hj34_l1 _ _ _ _
def b34_2 (j34_3:A3) (cV:AV→List AV→Hp→Res) (x1 x3 x4:AV) (H:Hp):Res:=
 bnd (afield 8 x1) fun t13=>
 bnd (aload false 1 t13 H) fun t14=>
 bnd (aindexS 9 t14 x4) fun t16=>
 bnd (aload true 9 t16 H) fun t17=>
 bnd (cV (.fn (.func 34) [] []) [t17] H) fun r18=>
 bnd (amax2 x3 r18.1) fun t19=>
 j34_3 x1 t19 x4 r18.2
theorem e34_2 (H0:Hp) (x1 x3 x4:AV) (H:Hp):j34_2 H0 x1 x3 x4 H=b34_2 (j34_3 H0) (acall cfg (callw cfg)) x1 x3 x4 H:=(CXM_eq [4,5,6] _ _ _ _).trans (by kernel_rfl)
theorem m34_2 {j34_3 dj34_3:A3} (hj34_3:L3 j34_3 dj34_3) {cV dcV:AV→List AV→Hp→Res} (hcV:LV cV dcV):L3 (b34_2 j34_3 cV) (b34_2 dj34_3 dcV):=fun _ _ _ _=>
 bR fun _=>bR fun _=>bR fun _=>bR fun _=>bC (hcV _ _ _) fun _=>bR fun _=>hj34_3 _ _ _ _
def b34_l1 (j34_1:A1) (j34_2:A3) (x1 x3 x4:AV) (H:Hp):Res:=
 bnd (afield 8 x1) fun t6=>
 bnd (aload false 1 t6 H) fun t7=>
 bnd (alenD (.slice 41) t7) fun t8=>
 bnd (ibin .lss x4 t8) fun t9=>
 cnd t9
  (j34_2 x1 x3 x4 H)
  (j34_1 x3 H)
theorem e34_l1 (H0:Hp) (x1 x3 x4:AV) (H:Hp):j34_l1 H0 x1 x3 x4 H=b34_l1 (j34_1 H0) (j34_2 H0) x1 x3 x4 H:=(LPL_eqm (C:=cfg) [4,5,6] (tame_block 0 (k34_1_tame H0)) _ _).trans (by kernel_rfl)
theorem m34_l1 {j34_1 dj34_1:A1} (hj34_1:L1 j34_1 dj34_1) {j34_2 dj34_2:A3} (hj34_2:L3 j34_2 dj34_2):L3 (b34_l1 j34_1 j34_2) (b34_l1 dj34_1 dj34_2):=fun _ _ _ _=>
 bR fun _=>bR fun _=>bR fun _=>bR fun _=>bK (hj34_2 _ _ _ _) (hj34_1 _ _)
def rj34_1 (gV:AV→List AV→Hp→Res):A1:=b34_1
theorem sj34_1 (H0:Hp) {gV:AV→List AV→Hp→Res} (hV:LV gV (acall cfg (callw cfg))):L1 (rj34_1 gV) (j34_1 H0):=fun _ _=>le_eq (m34_1 _ _) (e34_1 H0 _ _)
def rj34_3 (gV:AV→List AV→Hp→Res) (j34_l1:A3):A3:=b34_3 j34_l1
theorem sj34_3 (H0:Hp) {gV:AV→List AV→Hp→Res} (hV:LV gV (acall cfg (callw cfg))) {yj34_l1:A3} (hj34_l1:L3 yj34_l1 (j34_l1 H0)):L3 (rj34_3 gV yj34_l1) (j34_3 H0):=fun _ _ _ _=>le_eq (m34_3 hj34_l1 _ _ _ _) (e34_3 H0 _ _ _ _)
def rj34_2 (gV:AV→List AV→Hp→Res) (j34_l1:A3):A3:=b34_2 (rj34_3 gV j34_l1) gV
theorem sj34_2 (H0:Hp) {gV:AV→List AV→Hp→Res} (hV:LV gV (acall cfg (callw cfg))) {yj34_l1:A3} (hj34_l1:L3 yj34_l1 (j34_l1 H0)):L3 (rj34_2 gV yj34_l1) (j34_2 H0):=fun _ _ _ _=>le_eq (m34_2 (sj34_3 H0 hV hj34_l1) hV _ _ _ _) (e34_2 H0 _ _ _ _)
def rj34_l1 (gV:AV→List AV→Hp→Res) (n:Nat):A3:=@Nat.rec (fun _=>A3) (fun _ _ _ _=>none) (fun _ j34_l1=>b34_l1 (rj34_1 gV) (rj34_2 gV j34_l1)) n
theorem sj34_l1 (H0:Hp) {gV:AV→List AV→Hp→Res} (hV:LV gV (acall cfg (callw cfg))) (n:Nat):L3 (rj34_l1 gV n) (j34_l1 H0):=by
 induction n with
 | zero=>exact fun _ _ _ _=>le_none _
 | succ n hj34_l1=>exact fun _ _ _ _=>le_eq (m34_l1 (sj34_1 H0 hV) (sj34_2 H0 hV hj34_l1) _ _ _ _) (e34_l1 H0 _ _ _ _)
def bc34 (j34_l1:A3) (p0:AV) (H:Hp):Res:=
 bnd (abox p0 H) fun r1=>
 j34_l1 r1.1 (.int .i64 0) (.int .i64 0) r1.2
theorem ec34 (p0:AV) (H:Hp):c34 p0 H=bc34 (j34_l1 H) p0 H:=(callw_cxm (C:=cfg) (fn:=Tryz.f34) (c:=bodyOf Tryz.f34) (n:=22) [4,5,6] Tryz.func34 (by kernel_rfl) (by kernel_rfl) [p0] (by kernel_rfl) H).trans (by kernel_rfl)
theorem mc34 {j34_l1 dj34_l1:A3} (hj34_l1:L3 j34_l1 dj34_l1):L1 (bc34 j34_l1) (bc34 dj34_l1):=fun _ _=>
 bR fun _=>hj34_l1 _ _ _ _
def rc34 (gV:AV→List AV→Hp→Res):A1:=fun p0 H=>bc34 (rj34_l1 gV 100000) p0 H
theorem sc34 {gV:AV→List AV→Hp→Res} (hV:LV gV (acall cfg (callw cfg))):L1 (rc34 gV) c34:=fun _ H=>le_eq (mc34 (sj34_l1 H hV 100000) _ _) (ec34 _ _)

def c35 (p0:AV) (H:Hp):Res:=callw cfg 35 [p0] H
def j35_2 (H0:Hp) (H:Hp):Res:=CXf 35 20 (sub (bodyOf Tryz.f35) [1,1,1]) (retL cfg 20 35 Tryz.f35 H0) [] H
def k35_1 (H0:Hp):KL:=seqL (fun k al H=>CXf 35 20 (sub (bodyOf Tryz.f35) [1,1,1]) k (trimL (cfg.keep 35) (sub (bodyOf Tryz.f35) [1,1,1]) al) H) (retL cfg 20 35 Tryz.f35 H0)
theorem k35_1_tame (H0:Hp):Tame 20 (k35_1 H0):=tame_seq (C:=cfg) (kp:=cfg.keep 35) (sub (bodyOf Tryz.f35) [1,1,1]) (tame_ret 35 Tryz.f35 H0)
def j35_4 (H0:Hp) (x1 x3:AV) (H:Hp):Res:=CXf 35 20 (sub (bodyOf Tryz.f35) [1,1,0,1,0,0,1,1]) (seqL (fun k al H=>LPf 35 20 (sub (bodyOf Tryz.f35) [1,1,0,1,0,0]) k (trimL (cfg.keep 35) (sub (bodyOf Tryz.f35) [1,1,0,1,0,0]) al) H) (blockL 0 (k35_1 H0))) [(1,x1),(3,x3)] H
def j35_3 (H0:Hp) (x1 x3:AV) (H:Hp):Res:=CXf 35 20 (sub (bodyOf Tryz.f35) [1,1,0,1,0,0,1]) (seqL (fun k al H=>LPf 35 20 (sub (bodyOf Tryz.f35) [1,1,0,1,0,0]) k (trimL (cfg.keep 35) (sub (bodyOf Tryz.f35) [1,1,0,1,0,0]) al) H) (blockL 0 (k35_1 H0))) [(1,x1),(3,x3)] H
def j35_l1 (H0:Hp) (x1 x3:AV) (H:Hp):Res:=LPf 35 20 (sub (bodyOf Tryz.f35) [1,1,0,1,0,0]) (blockL 0 (k35_1 H0)) [(1,x1),(3,x3)] H
def j35_1 (H0:Hp) (x1:AV) (H:Hp):Res:=CXf 35 20 (sub (bodyOf Tryz.f35) [1,1]) (retL cfg 20 35 Tryz.f35 H0) [(1,x1)] H
def b35_2 (H:Hp):Res:=
 some ((.bool false),H)
theorem e35_2 (H0:Hp) (H:Hp):j35_2 H0 H=b35_2 H:=(CXM_eq [3,5,6,8] _ _ _ _).trans (by kernel_rfl)
theorem m35_2:L0 (b35_2) (b35_2):=fun _=>
 le_refl _
def b35_4 (j35_l1:A2) (x1 x3:AV) (H:Hp):Res:=
 bnd (ibin .add x3 (.int .i64 1)) fun t13=>
 j35_l1 x1 t13 H
theorem e35_4 (H0:Hp) (x1 x3:AV) (H:Hp):j35_4 H0 x1 x3 H=b35_4 (j35_l1 H0) x1 x3 H:=(CXM_eq [3,5,6,8] _ _ _ _).trans (by kernel_rfl)
theorem m35_4 {j35_l1 dj35_l1:A2} (hj35_l1:L2 j35_l1 dj35_l1):L2 (b35_4 j35_l1) (b35_4 dj35_l1):=fun _ _ _=>
 bR fun _=>hj35_l1 _ _ _
def b35_3 (j35_4:A2) (cV:AV→List AV→Hp→Res) (x1 x3:AV) (H:Hp):Res:=
 bnd (afield 8 x1) fun t14=>
 bnd (aload false 1 t14 H) fun t15=>
 bnd (aindexS 9 t15 x3) fun t17=>
 bnd (aload true 9 t17 H) fun t18=>
 bnd (cV (.fn (.func 35) [] []) [t18] H) fun r19=>
 cnd r19.1
  (some ((.bool true),r19.2))
  (j35_4 x1 x3 r19.2)
theorem e35_3 (H0:Hp) (x1 x3:AV) (H:Hp):j35_3 H0 x1 x3 H=b35_3 (j35_4 H0) (acall cfg (callw cfg)) x1 x3 H:=(CXM_eq [3,5,6,8] _ _ _ _).trans (by kernel_rfl)
theorem m35_3 {j35_4 dj35_4:A2} (hj35_4:L2 j35_4 dj35_4) {cV dcV:AV→List AV→Hp→Res} (hcV:LV cV dcV):L2 (b35_3 j35_4 cV) (b35_3 dj35_4 dcV):=fun _ _ _=>
 bR fun _=>bR fun _=>bR fun _=>bR fun _=>bC (hcV _ _ _) fun _=>bK (le_refl _) (hj35_4 _ _ _)
def b35_l1 (j35_2:A0) (j35_3:A2) (x1 x3:AV) (H:Hp):Res:=
 bnd (afield 8 x1) fun t8=>
 bnd (aload false 1 t8 H) fun t9=>
 bnd (alenD (.slice 41) t9) fun t10=>
 bnd (ibin .lss x3 t10) fun t11=>
 cnd t11
  (j35_3 x1 x3 H)
  (j35_2 H)
theorem e35_l1 (H0:Hp) (x1 x3:AV) (H:Hp):j35_l1 H0 x1 x3 H=b35_l1 (j35_2 H0) (j35_3 H0) x1 x3 H:=(LPL_eqm (C:=cfg) [3,5,6,8] (tame_block 0 (k35_1_tame H0)) _ _).trans (by kernel_rfl)
theorem m35_l1 {j35_2 dj35_2:A0} (hj35_2:L0 j35_2 dj35_2) {j35_3 dj35_3:A2} (hj35_3:L2 j35_3 dj35_3):L2 (b35_l1 j35_2 j35_3) (b35_l1 dj35_2 dj35_3):=fun _ _ _=>
 bR fun _=>bR fun _=>bR fun _=>bR fun _=>bK (hj35_3 _ _ _) (hj35_2 _)
def b35_1 (j35_l1:A2) (x1:AV) (H:Hp):Res:=
 j35_l1 x1 (.int .i64 0) H
theorem e35_1 (H0:Hp) (x1:AV) (H:Hp):j35_1 H0 x1 H=b35_1 (j35_l1 H0) x1 H:=(CXM_eq [3,5,6,8] _ _ _ _).trans (by kernel_rfl)
theorem m35_1 {j35_l1 dj35_l1:A2} (hj35_l1:L2 j35_l1 dj35_l1):L1 (b35_1 j35_l1) (b35_1 dj35_l1):=fun _ _=>
 hj35_l1 _ _ _
def rj35_2 (gV:AV→List AV→Hp→Res):A0:=b35_2
theorem sj35_2 (H0:Hp) {gV:AV→List AV→Hp→Res} (hV:LV gV (acall cfg (callw cfg))):L0 (rj35_2 gV) (j35_2 H0):=fun _=>le_eq (m35_2 _) (e35_2 H0 _)
def rj35_4 (gV:AV→List AV→Hp→Res) (j35_l1:A2):A2:=b35_4 j35_l1
theorem sj35_4 (H0:Hp) {gV:AV→List AV→Hp→Res} (hV:LV gV (acall cfg (callw cfg))) {yj35_l1:A2} (hj35_l1:L2 yj35_l1 (j35_l1 H0)):L2 (rj35_4 gV yj35_l1) (j35_4 H0):=fun _ _ _=>le_eq (m35_4 hj35_l1 _ _ _) (e35_4 H0 _ _ _)
def rj35_3 (gV:AV→List AV→Hp→Res) (j35_l1:A2):A2:=b35_3 (rj35_4 gV j35_l1) gV
theorem sj35_3 (H0:Hp) {gV:AV→List AV→Hp→Res} (hV:LV gV (acall cfg (callw cfg))) {yj35_l1:A2} (hj35_l1:L2 yj35_l1 (j35_l1 H0)):L2 (rj35_3 gV yj35_l1) (j35_3 H0):=fun _ _ _=>le_eq (m35_3 (sj35_4 H0 hV hj35_l1) hV _ _ _) (e35_3 H0 _ _ _)
def rj35_l1 (gV:AV→List AV→Hp→Res) (n:Nat):A2:=@Nat.rec (fun _=>A2) (fun _ _ _=>none) (fun _ j35_l1=>b35_l1 (rj35_2 gV) (rj35_3 gV j35_l1)) n
theorem sj35_l1 (H0:Hp) {gV:AV→List AV→Hp→Res} (hV:LV gV (acall cfg (callw cfg))) (n:Nat):L2 (rj35_l1 gV n) (j35_l1 H0):=by
 induction n with
 | zero=>exact fun _ _ _=>le_none _
 | succ n hj35_l1=>exact fun _ _ _=>le_eq (m35_l1 (sj35_2 H0 hV) (sj35_3 H0 hV hj35_l1) _ _ _) (e35_l1 H0 _ _ _)
def rj35_1 (gV:AV→List AV→Hp→Res):A1:=b35_1 (rj35_l1 gV 100000)
theorem sj35_1 (H0:Hp) {gV:AV→List AV→Hp→Res} (hV:LV gV (acall cfg (callw cfg))):L1 (rj35_1 gV) (j35_1 H0):=fun _ _=>le_eq (m35_1 (sj35_l1 H0 hV 100000) _ _) (e35_1 H0 _ _)
def bc35 (j35_1:A1) (p0:AV) (H:Hp):Res:=
 bnd (abox p0 H) fun r1=>
 bnd (afield 0 r1.1) fun t4=>
 bnd (aload false 1 t4 r1.2) fun t5=>
 bnd (ibin .eql t5 (.int .i64 9)) fun t6=>
 cnd t6
  (some ((.bool true),r1.2))
  (j35_1 r1.1 r1.2)
theorem ec35 (p0:AV) (H:Hp):c35 p0 H=bc35 (j35_1 H) p0 H:=(callw_cxm (C:=cfg) (fn:=Tryz.f35) (c:=bodyOf Tryz.f35) (n:=20) [3,5,6,8] Tryz.func35 (by kernel_rfl) (by kernel_rfl) [p0] (by kernel_rfl) H).trans (by kernel_rfl)
theorem mc35 {j35_1 dj35_1:A1} (hj35_1:L1 j35_1 dj35_1):L1 (bc35 j35_1) (bc35 dj35_1):=fun _ _=>
 bR fun _=>bR fun _=>bR fun _=>bR fun _=>bK (le_refl _) (hj35_1 _ _)
def rc35 (gV:AV→List AV→Hp→Res):A1:=fun p0 H=>bc35 (rj35_1 gV) p0 H
theorem sc35 {gV:AV→List AV→Hp→Res} (hV:LV gV (acall cfg (callw cfg))):L1 (rc35 gV) c35:=fun _ H=>le_eq (mc35 (sj35_1 H hV) _ _) (ec35 _ _)

def c60 (p0 p1:AV) (H:Hp):Res:=callw cfg 60 [p0,p1] H
def j60_2 (H0:Hp) (x0:AV) (H:Hp):Res:=CXf 60 69 (sub (bodyOf Tryz.f60) [1,1,1,1,1]) (retL cfg 69 60 Tryz.f60 H0) [(0,x0)] H
def k60_1 (H0:Hp):KL:=seqL (fun k al H=>CXf 60 69 (sub (bodyOf Tryz.f60) [1,1,1,1,1]) k (trimL (cfg.keep 60) (sub (bodyOf Tryz.f60) [1,1,1,1,1]) al) H) (retL cfg 69 60 Tryz.f60 H0)
theorem k60_1_tame (H0:Hp):Tame 69 (k60_1 H0):=tame_seq (C:=cfg) (kp:=cfg.keep 60) (sub (bodyOf Tryz.f60) [1,1,1,1,1]) (tame_ret 60 Tryz.f60 H0)
def j60_4 (H0:Hp) (x0 x5 x8:AV) (H:Hp):Res:=CXf 60 69 (sub (bodyOf Tryz.f60) [1,1,1,1,0,1,0,0,1,1]) (seqL (fun k al H=>LPf 60 69 (sub (bodyOf Tryz.f60) [1,1,1,1,0,1,0,0]) k (trimL (cfg.keep 60) (sub (bodyOf Tryz.f60) [1,1,1,1,0,1,0,0]) al) H) (blockL 2 (k60_1 H0))) [(0,x0),(5,x5),(8,x8)] H
def j60_3 (H0:Hp) (x0 x5 x8:AV) (H:Hp):Res:=CXf 60 69 (sub (bodyOf Tryz.f60) [1,1,1,1,0,1,0,0,1]) (seqL (fun k al H=>LPf 60 69 (sub (bodyOf Tryz.f60) [1,1,1,1,0,1,0,0]) k (trimL (cfg.keep 60) (sub (bodyOf Tryz.f60) [1,1,1,1,0,1,0,0]) al) H) (blockL 2 (k60_1 H0))) [(0,x0),(5,x5),(8,x8)] H
def j60_l1 (H0:Hp) (x0 x5 x8:AV) (H:Hp):Res:=LPf 60 69 (sub (bodyOf Tryz.f60) [1,1,1,1,0,1,0,0]) (blockL 2 (k60_1 H0)) [(0,x0),(5,x5),(8,x8)] H
def j60_1 (H0:Hp) (x0 x1 x5:AV) (H:Hp):Res:=CXf 60 69 (sub (bodyOf Tryz.f60) [1,1,1]) (retL cfg 69 60 Tryz.f60 H0) [(0,x0),(1,x1),(5,x5)] H
def k60_2 (H0:Hp):KL:=seqL (fun k al H=>CXf 60 69 (sub (bodyOf Tryz.f60) [1,1,1]) k (trimL (cfg.keep 60) (sub (bodyOf Tryz.f60) [1,1,1]) al) H) (retL cfg 69 60 Tryz.f60 H0)
theorem k60_2_tame (H0:Hp):Tame 69 (k60_2 H0):=tame_seq (C:=cfg) (kp:=cfg.keep 60) (sub (bodyOf Tryz.f60) [1,1,1]) (tame_ret 60 Tryz.f60 H0)
def j60_6 (H0:Hp) (x0 x1 x5 x6:AV) (H:Hp):Res:=CXf 60 69 (sub (bodyOf Tryz.f60) [1,1,0,1,0,0,1,1]) (seqL (fun k al H=>LPf 60 69 (sub (bodyOf Tryz.f60) [1,1,0,1,0,0]) k (trimL (cfg.keep 60) (sub (bodyOf Tryz.f60) [1,1,0,1,0,0]) al) H) (blockL 0 (k60_2 H0))) [(0,x0),(1,x1),(5,x5),(6,x6)] H
def j60_5 (H0:Hp) (x0 x1 x5 x6:AV) (H:Hp):Res:=CXf 60 69 (sub (bodyOf Tryz.f60) [1,1,0,1,0,0,1]) (seqL (fun k al H=>LPf 60 69 (sub (bodyOf Tryz.f60) [1,1,0,1,0,0]) k (trimL (cfg.keep 60) (sub (bodyOf Tryz.f60) [1,1,0,1,0,0]) al) H) (blockL 0 (k60_2 H0))) [(0,x0),(1,x1),(5,x5),(6,x6)] H
def j60_l2 (H0:Hp) (x0 x1 x5 x6:AV) (H:Hp):Res:=LPf 60 69 (sub (bodyOf Tryz.f60) [1,1,0,1,0,0]) (blockL 0 (k60_2 H0)) [(0,x0),(1,x1),(5,x5),(6,x6)] H
def b60_2 (x0:AV) (H:Hp):Res:=
 some (x0,H)
theorem e60_2 (H0:Hp) (x0:AV) (H:Hp):j60_2 H0 x0 H=b60_2 x0 H:=(CXM_eq [4,5,11,14,15,16] _ _ _ _).trans (by kernel_rfl)
theorem m60_2:L1 (b60_2) (b60_2):=fun _ _=>
 le_refl _
def b60_4 (j60_l1:A3) (x0 x5 x8:AV) (H:Hp):Res:=
 bnd (ibin .add x8 (.int .i64 1)) fun t58=>
 j60_l1 x0 x5 t58 H
theorem e60_4 (H0:Hp) (x0 x5 x8:AV) (H:Hp):j60_4 H0 x0 x5 x8 H=b60_4 (j60_l1 H0) x0 x5 x8 H:=(CXM_eq [4,5,11,14,15,16] _ _ _ _).trans (by kernel_rfl)
theorem m60_4 {j60_l1 dj60_l1:A3} (hj60_l1:L3 j60_l1 dj60_l1):L3 (b60_4 j60_l1) (b60_4 dj60_l1):=fun _ _ _ _=>
 bR fun _=>hj60_l1 _ _ _ _
def b60_3 (j60_4:A3) (x0 x5 x8:AV) (H:Hp):Res:=
 bnd (aindexS 1 x5 x8) fun t62=>
 bnd (aload false 1 t62 H) fun t63=>
 bnd (alenD (.slice 111) x0) fun t65=>
 bnd (aindexS 7 x0 t63) fun t66=>
 bnd (afield 5 t66) fun t67=>
 bnd (astoreU 1 t67 t65 H) fun r_12=>
 j60_4 x0 x5 x8 r_12.2
theorem e60_3 (H0:Hp) (x0 x5 x8:AV) (H:Hp):j60_3 H0 x0 x5 x8 H=b60_3 (j60_4 H0) x0 x5 x8 H:=(CXM_eq [4,5,11,14,15,16] _ _ _ _).trans (by kernel_rfl)
theorem m60_3 {j60_4 dj60_4:A3} (hj60_4:L3 j60_4 dj60_4):L3 (b60_3 j60_4) (b60_3 dj60_4):=fun _ _ _ _=>
 bR fun _=>bR fun _=>bR fun _=>bR fun _=>bR fun _=>bR fun _=>hj60_4 _ _ _ _
def b60_l1 (j60_2:A1) (j60_3:A3) (x0 x5 x8:AV) (H:Hp):Res:=
 bnd (alenD (.slice 3) x5) fun t55=>
 bnd (ibin .lss x8 t55) fun t56=>
 cnd t56
  (j60_3 x0 x5 x8 H)
  (j60_2 x0 H)
theorem e60_l1 (H0:Hp) (x0 x5 x8:AV) (H:Hp):j60_l1 H0 x0 x5 x8 H=b60_l1 (j60_2 H0) (j60_3 H0) x0 x5 x8 H:=(LPL_eqm (C:=cfg) [4,5,11,14,15,16] (tame_block 2 (k60_1_tame H0)) _ _).trans (by kernel_rfl)
theorem m60_l1 {j60_2 dj60_2:A1} (hj60_2:L1 j60_2 dj60_2) {j60_3 dj60_3:A3} (hj60_3:L3 j60_3 dj60_3):L3 (b60_l1 j60_2 j60_3) (b60_l1 dj60_2 dj60_3):=fun _ _ _ _=>
 bR fun _=>bR fun _=>bK (hj60_3 _ _ _ _) (hj60_2 _ _)
def b60_1 (j60_l1:A3) (cV:AV→List AV→Hp→Res) (x0 x1 x5:AV) (H:Hp):Res:=
 bnd (alenD (.slice 41) x1) fun t48=>
 bnd (ibin .sub t48 (.int .i64 1)) fun t49=>
 bnd (aindexS 9 x1 t49) fun t50=>
 bnd (aload true 9 t50 H) fun t51=>
 bnd (cV (.fn (.func 46) [] []) [x0,t51] H) fun r52=>
 j60_l1 r52.1 x5 (.int .i64 0) r52.2
theorem e60_1 (H0:Hp) (x0 x1 x5:AV) (H:Hp):j60_1 H0 x0 x1 x5 H=b60_1 (j60_l1 H0) (acall cfg (callw cfg)) x0 x1 x5 H:=(CXM_eq [4,5,11,14,15,16] _ _ _ _).trans (by kernel_rfl)
theorem m60_1 {j60_l1 dj60_l1:A3} (hj60_l1:L3 j60_l1 dj60_l1) {cV dcV:AV→List AV→Hp→Res} (hcV:LV cV dcV):L3 (b60_1 j60_l1 cV) (b60_1 dj60_l1 dcV):=fun _ _ _ _=>
 bR fun _=>bR fun _=>bR fun _=>bR fun _=>bC (hcV _ _ _) fun _=>hj60_l1 _ _ _ _
def b60_6 (j60_l2:A4) (x0 x1 x5 x6:AV) (H:Hp):Res:=
 bnd (ibin .add x6 (.int .i64 1)) fun t15=>
 j60_l2 x0 x1 x5 t15 H
theorem e60_6 (H0:Hp) (x0 x1 x5 x6:AV) (H:Hp):j60_6 H0 x0 x1 x5 x6 H=b60_6 (j60_l2 H0) x0 x1 x5 x6 H:=(CXM_eq [4,5,11,14,15,16] _ _ _ _).trans (by kernel_rfl)
theorem m60_6 {j60_l2 dj60_l2:A4} (hj60_l2:L4 j60_l2 dj60_l2):L4 (b60_6 j60_l2) (b60_6 dj60_l2):=fun _ _ _ _ _=>
 bR fun _=>hj60_l2 _ _ _ _ _
def b60_5 (j60_6:A4) (cV:AV→List AV→Hp→Res) (x0 x1 x5 x6:AV) (H:Hp):Res:=
 bnd (alenD (.slice 111) x0) fun t17=>
 bnd (ibin .add t17 (.int .i64 1)) fun t20=>
 bnd ((afill [(0,1,(.int .i64 2)),(5,1,t20)] [(.int .i64 0),(.int .u64 0),(.int .u64 0),(.int .u64 0),(.int .u64 0),(.int .i64 0),(.int .i64 0)]).map .agg) fun t21=>
 bnd ((setElems 7 [(0,t21)] [(.agg [(.int .i64 0),(.int .u64 0),(.int .u64 0),(.int .u64 0),(.int .u64 0),(.int .i64 0),(.int .i64 0)])]).map (.vs 7 .clip)) fun t22=>
 bnd (aappEL true 7 56 x0 t22 H) fun r23=>
 bnd (aindexS 9 x1 x6) fun t27=>
 bnd (aload true 9 t27 r23.2) fun t28=>
 bnd (cV (.fn (.func 46) [] []) [r23.1,t28] r23.2) fun r29=>
 bnd (alenD (.slice 111) r29.1) fun t32=>
 bnd ((setElems 1 [(0,t32)] [(.int .i64 0)]).map (.vs 1 .clip)) fun t33=>
 bnd (aappEL false 1 8 x5 t33 r29.2) fun r34=>
 bnd ((afill [(0,1,(.int .i64 3))] [(.int .i64 0),(.int .u64 0),(.int .u64 0),(.int .u64 0),(.int .u64 0),(.int .i64 0),(.int .i64 0)]).map .agg) fun t36=>
 bnd ((setElems 7 [(0,t36)] [(.agg [(.int .i64 0),(.int .u64 0),(.int .u64 0),(.int .u64 0),(.int .u64 0),(.int .i64 0),(.int .i64 0)])]).map (.vs 7 .clip)) fun t37=>
 bnd (aappEL true 7 56 r29.1 t37 r34.2) fun r38=>
 bnd (alenD (.slice 111) r38.1) fun t42=>
 bnd (aindexS 7 r38.1 t17) fun t43=>
 bnd (afield 6 t43) fun t44=>
 bnd (astoreU 1 t44 t42 r38.2) fun r_33=>
 j60_6 r38.1 x1 r34.1 x6 r_33.2
theorem e60_5 (H0:Hp) (x0 x1 x5 x6:AV) (H:Hp):j60_5 H0 x0 x1 x5 x6 H=b60_5 (j60_6 H0) (acall cfg (callw cfg)) x0 x1 x5 x6 H:=(CXM_eq [4,5,11,14,15,16] _ _ _ _).trans (by kernel_rfl)
theorem m60_5 {j60_6 dj60_6:A4} (hj60_6:L4 j60_6 dj60_6) {cV dcV:AV→List AV→Hp→Res} (hcV:LV cV dcV):L4 (b60_5 j60_6 cV) (b60_5 dj60_6 dcV):=fun _ _ _ _ _=>
 bR fun _=>bR fun _=>bR fun _=>bR fun _=>bR fun _=>bR fun _=>bR fun _=>bC (hcV _ _ _) fun _=>bR fun _=>bR fun _=>bR fun _=>bR fun _=>bR fun _=>bR fun _=>bR fun _=>bR fun _=>bR fun _=>bR fun _=>hj60_6 _ _ _ _ _
def b60_l2 (j60_1:A3) (j60_5:A4) (x0 x1 x5 x6:AV) (H:Hp):Res:=
 bnd (alenD (.slice 41) x1) fun t11=>
 bnd (ibin .sub t11 (.int .i64 1)) fun t12=>
 bnd (ibin .lss x6 t12) fun t13=>
 cnd t13
  (j60_5 x0 x1 x5 x6 H)
  (j60_1 x0 x1 x5 H)
theorem e60_l2 (H0:Hp) (x0 x1 x5 x6:AV) (H:Hp):j60_l2 H0 x0 x1 x5 x6 H=b60_l2 (j60_1 H0) (j60_5 H0) x0 x1 x5 x6 H:=(LPL_eqm (C:=cfg) [4,5,11,14,15,16] (tame_block 0 (k60_2_tame H0)) _ _).trans (by kernel_rfl)
theorem m60_l2 {j60_1 dj60_1:A3} (hj60_1:L3 j60_1 dj60_1) {j60_5 dj60_5:A4} (hj60_5:L4 j60_5 dj60_5):L4 (b60_l2 j60_1 j60_5) (b60_l2 dj60_1 dj60_5):=fun _ _ _ _ _=>
 bR fun _=>bR fun _=>bR fun _=>bK (hj60_5 _ _ _ _ _) (hj60_1 _ _ _ _)
def rj60_2 (gV:AV→List AV→Hp→Res):A1:=b60_2
theorem sj60_2 (H0:Hp) {gV:AV→List AV→Hp→Res} (hV:LV gV (acall cfg (callw cfg))):L1 (rj60_2 gV) (j60_2 H0):=fun _ _=>le_eq (m60_2 _ _) (e60_2 H0 _ _)
def rj60_4 (gV:AV→List AV→Hp→Res) (j60_l1:A3):A3:=b60_4 j60_l1
theorem sj60_4 (H0:Hp) {gV:AV→List AV→Hp→Res} (hV:LV gV (acall cfg (callw cfg))) {yj60_l1:A3} (hj60_l1:L3 yj60_l1 (j60_l1 H0)):L3 (rj60_4 gV yj60_l1) (j60_4 H0):=fun _ _ _ _=>le_eq (m60_4 hj60_l1 _ _ _ _) (e60_4 H0 _ _ _ _)
def rj60_3 (gV:AV→List AV→Hp→Res) (j60_l1:A3):A3:=b60_3 (rj60_4 gV j60_l1)
theorem sj60_3 (H0:Hp) {gV:AV→List AV→Hp→Res} (hV:LV gV (acall cfg (callw cfg))) {yj60_l1:A3} (hj60_l1:L3 yj60_l1 (j60_l1 H0)):L3 (rj60_3 gV yj60_l1) (j60_3 H0):=fun _ _ _ _=>le_eq (m60_3 (sj60_4 H0 hV hj60_l1) _ _ _ _) (e60_3 H0 _ _ _ _)
def rj60_l1 (gV:AV→List AV→Hp→Res) (n:Nat):A3:=@Nat.rec (fun _=>A3) (fun _ _ _ _=>none) (fun _ j60_l1=>b60_l1 (rj60_2 gV) (rj60_3 gV j60_l1)) n
theorem sj60_l1 (H0:Hp) {gV:AV→List AV→Hp→Res} (hV:LV gV (acall cfg (callw cfg))) (n:Nat):L3 (rj60_l1 gV n) (j60_l1 H0):=by
 induction n with
 | zero=>exact fun _ _ _ _=>le_none _
 | succ n hj60_l1=>exact fun _ _ _ _=>le_eq (m60_l1 (sj60_2 H0 hV) (sj60_3 H0 hV hj60_l1) _ _ _ _) (e60_l1 H0 _ _ _ _)
def rj60_1 (gV:AV→List AV→Hp→Res):A3:=b60_1 (rj60_l1 gV 100000) gV
theorem sj60_1 (H0:Hp) {gV:AV→List AV→Hp→Res} (hV:LV gV (acall cfg (callw cfg))):L3 (rj60_1 gV) (j60_1 H0):=fun _ _ _ _=>le_eq (m60_1 (sj60_l1 H0 hV 100000) hV _ _ _ _) (e60_1 H0 _ _ _ _)
def rj60_6 (gV:AV→List AV→Hp→Res) (j60_l2:A4):A4:=b60_6 j60_l2
theorem sj60_6 (H0:Hp) {gV:AV→List AV→Hp→Res} (hV:LV gV (acall cfg (callw cfg))) {yj60_l2:A4} (hj60_l2:L4 yj60_l2 (j60_l2 H0)):L4 (rj60_6 gV yj60_l2) (j60_6 H0):=fun _ _ _ _ _=>le_eq (m60_6 hj60_l2 _ _ _ _ _) (e60_6 H0 _ _ _ _ _)
def rj60_5 (gV:AV→List AV→Hp→Res) (j60_l2:A4):A4:=b60_5 (rj60_6 gV j60_l2) gV
theorem sj60_5 (H0:Hp) {gV:AV→List AV→Hp→Res} (hV:LV gV (acall cfg (callw cfg))) {yj60_l2:A4} (hj60_l2:L4 yj60_l2 (j60_l2 H0)):L4 (rj60_5 gV yj60_l2) (j60_5 H0):=fun _ _ _ _ _=>le_eq (m60_5 (sj60_6 H0 hV hj60_l2) hV _ _ _ _ _) (e60_5 H0 _ _ _ _ _)
def rj60_l2 (gV:AV→List AV→Hp→Res) (n:Nat):A4:=@Nat.rec (fun _=>A4) (fun _ _ _ _ _=>none) (fun _ j60_l2=>b60_l2 (rj60_1 gV) (rj60_5 gV j60_l2)) n
theorem sj60_l2 (H0:Hp) {gV:AV→List AV→Hp→Res} (hV:LV gV (acall cfg (callw cfg))) (n:Nat):L4 (rj60_l2 gV n) (j60_l2 H0):=by
 induction n with
 | zero=>exact fun _ _ _ _ _=>le_none _
 | succ n hj60_l2=>exact fun _ _ _ _ _=>le_eq (m60_l2 (sj60_1 H0 hV) (sj60_5 H0 hV hj60_l2) _ _ _ _ _) (e60_l2 H0 _ _ _ _ _)
def bc60 (j60_l2:A4) (p0 p1:AV) (H:Hp):Res:=
 j60_l2 p0 p1 .nils (.int .i64 0) H
theorem ec60 (p0 p1:AV) (H:Hp):c60 p0 p1 H=bc60 (j60_l2 H) p0 p1 H:=(callw_cxm (C:=cfg) (fn:=Tryz.f60) (c:=bodyOf Tryz.f60) (n:=69) [4,5,11,14,15,16] Tryz.func60 (by kernel_rfl) (by kernel_rfl) [p0,p1] (by kernel_rfl) H).trans (by kernel_rfl)
theorem mc60 {j60_l2 dj60_l2:A4} (hj60_l2:L4 j60_l2 dj60_l2):L2 (bc60 j60_l2) (bc60 dj60_l2):=fun _ _ _=>
 hj60_l2 _ _ _ _ _
def rc60 (gV:AV→List AV→Hp→Res):A2:=fun p0 p1 H=>bc60 (rj60_l2 gV 100000) p0 p1 H
theorem sc60 {gV:AV→List AV→Hp→Res} (hV:LV gV (acall cfg (callw cfg))):L2 (rc60 gV) c60:=fun _ _ H=>le_eq (mc60 (sj60_l2 H hV 100000) _ _ _) (ec60 _ _ _)

def c61 (p0 p1:AV) (H:Hp):Res:=callw cfg 61 [p0,p1] H
def j61_2 (H0:Hp) (x0 x5:AV) (H:Hp):Res:=CXf 61 52 (sub (bodyOf Tryz.f61) [1,1,1,1,1,1]) (retL cfg 52 61 Tryz.f61 H0) [(0,x0),(5,x5)] H
def j61_1 (H0:Hp) (x0 x3 x5:AV) (H:Hp):Res:=CXf 61 52 (sub (bodyOf Tryz.f61) [1,1,1]) (retL cfg 52 61 Tryz.f61 H0) [(0,x0),(3,x3),(5,x5)] H
def b61_2 (x0 x5:AV) (H:Hp):Res:=
 bnd (alenD (.slice 111) x0) fun t48=>
 bnd (aindexS 7 x0 x5) fun t49=>
 bnd (afield 6 t49) fun t50=>
 bnd (astoreU 1 t50 t48 H) fun r_15=>
 some (x0,r_15.2)
theorem e61_2 (H0:Hp) (x0 x5:AV) (H:Hp):j61_2 H0 x0 x5 H=b61_2 x0 x5 H:=(CXM_eq [5,9] _ _ _ _).trans (by kernel_rfl)
theorem m61_2:L2 (b61_2) (b61_2):=fun _ _ _=>
 bR fun _=>bR fun _=>bR fun _=>bR fun _=>le_refl _
def b61_1 (j61_2:A2) (cV:AV→List AV→Hp→Res) (x0 x3 x5:AV) (H:Hp):Res:=
 bnd (ibin .add x5 (.int .i64 1)) fun t27=>
 bnd ((afill [(0,1,(.int .i64 2)),(5,1,t27)] [(.int .i64 0),(.int .u64 0),(.int .u64 0),(.int .u64 0),(.int .u64 0),(.int .i64 0),(.int .i64 0)]).map .agg) fun t28=>
 bnd ((setElems 7 [(0,t28)] [(.agg [(.int .i64 0),(.int .u64 0),(.int .u64 0),(.int .u64 0),(.int .u64 0),(.int .i64 0),(.int .i64 0)])]).map (.vs 7 .clip)) fun t29=>
 bnd (aappEL true 7 56 x0 t29 H) fun r30=>
 bnd (afield 8 x3) fun t32=>
 bnd (aload false 1 t32 r30.2) fun t33=>
 bnd (aindexS 9 t33 (.int .i64 0)) fun t34=>
 bnd (aload true 9 t34 r30.2) fun t35=>
 bnd (cV (.fn (.func 46) [] []) [r30.1,t35] r30.2) fun r36=>
 bnd (afield 6 x3) fun t37=>
 bnd (aload false 1 t37 r36.2) fun t38=>
 bnd (ibin .lss t38 (.int .i64 0)) fun t39=>
 cnd t39
  (bnd ((afill [(0,1,(.int .i64 3)),(5,1,x5)] [(.int .i64 0),(.int .u64 0),(.int .u64 0),(.int .u64 0),(.int .u64 0),(.int .i64 0),(.int .i64 0)]).map .agg) fun t42=>
  bnd ((setElems 7 [(0,t42)] [(.agg [(.int .i64 0),(.int .u64 0),(.int .u64 0),(.int .u64 0),(.int .u64 0),(.int .i64 0),(.int .i64 0)])]).map (.vs 7 .clip)) fun t43=>
  bnd (aappEL true 7 56 r36.1 t43 r36.2) fun r44=>
  j61_2 r44.1 x5 r44.2)
  (j61_2 r36.1 x5 r36.2)
theorem e61_1 (H0:Hp) (x0 x3 x5:AV) (H:Hp):j61_1 H0 x0 x3 x5 H=b61_1 (j61_2 H0) (acall cfg (callw cfg)) x0 x3 x5 H:=(CXM_eq [5,9] _ _ _ _).trans (by kernel_rfl)
theorem m61_1 {j61_2 dj61_2:A2} (hj61_2:L2 j61_2 dj61_2) {cV dcV:AV→List AV→Hp→Res} (hcV:LV cV dcV):L3 (b61_1 j61_2 cV) (b61_1 dj61_2 dcV):=fun _ _ _ _=>
 bR fun _=>bR fun _=>bR fun _=>bR fun _=>bR fun _=>bR fun _=>bR fun _=>bR fun _=>bC (hcV _ _ _) fun _=>bR fun _=>bR fun _=>bR fun _=>bK (bR fun _=>bR fun _=>bR fun _=>hj61_2 _ _ _) (hj61_2 _ _ _)
def rj61_2 (gV:AV→List AV→Hp→Res):A2:=b61_2
theorem sj61_2 (H0:Hp) {gV:AV→List AV→Hp→Res} (hV:LV gV (acall cfg (callw cfg))):L2 (rj61_2 gV) (j61_2 H0):=fun _ _ _=>le_eq (m61_2 _ _ _) (e61_2 H0 _ _ _)
def rj61_1 (gV:AV→List AV→Hp→Res):A3:=b61_1 (rj61_2 gV) gV
theorem sj61_1 (H0:Hp) {gV:AV→List AV→Hp→Res} (hV:LV gV (acall cfg (callw cfg))):L3 (rj61_1 gV) (j61_1 H0):=fun _ _ _ _=>le_eq (m61_1 (sj61_2 H0 hV) hV _ _ _ _) (e61_1 H0 _ _ _ _)
def bc61 (j61_1:A3) (cV:AV→List AV→Hp→Res) (p0 p1:AV) (H:Hp):Res:=
 bnd (abox p1 H) fun r3=>
 bnd (alenD (.slice 111) p0) fun t7=>
 bnd (afield 5 r3.1) fun t8=>
 bnd (aload false 1 t8 r3.2) fun t9=>
 bnd (ibin .eql t9 (.int .i64 1)) fun t10=>
 cnd t10
  (bnd (afield 8 r3.1) fun t12=>
  bnd (aload false 1 t12 r3.2) fun t13=>
  bnd (aindexS 9 t13 (.int .i64 0)) fun t14=>
  bnd (aload true 9 t14 r3.2) fun t15=>
  bnd (cV (.fn (.func 46) [] []) [p0,t15] r3.2) fun r16=>
  bnd (alenD (.slice 111) r16.1) fun t20=>
  bnd (ibin .add t20 (.int .i64 1)) fun t21=>
  bnd ((afill [(0,1,(.int .i64 2)),(5,1,t7),(6,1,t21)] [(.int .i64 0),(.int .u64 0),(.int .u64 0),(.int .u64 0),(.int .u64 0),(.int .i64 0),(.int .i64 0)]).map .agg) fun t22=>
  bnd ((setElems 7 [(0,t22)] [(.agg [(.int .i64 0),(.int .u64 0),(.int .u64 0),(.int .u64 0),(.int .u64 0),(.int .i64 0),(.int .i64 0)])]).map (.vs 7 .clip)) fun t23=>
  bnd (aappEL true 7 56 r16.1 t23 r16.2) fun r24=>
  some (r24.1,r24.2))
  (j61_1 p0 r3.1 t7 r3.2)
theorem ec61 (p0 p1:AV) (H:Hp):c61 p0 p1 H=bc61 (j61_1 H) (acall cfg (callw cfg)) p0 p1 H:=(callw_cxm (C:=cfg) (fn:=Tryz.f61) (c:=bodyOf Tryz.f61) (n:=52) [5,9] Tryz.func61 (by kernel_rfl) (by kernel_rfl) [p0,p1] (by kernel_rfl) H).trans (by kernel_rfl)
theorem mc61 {j61_1 dj61_1:A3} (hj61_1:L3 j61_1 dj61_1) {cV dcV:AV→List AV→Hp→Res} (hcV:LV cV dcV):L2 (bc61 j61_1 cV) (bc61 dj61_1 dcV):=fun _ _ _=>
 bR fun _=>bR fun _=>bR fun _=>bR fun _=>bR fun _=>bK (bR fun _=>bR fun _=>bR fun _=>bR fun _=>bC (hcV _ _ _) fun _=>bR fun _=>bR fun _=>bR fun _=>bR fun _=>bR fun _=>le_refl _) (hj61_1 _ _ _ _)
def rc61 (gV:AV→List AV→Hp→Res):A2:=fun p0 p1 H=>bc61 (rj61_1 gV) gV p0 p1 H
theorem sc61 {gV:AV→List AV→Hp→Res} (hV:LV gV (acall cfg (callw cfg))):L2 (rc61 gV) c61:=fun _ _ H=>le_eq (mc61 (sj61_1 H hV) hV _ _ _) (ec61 _ _ _)

def c46 (p0 p1:AV) (H:Hp):Res:=callw cfg 46 [p0,p1] H
def j46_1 (H0:Hp) (x0:AV) (H:Hp):Res:=CXf 46 64 (sub (bodyOf Tryz.f46) [1,1]) (retL cfg 64 46 Tryz.f46 H0) [(0,x0)] H
def k46_1 (H0:Hp):KL:=seqL (fun k al H=>CXf 46 64 (sub (bodyOf Tryz.f46) [1,1]) k (trimL (cfg.keep 46) (sub (bodyOf Tryz.f46) [1,1]) al) H) (retL cfg 64 46 Tryz.f46 H0)
theorem k46_1_tame (H0:Hp):Tame 64 (k46_1 H0):=tame_seq (C:=cfg) (kp:=cfg.keep 46) (sub (bodyOf Tryz.f46) [1,1]) (tame_ret 46 Tryz.f46 H0)
def j46_3 (H0:Hp) (x0 x3 x5:AV) (H:Hp):Res:=CXf 46 64 (sub (bodyOf Tryz.f46) [1,0,1,0,1,1,1,1,1,1,1,1,1,0,1,0,0,1,1]) (seqL (fun k al H=>LPf 46 64 (sub (bodyOf Tryz.f46) [1,0,1,0,1,1,1,1,1,1,1,1,1,0,1,0,0]) k (trimL (cfg.keep 46) (sub (bodyOf Tryz.f46) [1,0,1,0,1,1,1,1,1,1,1,1,1,0,1,0,0]) al) H) (blockL 1 (blockL 0 (k46_1 H0)))) [(0,x0),(3,x3),(5,x5)] H
def j46_2 (H0:Hp) (x0 x3 x5:AV) (H:Hp):Res:=CXf 46 64 (sub (bodyOf Tryz.f46) [1,0,1,0,1,1,1,1,1,1,1,1,1,0,1,0,0,1]) (seqL (fun k al H=>LPf 46 64 (sub (bodyOf Tryz.f46) [1,0,1,0,1,1,1,1,1,1,1,1,1,0,1,0,0]) k (trimL (cfg.keep 46) (sub (bodyOf Tryz.f46) [1,0,1,0,1,1,1,1,1,1,1,1,1,0,1,0,0]) al) H) (blockL 1 (blockL 0 (k46_1 H0)))) [(0,x0),(3,x3),(5,x5)] H
def j46_l1 (H0:Hp) (x0 x3 x5:AV) (H:Hp):Res:=LPf 46 64 (sub (bodyOf Tryz.f46) [1,0,1,0,1,1,1,1,1,1,1,1,1,0,1,0,0]) (blockL 1 (blockL 0 (k46_1 H0))) [(0,x0),(3,x3),(5,x5)] H
def b46_1 (x0:AV) (H:Hp):Res:=
 some (x0,H)
theorem e46_1 (H0:Hp) (x0:AV) (H:Hp):j46_1 H0 x0 H=b46_1 x0 H:=(CXM_eq [13,14,19] _ _ _ _).trans (by kernel_rfl)
theorem m46_1:L1 (b46_1) (b46_1):=fun _ _=>
 le_refl _
def b46_3 (j46_l1:A3) (x0 x3 x5:AV) (H:Hp):Res:=
 bnd (ibin .add x5 (.int .i64 1)) fun t44=>
 j46_l1 x0 x3 t44 H
theorem e46_3 (H0:Hp) (x0 x3 x5:AV) (H:Hp):j46_3 H0 x0 x3 x5 H=b46_3 (j46_l1 H0) x0 x3 x5 H:=(CXM_eq [13,14,19] _ _ _ _).trans (by kernel_rfl)
theorem m46_3 {j46_l1 dj46_l1:A3} (hj46_l1:L3 j46_l1 dj46_l1):L3 (b46_3 j46_l1) (b46_3 dj46_l1):=fun _ _ _ _=>
 bR fun _=>hj46_l1 _ _ _ _
def b46_2 (j46_3:A3) (cV:AV→List AV→Hp→Res) (x0 x3 x5:AV) (H:Hp):Res:=
 bnd (afield 8 x3) fun t46=>
 bnd (aload false 1 t46 H) fun t47=>
 bnd (aindexS 9 t47 x5) fun t49=>
 bnd (aload true 9 t49 H) fun t50=>
 bnd (cV (.fn (.func 46) [] []) [x0,t50] H) fun r51=>
 j46_3 r51.1 x3 x5 r51.2
theorem e46_2 (H0:Hp) (x0 x3 x5:AV) (H:Hp):j46_2 H0 x0 x3 x5 H=b46_2 (j46_3 H0) (acall cfg (callw cfg)) x0 x3 x5 H:=(CXM_eq [13,14,19] _ _ _ _).trans (by kernel_rfl)
theorem m46_2 {j46_3 dj46_3:A3} (hj46_3:L3 j46_3 dj46_3) {cV dcV:AV→List AV→Hp→Res} (hcV:LV cV dcV):L3 (b46_2 j46_3 cV) (b46_2 dj46_3 dcV):=fun _ _ _ _=>
 bR fun _=>bR fun _=>bR fun _=>bR fun _=>bC (hcV _ _ _) fun _=>hj46_3 _ _ _ _
def b46_l1 (j46_1:A1) (j46_2:A3) (x0 x3 x5:AV) (H:Hp):Res:=
 bnd (afield 8 x3) fun t39=>
 bnd (aload false 1 t39 H) fun t40=>
 bnd (alenD (.slice 41) t40) fun t41=>
 bnd (ibin .lss x5 t41) fun t42=>
 cnd t42
  (j46_2 x0 x3 x5 H)
  (j46_1 x0 H)
theorem e46_l1 (H0:Hp) (x0 x3 x5:AV) (H:Hp):j46_l1 H0 x0 x3 x5 H=b46_l1 (j46_1 H0) (j46_2 H0) x0 x3 x5 H:=(LPL_eqm (C:=cfg) [13,14,19] (tame_block 1 (tame_block 0 (k46_1_tame H0))) _ _).trans (by kernel_rfl)
theorem m46_l1 {j46_1 dj46_1:A1} (hj46_1:L1 j46_1 dj46_1) {j46_2 dj46_2:A3} (hj46_2:L3 j46_2 dj46_2):L3 (b46_l1 j46_1 j46_2) (b46_l1 dj46_1 dj46_2):=fun _ _ _ _=>
 bR fun _=>bR fun _=>bR fun _=>bR fun _=>bK (hj46_2 _ _ _ _) (hj46_1 _ _)
def rj46_1 (gV:AV→List AV→Hp→Res):A1:=b46_1
theorem sj46_1 (H0:Hp) {gV:AV→List AV→Hp→Res} (hV:LV gV (acall cfg (callw cfg))):L1 (rj46_1 gV) (j46_1 H0):=fun _ _=>le_eq (m46_1 _ _) (e46_1 H0 _ _)
def rj46_3 (gV:AV→List AV→Hp→Res) (j46_l1:A3):A3:=b46_3 j46_l1
theorem sj46_3 (H0:Hp) {gV:AV→List AV→Hp→Res} (hV:LV gV (acall cfg (callw cfg))) {yj46_l1:A3} (hj46_l1:L3 yj46_l1 (j46_l1 H0)):L3 (rj46_3 gV yj46_l1) (j46_3 H0):=fun _ _ _ _=>le_eq (m46_3 hj46_l1 _ _ _ _) (e46_3 H0 _ _ _ _)
def rj46_2 (gV:AV→List AV→Hp→Res) (j46_l1:A3):A3:=b46_2 (rj46_3 gV j46_l1) gV
theorem sj46_2 (H0:Hp) {gV:AV→List AV→Hp→Res} (hV:LV gV (acall cfg (callw cfg))) {yj46_l1:A3} (hj46_l1:L3 yj46_l1 (j46_l1 H0)):L3 (rj46_2 gV yj46_l1) (j46_2 H0):=fun _ _ _ _=>le_eq (m46_2 (sj46_3 H0 hV hj46_l1) hV _ _ _ _) (e46_2 H0 _ _ _ _)
def rj46_l1 (gV:AV→List AV→Hp→Res) (n:Nat):A3:=@Nat.rec (fun _=>A3) (fun _ _ _ _=>none) (fun _ j46_l1=>b46_l1 (rj46_1 gV) (rj46_2 gV j46_l1)) n
theorem sj46_l1 (H0:Hp) {gV:AV→List AV→Hp→Res} (hV:LV gV (acall cfg (callw cfg))) (n:Nat):L3 (rj46_l1 gV n) (j46_l1 H0):=by
 induction n with
 | zero=>exact fun _ _ _ _=>le_none _
 | succ n hj46_l1=>exact fun _ _ _ _=>le_eq (m46_l1 (sj46_1 H0 hV) (sj46_2 H0 hV hj46_l1) _ _ _ _) (e46_l1 H0 _ _ _ _)
def bc46 (c60:A2) (c61:A2) (j46_1:A1) (j46_l1:A3) (cV:AV→List AV→Hp→Res) (p0 p1:AV) (H:Hp):Res:=
 bnd (abox p1 H) fun r3=>
 bnd (afield 0 r3.1) fun t6=>
 bnd (aload false 1 t6 r3.2) fun t7=>
 bnd (ibin .eql t7 (.int .i64 2)) fun t9=>
 cnd t9
  (bnd (afield 1 r3.1) fun t11=>
  bnd (aload true 4 t11 r3.2) fun t12=>
  bnd ((afill [(0,1,(.int .i64 1)),(1,4,t12)] [(.int .i64 0),(.int .u64 0),(.int .u64 0),(.int .u64 0),(.int .u64 0),(.int .i64 0),(.int .i64 0)]).map .agg) fun t13=>
  bnd ((setElems 7 [(0,t13)] [(.agg [(.int .i64 0),(.int .u64 0),(.int .u64 0),(.int .u64 0),(.int .u64 0),(.int .i64 0),(.int .i64 0)])]).map (.vs 7 .clip)) fun t14=>
  bnd (aappEL true 7 56 p0 t14 r3.2) fun r15=>
  some (r15.1,r15.2))
  (bnd (ibin .eql t7 (.int .i64 7)) fun t17=>
  cnd t17
   (bnd ((afill [(0,1,(.int .i64 4))] [(.int .i64 0),(.int .u64 0),(.int .u64 0),(.int .u64 0),(.int .u64 0),(.int .i64 0),(.int .i64 0)]).map .agg) fun t19=>
   bnd ((setElems 7 [(0,t19)] [(.agg [(.int .i64 0),(.int .u64 0),(.int .u64 0),(.int .u64 0),(.int .u64 0),(.int .i64 0),(.int .i64 0)])]).map (.vs 7 .clip)) fun t20=>
   bnd (aappEL true 7 56 p0 t20 r3.2) fun r21=>
   some (r21.1,r21.2))
   (bnd (ibin .eql t7 (.int .i64 8)) fun t23=>
   cnd t23
    (bnd ((afill [(0,1,(.int .i64 5))] [(.int .i64 0),(.int .u64 0),(.int .u64 0),(.int .u64 0),(.int .u64 0),(.int .i64 0),(.int .i64 0)]).map .agg) fun t25=>
    bnd ((setElems 7 [(0,t25)] [(.agg [(.int .i64 0),(.int .u64 0),(.int .u64 0),(.int .u64 0),(.int .u64 0),(.int .i64 0),(.int .i64 0)])]).map (.vs 7 .clip)) fun t26=>
    bnd (aappEL true 7 56 p0 t26 r3.2) fun r27=>
    some (r27.1,r27.2))
    (bnd (ibin .eql t7 (.int .i64 6)) fun t29=>
    cnd t29
     (bnd (afield 8 r3.1) fun t31=>
     bnd (aload false 1 t31 r3.2) fun t32=>
     bnd (aindexS 9 t32 (.int .i64 0)) fun t33=>
     bnd (aload true 9 t33 r3.2) fun t34=>
     bnd (cV (.fn (.func 46) [] []) [p0,t34] r3.2) fun r35=>
     some (r35.1,r35.2))
     (bnd (ibin .eql t7 (.int .i64 3)) fun t37=>
     cnd t37
      (j46_l1 p0 r3.1 (.int .i64 0) r3.2)
      (bnd (ibin .eql t7 (.int .i64 4)) fun t53=>
      cnd t53
       (bnd (afield 8 r3.1) fun t55=>
       bnd (aload false 1 t55 r3.2) fun t56=>
       bnd (c60 p0 t56 r3.2) fun r57=>
       some (r57.1,r57.2))
       (bnd (ibin .eql t7 (.int .i64 5)) fun t59=>
       cnd t59
        (bnd (aload true 9 r3.1 r3.2) fun t61=>
        bnd (c61 p0 t61 r3.2) fun r62=>
        some (r62.1,r62.2))
        (j46_1 p0 r3.2)))))))
theorem ec46 (p0 p1:AV) (H:Hp):c46 p0 p1 H=bc46 c60 c61 (j46_1 H) (j46_l1 H) (acall cfg (callw cfg)) p0 p1 H:=(callw_cxm (C:=cfg) (fn:=Tryz.f46) (c:=bodyOf Tryz.f46) (n:=64) [13,14,19] Tryz.func46 (by kernel_rfl) (by kernel_rfl) [p0,p1] (by kernel_rfl) H).trans (by kernel_rfl)
theorem mc46 {c60 dc60:A2} (hc60:L2 c60 dc60) {c61 dc61:A2} (hc61:L2 c61 dc61) {j46_1 dj46_1:A1} (hj46_1:L1 j46_1 dj46_1) {j46_l1 dj46_l1:A3} (hj46_l1:L3 j46_l1 dj46_l1) {cV dcV:AV→List AV→Hp→Res} (hcV:LV cV dcV):L2 (bc46 c60 c61 j46_1 j46_l1 cV) (bc46 dc60 dc61 dj46_1 dj46_l1 dcV):=fun _ _ _=>
 bR fun _=>bR fun _=>bR fun _=>bR fun _=>bK (bR fun _=>bR fun _=>bR fun _=>bR fun _=>bR fun _=>le_refl _) (bR fun _=>bK (bR fun _=>bR fun _=>bR fun _=>le_refl _) (bR fun _=>bK (bR fun _=>bR fun _=>bR fun _=>le_refl _) (bR fun _=>bK (bR fun _=>bR fun _=>bR fun _=>bR fun _=>bC (hcV _ _ _) fun _=>le_refl _) (bR fun _=>bK (hj46_l1 _ _ _ _) (bR fun _=>bK (bR fun _=>bR fun _=>bC (hc60 _ _ _) fun _=>le_refl _) (bR fun _=>bK (bR fun _=>bC (hc61 _ _ _) fun _=>le_refl _) (hj46_1 _ _)))))))
def rc46 (gV:AV→List AV→Hp→Res):A2:=fun p0 p1 H=>bc46 (rc60 gV) (rc61 gV) (rj46_1 gV) (rj46_l1 gV 100000) gV p0 p1 H
theorem sc46 {gV:AV→List AV→Hp→Res} (hV:LV gV (acall cfg (callw cfg))):L2 (rc46 gV) c46:=fun _ _ H=>le_eq (mc46 (sc60 hV) (sc61 hV) (sj46_1 H hV) (sj46_l1 H hV 100000) hV _ _ _) (ec46 _ _ _)

def c74 (p0:AV) (H:Hp):Res:=callw cfg 74 [p0] H
def j74_2 (H0:Hp) (H:Hp):Res:=CXf 74 75 (sub (bodyOf Tryz.f74) [1,1,1,1]) (retL cfg 75 74 Tryz.f74 H0) [] H
def j74_1 (H0:Hp) (x1 x3:AV) (H:Hp):Res:=CXf 74 75 (sub (bodyOf Tryz.f74) [1,1,1]) (retL cfg 75 74 Tryz.f74 H0) [(1,x1),(3,x3)] H
def b74_2 (H:Hp):Res:=
 some ((.bool false),H)
theorem e74_2 (H0:Hp) (H:Hp):j74_2 H0 H=b74_2 H:=(CXM_eq [4,18] _ _ _ _).trans (by kernel_rfl)
theorem m74_2:L0 (b74_2) (b74_2):=fun _=>
 le_refl _
def b74_1 (j74_2:A0) (x1 x3:AV) (H:Hp):Res:=
 bnd (afield 0 x1) fun t46=>
 bnd (aload false 1 t46 H) fun t47=>
 bnd (ibin .eql t47 (.int .i64 1)) fun t49=>
 cnd t49
  (cnd t49
   (bnd (ibin .eql x3 (.int .i64 0)) fun t54=>
   some (t54,H))
   (bnd (ibin .eql t47 (.int .i64 2)) fun t56=>
   cnd t56
    (bnd (ibin .eql x3 (.int .i64 0)) fun t58=>
    bnd (gdv t58 true (.tuple []) (afield 1 x1)) fun t60=>
    bnd (gdv t58 true (.tuple []) (aload true 4 t60 H)) fun t61=>
    bnd (gdv t58 true (.tuple []) (some (.agg [(.int .u64 0),(.int .u64 0),(.int .u64 0),(.int .u64 0)]))) fun t62=>
    bnd (gdv t58 true (.tuple []) (aeqBin Tryz.prog cfg.eqok .neq 38 t61 t62)) fun t63=>
    bnd (apick t58 t63 (.bool false)) fun t64=>
    some (t64,H))
    (bnd (ibin .eql t47 (.int .i64 3)) fun t66=>
    cnd t66
     (cnd t66
      (bnd (ibin .geq x3 (.int .i64 2)) fun t69=>
      some (t69,H))
      (bnd (ibin .eql t47 (.int .i64 5)) fun t71=>
      cnd t71
       (cnd t71
        (bnd (ibin .eql x3 (.int .i64 1)) fun t74=>
        some (t74,H))
        (j74_2 H))
       (bnd (ibin .eql t47 (.int .i64 6)) fun t72=>
       cnd t72
        (bnd (ibin .eql x3 (.int .i64 1)) fun t74=>
        some (t74,H))
        (j74_2 H))))
     (bnd (ibin .eql t47 (.int .i64 4)) fun t67=>
     cnd t67
      (bnd (ibin .geq x3 (.int .i64 2)) fun t69=>
      some (t69,H))
      (bnd (ibin .eql t47 (.int .i64 5)) fun t71=>
      cnd t71
       (cnd t71
        (bnd (ibin .eql x3 (.int .i64 1)) fun t74=>
        some (t74,H))
        (j74_2 H))
       (bnd (ibin .eql t47 (.int .i64 6)) fun t72=>
       cnd t72
        (bnd (ibin .eql x3 (.int .i64 1)) fun t74=>
        some (t74,H))
        (j74_2 H)))))))
  (bnd (ibin .eql t47 (.int .i64 7)) fun t50=>
  cnd t50
   (cnd t50
    (bnd (ibin .eql x3 (.int .i64 0)) fun t54=>
    some (t54,H))
    (bnd (ibin .eql t47 (.int .i64 2)) fun t56=>
    cnd t56
     (bnd (ibin .eql x3 (.int .i64 0)) fun t58=>
     bnd (gdv t58 true (.tuple []) (afield 1 x1)) fun t60=>
     bnd (gdv t58 true (.tuple []) (aload true 4 t60 H)) fun t61=>
     bnd (gdv t58 true (.tuple []) (some (.agg [(.int .u64 0),(.int .u64 0),(.int .u64 0),(.int .u64 0)]))) fun t62=>
     bnd (gdv t58 true (.tuple []) (aeqBin Tryz.prog cfg.eqok .neq 38 t61 t62)) fun t63=>
     bnd (apick t58 t63 (.bool false)) fun t64=>
     some (t64,H))
     (bnd (ibin .eql t47 (.int .i64 3)) fun t66=>
     cnd t66
      (cnd t66
       (bnd (ibin .geq x3 (.int .i64 2)) fun t69=>
       some (t69,H))
       (bnd (ibin .eql t47 (.int .i64 5)) fun t71=>
       cnd t71
        (cnd t71
         (bnd (ibin .eql x3 (.int .i64 1)) fun t74=>
         some (t74,H))
         (j74_2 H))
        (bnd (ibin .eql t47 (.int .i64 6)) fun t72=>
        cnd t72
         (bnd (ibin .eql x3 (.int .i64 1)) fun t74=>
         some (t74,H))
         (j74_2 H))))
      (bnd (ibin .eql t47 (.int .i64 4)) fun t67=>
      cnd t67
       (bnd (ibin .geq x3 (.int .i64 2)) fun t69=>
       some (t69,H))
       (bnd (ibin .eql t47 (.int .i64 5)) fun t71=>
       cnd t71
        (cnd t71
         (bnd (ibin .eql x3 (.int .i64 1)) fun t74=>
         some (t74,H))
         (j74_2 H))
        (bnd (ibin .eql t47 (.int .i64 6)) fun t72=>
        cnd t72
         (bnd (ibin .eql x3 (.int .i64 1)) fun t74=>
         some (t74,H))
         (j74_2 H)))))))
   (bnd (ibin .eql t47 (.int .i64 8)) fun t51=>
   cnd t51
    (cnd t51
     (bnd (ibin .eql x3 (.int .i64 0)) fun t54=>
     some (t54,H))
     (bnd (ibin .eql t47 (.int .i64 2)) fun t56=>
     cnd t56
      (bnd (ibin .eql x3 (.int .i64 0)) fun t58=>
      bnd (gdv t58 true (.tuple []) (afield 1 x1)) fun t60=>
      bnd (gdv t58 true (.tuple []) (aload true 4 t60 H)) fun t61=>
      bnd (gdv t58 true (.tuple []) (some (.agg [(.int .u64 0),(.int .u64 0),(.int .u64 0),(.int .u64 0)]))) fun t62=>
      bnd (gdv t58 true (.tuple []) (aeqBin Tryz.prog cfg.eqok .neq 38 t61 t62)) fun t63=>
      bnd (apick t58 t63 (.bool false)) fun t64=>
      some (t64,H))
      (bnd (ibin .eql t47 (.int .i64 3)) fun t66=>
      cnd t66
       (cnd t66
        (bnd (ibin .geq x3 (.int .i64 2)) fun t69=>
        some (t69,H))
        (bnd (ibin .eql t47 (.int .i64 5)) fun t71=>
        cnd t71
         (cnd t71
          (bnd (ibin .eql x3 (.int .i64 1)) fun t74=>
          some (t74,H))
          (j74_2 H))
         (bnd (ibin .eql t47 (.int .i64 6)) fun t72=>
         cnd t72
          (bnd (ibin .eql x3 (.int .i64 1)) fun t74=>
          some (t74,H))
          (j74_2 H))))
       (bnd (ibin .eql t47 (.int .i64 4)) fun t67=>
       cnd t67
        (bnd (ibin .geq x3 (.int .i64 2)) fun t69=>
        some (t69,H))
        (bnd (ibin .eql t47 (.int .i64 5)) fun t71=>
        cnd t71
         (cnd t71
          (bnd (ibin .eql x3 (.int .i64 1)) fun t74=>
          some (t74,H))
          (j74_2 H))
         (bnd (ibin .eql t47 (.int .i64 6)) fun t72=>
         cnd t72
          (bnd (ibin .eql x3 (.int .i64 1)) fun t74=>
          some (t74,H))
          (j74_2 H)))))))
    (bnd (ibin .eql t47 (.int .i64 9)) fun t52=>
    cnd t52
     (bnd (ibin .eql x3 (.int .i64 0)) fun t54=>
     some (t54,H))
     (bnd (ibin .eql t47 (.int .i64 2)) fun t56=>
     cnd t56
      (bnd (ibin .eql x3 (.int .i64 0)) fun t58=>
      bnd (gdv t58 true (.tuple []) (afield 1 x1)) fun t60=>
      bnd (gdv t58 true (.tuple []) (aload true 4 t60 H)) fun t61=>
      bnd (gdv t58 true (.tuple []) (some (.agg [(.int .u64 0),(.int .u64 0),(.int .u64 0),(.int .u64 0)]))) fun t62=>
      bnd (gdv t58 true (.tuple []) (aeqBin Tryz.prog cfg.eqok .neq 38 t61 t62)) fun t63=>
      bnd (apick t58 t63 (.bool false)) fun t64=>
      some (t64,H))
      (bnd (ibin .eql t47 (.int .i64 3)) fun t66=>
      cnd t66
       (cnd t66
        (bnd (ibin .geq x3 (.int .i64 2)) fun t69=>
        some (t69,H))
        (bnd (ibin .eql t47 (.int .i64 5)) fun t71=>
        cnd t71
         (cnd t71
          (bnd (ibin .eql x3 (.int .i64 1)) fun t74=>
          some (t74,H))
          (j74_2 H))
         (bnd (ibin .eql t47 (.int .i64 6)) fun t72=>
         cnd t72
          (bnd (ibin .eql x3 (.int .i64 1)) fun t74=>
          some (t74,H))
          (j74_2 H))))
       (bnd (ibin .eql t47 (.int .i64 4)) fun t67=>
       cnd t67
        (bnd (ibin .geq x3 (.int .i64 2)) fun t69=>
        some (t69,H))
        (bnd (ibin .eql t47 (.int .i64 5)) fun t71=>
        cnd t71
         (cnd t71
          (bnd (ibin .eql x3 (.int .i64 1)) fun t74=>
          some (t74,H))
          (j74_2 H))
         (bnd (ibin .eql t47 (.int .i64 6)) fun t72=>
         cnd t72
          (bnd (ibin .eql x3 (.int .i64 1)) fun t74=>
          some (t74,H))
          (j74_2 H)))))))))
theorem e74_1 (H0:Hp) (x1 x3:AV) (H:Hp):j74_1 H0 x1 x3 H=b74_1 (j74_2 H0) x1 x3 H:=(CXM_eq [4,18] _ _ _ _).trans (by kernel_rfl)
theorem m74_1 {j74_2 dj74_2:A0} (hj74_2:L0 j74_2 dj74_2):L2 (b74_1 j74_2) (b74_1 dj74_2):=fun _ _ _=>
 bR fun _=>bR fun _=>bR fun _=>bK (bK (bR fun _=>le_refl _) (bR fun _=>bK (bR fun _=>bR fun _=>bR fun _=>bR fun _=>bR fun _=>bR fun _=>le_refl _) (bR fun _=>bK (bK (bR fun _=>le_refl _) (bR fun _=>bK (bK (bR fun _=>le_refl _) (hj74_2 _)) (bR fun _=>bK (bR fun _=>le_refl _) (hj74_2 _)))) (bR fun _=>bK (bR fun _=>le_refl _) (bR fun _=>bK (bK (bR fun _=>le_refl _) (hj74_2 _)) (bR fun _=>bK (bR fun _=>le_refl _) (hj74_2 _))))))) (bR fun _=>bK (bK (bR fun _=>le_refl _) (bR fun _=>bK (bR fun _=>bR fun _=>bR fun _=>bR fun _=>bR fun _=>bR fun _=>le_refl _) (bR fun _=>bK (bK (bR fun _=>le_refl _) (bR fun _=>bK (bK (bR fun _=>le_refl _) (hj74_2 _)) (bR fun _=>bK (bR fun _=>le_refl _) (hj74_2 _)))) (bR fun _=>bK (bR fun _=>le_refl _) (bR fun _=>bK (bK (bR fun _=>le_refl _) (hj74_2 _)) (bR fun _=>bK (bR fun _=>le_refl _) (hj74_2 _))))))) (bR fun _=>bK (bK (bR fun _=>le_refl _) (bR fun _=>bK (bR fun _=>bR fun _=>bR fun _=>bR fun _=>bR fun _=>bR fun _=>le_refl _) (bR fun _=>bK (bK (bR fun _=>le_refl _) (bR fun _=>bK (bK (bR fun _=>le_refl _) (hj74_2 _)) (bR fun _=>bK (bR fun _=>le_refl _) (hj74_2 _)))) (bR fun _=>bK (bR fun _=>le_refl _) (bR fun _=>bK (bK (bR fun _=>le_refl _) (hj74_2 _)) (bR fun _=>bK (bR fun _=>le_refl _) (hj74_2 _))))))) (bR fun _=>bK (bR fun _=>le_refl _) (bR fun _=>bK (bR fun _=>bR fun _=>bR fun _=>bR fun _=>bR fun _=>bR fun _=>le_refl _) (bR fun _=>bK (bK (bR fun _=>le_refl _) (bR fun _=>bK (bK (bR fun _=>le_refl _) (hj74_2 _)) (bR fun _=>bK (bR fun _=>le_refl _) (hj74_2 _)))) (bR fun _=>bK (bR fun _=>le_refl _) (bR fun _=>bK (bK (bR fun _=>le_refl _) (hj74_2 _)) (bR fun _=>bK (bR fun _=>le_refl _) (hj74_2 _)))))))))
def rj74_2:A0:=b74_2
theorem sj74_2 (H0:Hp):L0 (rj74_2) (j74_2 H0):=fun _=>le_eq (m74_2 _) (e74_2 H0 _)
def rj74_1:A2:=b74_1 (rj74_2)
theorem sj74_1 (H0:Hp):L2 (rj74_1) (j74_1 H0):=fun _ _ _=>le_eq (m74_1 (sj74_2 H0) _ _ _) (e74_1 H0 _ _ _)
def bc74 (j74_1:A2) (p0:AV) (H:Hp):Res:=
 bnd (abox p0 H) fun r1=>
 bnd (afield 8 r1.1) fun t4=>
 bnd (aload false 1 t4 r1.2) fun t5=>
 bnd (alenD (.slice 41) t5) fun t6=>
 bnd (afield 0 r1.1) fun t7=>
 bnd (aload false 1 t7 r1.2) fun t8=>
 bnd (ibin .neq t8 (.int .i64 2)) fun t9=>
 bnd (gdv t9 true (.tuple []) (afield 1 r1.1)) fun t11=>
 bnd (gdv t9 true (.tuple []) (aload true 4 t11 r1.2)) fun t12=>
 bnd (gdv t9 true (.tuple []) (some (.agg [(.int .u64 0),(.int .u64 0),(.int .u64 0),(.int .u64 0)]))) fun t13=>
 bnd (gdv t9 true (.tuple []) (aeqBin Tryz.prog cfg.eqok .neq 38 t12 t13)) fun t14=>
 bnd (apick t9 t14 (.bool false)) fun t15=>
 bnd (gdv t15 false (.tuple []) (afield 0 r1.1)) fun t17=>
 bnd (gdv t15 false (.tuple []) (aload false 1 t17 r1.2)) fun t18=>
 bnd (gdv t15 false (.tuple []) (ibin .neq t18 (.int .i64 5))) fun t19=>
 bnd (gdv t15 false (.tuple []) (some t19)) fun t20=>
 bnd (gdv t20 true (.tuple []) (afield 5 r1.1)) fun t21=>
 bnd (gdv t20 true (.tuple []) (aload false 1 t21 r1.2)) fun t22=>
 bnd (gdv t20 true (.tuple []) (ibin .neq t22 (.int .i64 0))) fun t23=>
 bnd (gdv t20 true (.tuple []) (some t23)) fun t24=>
 bnd (gdv t24 false (.tuple []) (afield 6 r1.1)) fun t25=>
 bnd (gdv t24 false (.tuple []) (aload false 1 t25 r1.2)) fun t26=>
 bnd (gdv t24 false (.tuple []) (ibin .neq t26 (.int .i64 0))) fun t27=>
 bnd (gdv t20 true (.tuple []) (apick t24 (.bool true) t27)) fun t28=>
 bnd (gdv t15 false (.tuple []) (apick t20 t28 (.bool false))) fun t29=>
 bnd (apick t15 (.bool true) t29) fun t30=>
 bnd (gdv t30 false (.tuple []) (afield 0 r1.1)) fun t32=>
 bnd (gdv t30 false (.tuple []) (aload false 1 t32 r1.2)) fun t33=>
 bnd (gdv t30 false (.tuple []) (ibin .neq t33 (.int .i64 6))) fun t34=>
 bnd (gdv t30 false (.tuple []) (some t34)) fun t35=>
 bnd (gdv t35 true (.tuple []) (afield 0 r1.1)) fun t36=>
 bnd (gdv t35 true (.tuple []) (aload false 1 t36 r1.2)) fun t37=>
 bnd (gdv t35 true (.tuple []) (ibin .neq t37 (.int .i64 9))) fun t38=>
 bnd (gdv t30 false (.tuple []) (apick t35 t38 (.bool false))) fun t39=>
 bnd (gdv t30 false (.tuple []) (some t39)) fun t40=>
 bnd (gdv t40 true (.tuple []) (afield 7 r1.1)) fun t41=>
 bnd (gdv t40 true (.tuple []) (aload false 1 t41 r1.2)) fun t42=>
 bnd (gdv t40 true (.tuple []) (ibin .neq t42 (.int .i64 0))) fun t43=>
 bnd (gdv t30 false (.tuple []) (apick t40 t43 (.bool false))) fun t44=>
 bnd (apick t30 (.bool true) t44) fun t45=>
 cnd t45
  (some ((.bool false),r1.2))
  (j74_1 r1.1 t6 r1.2)
theorem ec74 (p0:AV) (H:Hp):c74 p0 H=bc74 (j74_1 H) p0 H:=(callw_cxm (C:=cfg) (fn:=Tryz.f74) (c:=bodyOf Tryz.f74) (n:=75) [4,18] Tryz.func74 (by kernel_rfl) (by kernel_rfl) [p0] (by kernel_rfl) H).trans (by kernel_rfl)
theorem mc74 {j74_1 dj74_1:A2} (hj74_1:L2 j74_1 dj74_1):L1 (bc74 j74_1) (bc74 dj74_1):=fun _ _=>
 bR fun _=>bR fun _=>bR fun _=>bR fun _=>bR fun _=>bR fun _=>bR fun _=>bR fun _=>bR fun _=>bR fun _=>bR fun _=>bR fun _=>bR fun _=>bR fun _=>bR fun _=>bR fun _=>bR fun _=>bR fun _=>bR fun _=>bR fun _=>bR fun _=>bR fun _=>bR fun _=>bR fun _=>bR fun _=>bR fun _=>bR fun _=>bR fun _=>bR fun _=>bR fun _=>bR fun _=>bR fun _=>bR fun _=>bR fun _=>bR fun _=>bR fun _=>bR fun _=>bR fun _=>bR fun _=>bR fun _=>bK (le_refl _) (hj74_1 _ _ _)
def rc74:A1:=fun p0 H=>bc74 (rj74_1) p0 H
theorem sc74:L1 rc74 c74:=fun _ H=>le_eq (mc74 (sj74_1 H) _ _) (ec74 _ _)

def c53 (p0:AV) (H:Hp):Res:=callw cfg 53 [p0] H
def j53_2 (H0:Hp) (H:Hp):Res:=CXf 53 21 (sub (bodyOf Tryz.f53) [1,1,1]) (retL cfg 21 53 Tryz.f53 H0) [] H
def k53_1 (H0:Hp):KL:=seqL (fun k al H=>CXf 53 21 (sub (bodyOf Tryz.f53) [1,1,1]) k (trimL (cfg.keep 53) (sub (bodyOf Tryz.f53) [1,1,1]) al) H) (retL cfg 21 53 Tryz.f53 H0)
theorem k53_1_tame (H0:Hp):Tame 21 (k53_1 H0):=tame_seq (C:=cfg) (kp:=cfg.keep 53) (sub (bodyOf Tryz.f53) [1,1,1]) (tame_ret 53 Tryz.f53 H0)
def j53_4 (H0:Hp) (x1 x3:AV) (H:Hp):Res:=CXf 53 21 (sub (bodyOf Tryz.f53) [1,1,0,1,0,0,1,1]) (seqL (fun k al H=>LPf 53 21 (sub (bodyOf Tryz.f53) [1,1,0,1,0,0]) k (trimL (cfg.keep 53) (sub (bodyOf Tryz.f53) [1,1,0,1,0,0]) al) H) (blockL 0 (k53_1 H0))) [(1,x1),(3,x3)] H
def j53_3 (H0:Hp) (x1 x3:AV) (H:Hp):Res:=CXf 53 21 (sub (bodyOf Tryz.f53) [1,1,0,1,0,0,1]) (seqL (fun k al H=>LPf 53 21 (sub (bodyOf Tryz.f53) [1,1,0,1,0,0]) k (trimL (cfg.keep 53) (sub (bodyOf Tryz.f53) [1,1,0,1,0,0]) al) H) (blockL 0 (k53_1 H0))) [(1,x1),(3,x3)] H
def j53_l1 (H0:Hp) (x1 x3:AV) (H:Hp):Res:=LPf 53 21 (sub (bodyOf Tryz.f53) [1,1,0,1,0,0]) (blockL 0 (k53_1 H0)) [(1,x1),(3,x3)] H
def j53_1 (H0:Hp) (x1:AV) (H:Hp):Res:=CXf 53 21 (sub (bodyOf Tryz.f53) [1,1]) (retL cfg 21 53 Tryz.f53 H0) [(1,x1)] H
def b53_2 (H:Hp):Res:=
 some ((.bool true),H)
theorem e53_2 (H0:Hp) (H:Hp):j53_2 H0 H=b53_2 H:=(CXM_eq [3,5,6,8] _ _ _ _).trans (by kernel_rfl)
theorem m53_2:L0 (b53_2) (b53_2):=fun _=>
 le_refl _
def b53_4 (j53_l1:A2) (x1 x3:AV) (H:Hp):Res:=
 bnd (ibin .add x3 (.int .i64 1)) fun t13=>
 j53_l1 x1 t13 H
theorem e53_4 (H0:Hp) (x1 x3:AV) (H:Hp):j53_4 H0 x1 x3 H=b53_4 (j53_l1 H0) x1 x3 H:=(CXM_eq [3,5,6,8] _ _ _ _).trans (by kernel_rfl)
theorem m53_4 {j53_l1 dj53_l1:A2} (hj53_l1:L2 j53_l1 dj53_l1):L2 (b53_4 j53_l1) (b53_4 dj53_l1):=fun _ _ _=>
 bR fun _=>hj53_l1 _ _ _
def b53_3 (j53_4:A2) (cV:AV→List AV→Hp→Res) (x1 x3:AV) (H:Hp):Res:=
 bnd (afield 8 x1) fun t14=>
 bnd (aload false 1 t14 H) fun t15=>
 bnd (aindexS 9 t15 x3) fun t17=>
 bnd (aload true 9 t17 H) fun t18=>
 bnd (cV (.fn (.func 53) [] []) [t18] H) fun r19=>
 bnd (aun .not r19.1) fun t20=>
 cnd t20
  (some ((.bool false),r19.2))
  (j53_4 x1 x3 r19.2)
theorem e53_3 (H0:Hp) (x1 x3:AV) (H:Hp):j53_3 H0 x1 x3 H=b53_3 (j53_4 H0) (acall cfg (callw cfg)) x1 x3 H:=(CXM_eq [3,5,6,8] _ _ _ _).trans (by kernel_rfl)
theorem m53_3 {j53_4 dj53_4:A2} (hj53_4:L2 j53_4 dj53_4) {cV dcV:AV→List AV→Hp→Res} (hcV:LV cV dcV):L2 (b53_3 j53_4 cV) (b53_3 dj53_4 dcV):=fun _ _ _=>
 bR fun _=>bR fun _=>bR fun _=>bR fun _=>bC (hcV _ _ _) fun _=>bR fun _=>bK (le_refl _) (hj53_4 _ _ _)
def b53_l1 (j53_2:A0) (j53_3:A2) (x1 x3:AV) (H:Hp):Res:=
 bnd (afield 8 x1) fun t8=>
 bnd (aload false 1 t8 H) fun t9=>
 bnd (alenD (.slice 41) t9) fun t10=>
 bnd (ibin .lss x3 t10) fun t11=>
 cnd t11
  (j53_3 x1 x3 H)
  (j53_2 H)
theorem e53_l1 (H0:Hp) (x1 x3:AV) (H:Hp):j53_l1 H0 x1 x3 H=b53_l1 (j53_2 H0) (j53_3 H0) x1 x3 H:=(LPL_eqm (C:=cfg) [3,5,6,8] (tame_block 0 (k53_1_tame H0)) _ _).trans (by kernel_rfl)
theorem m53_l1 {j53_2 dj53_2:A0} (hj53_2:L0 j53_2 dj53_2) {j53_3 dj53_3:A2} (hj53_3:L2 j53_3 dj53_3):L2 (b53_l1 j53_2 j53_3) (b53_l1 dj53_2 dj53_3):=fun _ _ _=>
 bR fun _=>bR fun _=>bR fun _=>bR fun _=>bK (hj53_3 _ _ _) (hj53_2 _)
def b53_1 (j53_l1:A2) (x1:AV) (H:Hp):Res:=
 j53_l1 x1 (.int .i64 0) H
theorem e53_1 (H0:Hp) (x1:AV) (H:Hp):j53_1 H0 x1 H=b53_1 (j53_l1 H0) x1 H:=(CXM_eq [3,5,6,8] _ _ _ _).trans (by kernel_rfl)
theorem m53_1 {j53_l1 dj53_l1:A2} (hj53_l1:L2 j53_l1 dj53_l1):L1 (b53_1 j53_l1) (b53_1 dj53_l1):=fun _ _=>
 hj53_l1 _ _ _
def rj53_2 (gV:AV→List AV→Hp→Res):A0:=b53_2
theorem sj53_2 (H0:Hp) {gV:AV→List AV→Hp→Res} (hV:LV gV (acall cfg (callw cfg))):L0 (rj53_2 gV) (j53_2 H0):=fun _=>le_eq (m53_2 _) (e53_2 H0 _)
def rj53_4 (gV:AV→List AV→Hp→Res) (j53_l1:A2):A2:=b53_4 j53_l1
theorem sj53_4 (H0:Hp) {gV:AV→List AV→Hp→Res} (hV:LV gV (acall cfg (callw cfg))) {yj53_l1:A2} (hj53_l1:L2 yj53_l1 (j53_l1 H0)):L2 (rj53_4 gV yj53_l1) (j53_4 H0):=fun _ _ _=>le_eq (m53_4 hj53_l1 _ _ _) (e53_4 H0 _ _ _)
def rj53_3 (gV:AV→List AV→Hp→Res) (j53_l1:A2):A2:=b53_3 (rj53_4 gV j53_l1) gV
theorem sj53_3 (H0:Hp) {gV:AV→List AV→Hp→Res} (hV:LV gV (acall cfg (callw cfg))) {yj53_l1:A2} (hj53_l1:L2 yj53_l1 (j53_l1 H0)):L2 (rj53_3 gV yj53_l1) (j53_3 H0):=fun _ _ _=>le_eq (m53_3 (sj53_4 H0 hV hj53_l1) hV _ _ _) (e53_3 H0 _ _ _)
def rj53_l1 (gV:AV→List AV→Hp→Res) (n:Nat):A2:=@Nat.rec (fun _=>A2) (fun _ _ _=>none) (fun _ j53_l1=>b53_l1 (rj53_2 gV) (rj53_3 gV j53_l1)) n
theorem sj53_l1 (H0:Hp) {gV:AV→List AV→Hp→Res} (hV:LV gV (acall cfg (callw cfg))) (n:Nat):L2 (rj53_l1 gV n) (j53_l1 H0):=by
 induction n with
 | zero=>exact fun _ _ _=>le_none _
 | succ n hj53_l1=>exact fun _ _ _=>le_eq (m53_l1 (sj53_2 H0 hV) (sj53_3 H0 hV hj53_l1) _ _ _) (e53_l1 H0 _ _ _)
def rj53_1 (gV:AV→List AV→Hp→Res):A1:=b53_1 (rj53_l1 gV 100000)
theorem sj53_1 (H0:Hp) {gV:AV→List AV→Hp→Res} (hV:LV gV (acall cfg (callw cfg))):L1 (rj53_1 gV) (j53_1 H0):=fun _ _=>le_eq (m53_1 (sj53_l1 H0 hV 100000) _ _) (e53_1 H0 _ _)
def bc53 (c74:A1) (j53_1:A1) (p0:AV) (H:Hp):Res:=
 bnd (abox p0 H) fun r1=>
 bnd (aload true 9 r1.1 r1.2) fun t4=>
 bnd (c74 t4 r1.2) fun r5=>
 bnd (aun .not r5.1) fun t6=>
 cnd t6
  (some ((.bool false),r5.2))
  (j53_1 r1.1 r5.2)
theorem ec53 (p0:AV) (H:Hp):c53 p0 H=bc53 c74 (j53_1 H) p0 H:=(callw_cxm (C:=cfg) (fn:=Tryz.f53) (c:=bodyOf Tryz.f53) (n:=21) [3,5,6,8] Tryz.func53 (by kernel_rfl) (by kernel_rfl) [p0] (by kernel_rfl) H).trans (by kernel_rfl)
theorem mc53 {c74 dc74:A1} (hc74:L1 c74 dc74) {j53_1 dj53_1:A1} (hj53_1:L1 j53_1 dj53_1):L1 (bc53 c74 j53_1) (bc53 dc74 dj53_1):=fun _ _=>
 bR fun _=>bR fun _=>bC (hc74 _ _) fun _=>bR fun _=>bK (le_refl _) (hj53_1 _ _)
def rc53 (gV:AV→List AV→Hp→Res):A1:=fun p0 H=>bc53 rc74 (rj53_1 gV) p0 H
theorem sc53 {gV:AV→List AV→Hp→Res} (hV:LV gV (acall cfg (callw cfg))):L1 (rc53 gV) c53:=fun _ H=>le_eq (mc53 sc74 (sj53_1 H hV) _ _) (ec53 _ _)

def c75 (p0:AV) (H:Hp):Res:=callw cfg 75 [p0] H
def bc75 (p0:AV) (H:Hp):Res:=
 bnd (abox p0 H) fun r1=>
 bnd (afield 5 r1.1) fun t3=>
 bnd (aload false 1 t3 r1.2) fun t4=>
 bnd (ibin .geq t4 (.int .i64 0)) fun t5=>
 bnd (gdv t5 true (.tuple []) (afield 5 r1.1)) fun t7=>
 bnd (gdv t5 true (.tuple []) (aload false 1 t7 r1.2)) fun t8=>
 bnd (gdv t5 true (.tuple []) (ibin .leq t8 (.int .i64 64))) fun t9=>
 bnd (apick t5 t9 (.bool false)) fun t10=>
 bnd (gdv t10 true (.tuple []) (afield 6 r1.1)) fun t12=>
 bnd (gdv t10 true (.tuple []) (aload false 1 t12 r1.2)) fun t13=>
 bnd (gdv t10 true (.tuple []) (ibin .eql t13 (.int .i64 (-1)))) fun t14=>
 bnd (gdv t10 true (.tuple []) (some t14)) fun t15=>
 bnd (gdv t15 false (.tuple []) (afield 6 r1.1)) fun t16=>
 bnd (gdv t15 false (.tuple []) (aload false 1 t16 r1.2)) fun t17=>
 bnd (gdv t15 false (.tuple []) (afield 5 r1.1)) fun t18=>
 bnd (gdv t15 false (.tuple []) (aload false 1 t18 r1.2)) fun t19=>
 bnd (gdv t15 false (.tuple []) (ibin .geq t17 t19)) fun t20=>
 bnd (gdv t15 false (.tuple []) (some t20)) fun t21=>
 bnd (gdv t21 true (.tuple []) (afield 6 r1.1)) fun t22=>
 bnd (gdv t21 true (.tuple []) (aload false 1 t22 r1.2)) fun t23=>
 bnd (gdv t21 true (.tuple []) (ibin .leq t23 (.int .i64 64))) fun t24=>
 bnd (gdv t15 false (.tuple []) (apick t21 t24 (.bool false))) fun t25=>
 bnd (gdv t10 true (.tuple []) (apick t15 (.bool true) t25)) fun t26=>
 bnd (apick t10 t26 (.bool false)) fun t27=>
 some (t27,r1.2)
theorem ec75 (p0:AV) (H:Hp):c75 p0 H=bc75 p0 H:=(callw_cxm (C:=cfg) (fn:=Tryz.f75) (c:=bodyOf Tryz.f75) (n:=28) [] Tryz.func75 (by kernel_rfl) (by kernel_rfl) [p0] (by kernel_rfl) H).trans (by kernel_rfl)
theorem mc75:L1 (bc75) (bc75):=fun _ _=>
 bR fun _=>bR fun _=>bR fun _=>bR fun _=>bR fun _=>bR fun _=>bR fun _=>bR fun _=>bR fun _=>bR fun _=>bR fun _=>bR fun _=>bR fun _=>bR fun _=>bR fun _=>bR fun _=>bR fun _=>bR fun _=>bR fun _=>bR fun _=>bR fun _=>bR fun _=>bR fun _=>bR fun _=>le_refl _
def rc75:A1:=fun p0 H=>bc75 p0 H
theorem sc75:L1 rc75 c75:=fun _ H=>le_eq (mc75 _ _) (ec75 _ _)

def c54 (p0 p1:AV) (H:Hp):Res:=callw cfg 54 [p0,p1] H
def j54_3 (H0:Hp) (x1:AV) (H:Hp):Res:=CXf 54 51 (sub (bodyOf Tryz.f54) [1,1,1,1]) (retL cfg 51 54 Tryz.f54 H0) [(1,x1)] H
def k54_1 (H0:Hp):KL:=seqL (fun k al H=>CXf 54 51 (sub (bodyOf Tryz.f54) [1,1,1,1]) k (trimL (cfg.keep 54) (sub (bodyOf Tryz.f54) [1,1,1,1]) al) H) (retL cfg 51 54 Tryz.f54 H0)
theorem k54_1_tame (H0:Hp):Tame 51 (k54_1 H0):=tame_seq (C:=cfg) (kp:=cfg.keep 54) (sub (bodyOf Tryz.f54) [1,1,1,1]) (tame_ret 54 Tryz.f54 H0)
def j54_5 (H0:Hp) (x1 x2 x6:AV) (H:Hp):Res:=CXf 54 51 (sub (bodyOf Tryz.f54) [1,1,1,0,1,0,0,1,1]) (seqL (fun k al H=>LPf 54 51 (sub (bodyOf Tryz.f54) [1,1,1,0,1,0,0]) k (trimL (cfg.keep 54) (sub (bodyOf Tryz.f54) [1,1,1,0,1,0,0]) al) H) (blockL 0 (k54_1 H0))) [(1,x1),(2,x2),(6,x6)] H
def k54_2 (H0:Hp):KL:=seqL (fun k al H=>CXf 54 51 (sub (bodyOf Tryz.f54) [1,1,1,0,1,0,0,1,1]) k (trimL (cfg.keep 54) (sub (bodyOf Tryz.f54) [1,1,1,0,1,0,0,1,1]) al) H) (seqL (fun k al H=>LPf 54 51 (sub (bodyOf Tryz.f54) [1,1,1,0,1,0,0]) k (trimL (cfg.keep 54) (sub (bodyOf Tryz.f54) [1,1,1,0,1,0,0]) al) H) (blockL 0 (k54_1 H0)))
def j54_6 (H0:Hp) (x2 x6 x7:AV) (H:Hp):Res:=CXf 54 51 (sub (bodyOf Tryz.f54) [1,1,1,0,1,0,0,1,0,0,1,1]) (blockL 1 (k54_2 H0)) [(2,x2),(6,x6),(7,x7)] H
def j54_4 (H0:Hp) (x1 x2 x6:AV) (H:Hp):Res:=CXf 54 51 (sub (bodyOf Tryz.f54) [1,1,1,0,1,0,0,1]) (seqL (fun k al H=>LPf 54 51 (sub (bodyOf Tryz.f54) [1,1,1,0,1,0,0]) k (trimL (cfg.keep 54) (sub (bodyOf Tryz.f54) [1,1,1,0,1,0,0]) al) H) (blockL 0 (k54_1 H0))) [(1,x1),(2,x2),(6,x6)] H
def j54_l1 (H0:Hp) (x1 x2 x6:AV) (H:Hp):Res:=LPf 54 51 (sub (bodyOf Tryz.f54) [1,1,1,0,1,0,0]) (blockL 0 (k54_1 H0)) [(1,x1),(2,x2),(6,x6)] H
def j54_2 (H0:Hp) (x1 x2:AV) (H:Hp):Res:=CXf 54 51 (sub (bodyOf Tryz.f54) [1,1,1]) (retL cfg 51 54 Tryz.f54 H0) [(1,x1),(2,x2)] H
def k54_3 (H0:Hp):KL:=seqL (fun k al H=>CXf 54 51 (sub (bodyOf Tryz.f54) [1,1,1]) k (trimL (cfg.keep 54) (sub (bodyOf Tryz.f54) [1,1,1]) al) H) (retL cfg 51 54 Tryz.f54 H0)
def j54_7 (H0:Hp) (x1 x2:AV) (H:Hp):Res:=CXf 54 51 (sub (bodyOf Tryz.f54) [1,1,0,1,0,1]) (k54_3 H0) [(1,x1),(2,x2)] H
def j54_1 (H0:Hp) (x1 x2:AV) (H:Hp):Res:=CXf 54 51 (sub (bodyOf Tryz.f54) [1,1]) (retL cfg 51 54 Tryz.f54 H0) [(1,x1),(2,x2)] H
def b54_3 (x1:AV) (H:Hp):Res:=
 some ((.tuple [x1,(.bool true)]),H)
theorem e54_3 (H0:Hp) (x1:AV) (H:Hp):j54_3 H0 x1 H=b54_3 x1 H:=(CXM_eq [3,6,7,9,10,13,14] _ _ _ _).trans (by kernel_rfl)
theorem m54_3:L1 (b54_3) (b54_3):=fun _ _=>
 le_refl _
def b54_5 (j54_l1:A3) (x1 x2 x6:AV) (H:Hp):Res:=
 bnd (ibin .add x6 (.int .i64 1)) fun t35=>
 j54_l1 x1 x2 t35 H
theorem e54_5 (H0:Hp) (x1 x2 x6:AV) (H:Hp):j54_5 H0 x1 x2 x6 H=b54_5 (j54_l1 H0) x1 x2 x6 H:=(CXM_eq [3,6,7,9,10,13,14] _ _ _ _).trans (by kernel_rfl)
theorem m54_5 {j54_l1 dj54_l1:A3} (hj54_l1:L3 j54_l1 dj54_l1):L3 (b54_5 j54_l1) (b54_5 dj54_l1):=fun _ _ _ _=>
 bR fun _=>hj54_l1 _ _ _ _
def b54_6 (j54_5:A3) (x2 x6 x7:AV) (H:Hp):Res:=
 j54_5 x7 x2 x6 H
theorem e54_6 (H0:Hp) (x2 x6 x7:AV) (H:Hp):j54_6 H0 x2 x6 x7 H=b54_6 (j54_5 H0) x2 x6 x7 H:=(CXM_eq [3,6,7,9,10,13,14] _ _ _ _).trans (by kernel_rfl)
theorem m54_6 {j54_5 dj54_5:A3} (hj54_5:L3 j54_5 dj54_5):L3 (b54_6 j54_5) (b54_6 dj54_5):=fun _ _ _ _=>
 hj54_5 _ _ _ _
def b54_4 (j54_6:A3) (cV:AV→List AV→Hp→Res) (x1 x2 x6:AV) (H:Hp):Res:=
 bnd (afield 8 x2) fun t37=>
 bnd (aload false 1 t37 H) fun t38=>
 bnd (aindexS 9 t38 x6) fun t40=>
 bnd (aload true 9 t40 H) fun t41=>
 bnd (cV (.fn (.func 54) [] []) [t41,x1] H) fun r43=>
 bnd (aext r43.1 0) fun t44=>
 bnd (aext r43.1 1) fun t45=>
 bnd (aun .not t45) fun t47=>
 cnd t47
  (some ((.tuple [x1,(.bool false)]),r43.2))
  (j54_6 x2 x6 t44 r43.2)
theorem e54_4 (H0:Hp) (x1 x2 x6:AV) (H:Hp):j54_4 H0 x1 x2 x6 H=b54_4 (j54_6 H0) (acall cfg (callw cfg)) x1 x2 x6 H:=(CXM_eq [3,6,7,9,10,13,14] _ _ _ _).trans (by kernel_rfl)
theorem m54_4 {j54_6 dj54_6:A3} (hj54_6:L3 j54_6 dj54_6) {cV dcV:AV→List AV→Hp→Res} (hcV:LV cV dcV):L3 (b54_4 j54_6 cV) (b54_4 dj54_6 dcV):=fun _ _ _ _=>
 bR fun _=>bR fun _=>bR fun _=>bR fun _=>bC (hcV _ _ _) fun _=>bR fun _=>bR fun _=>bR fun _=>bK (le_refl _) (hj54_6 _ _ _ _)
def b54_l1 (j54_3:A1) (j54_4:A3) (x1 x2 x6:AV) (H:Hp):Res:=
 bnd (afield 8 x2) fun t30=>
 bnd (aload false 1 t30 H) fun t31=>
 bnd (alenD (.slice 41) t31) fun t32=>
 bnd (ibin .lss x6 t32) fun t33=>
 cnd t33
  (j54_4 x1 x2 x6 H)
  (j54_3 x1 H)
theorem e54_l1 (H0:Hp) (x1 x2 x6:AV) (H:Hp):j54_l1 H0 x1 x2 x6 H=b54_l1 (j54_3 H0) (j54_4 H0) x1 x2 x6 H:=(LPL_eqm (C:=cfg) [3,6,7,9,10,13,14] (tame_block 0 (k54_1_tame H0)) _ _).trans (by kernel_rfl)
theorem m54_l1 {j54_3 dj54_3:A1} (hj54_3:L1 j54_3 dj54_3) {j54_4 dj54_4:A3} (hj54_4:L3 j54_4 dj54_4):L3 (b54_l1 j54_3 j54_4) (b54_l1 dj54_3 dj54_4):=fun _ _ _ _=>
 bR fun _=>bR fun _=>bR fun _=>bR fun _=>bK (hj54_4 _ _ _ _) (hj54_3 _ _)
def b54_2 (j54_l1:A3) (x1 x2:AV) (H:Hp):Res:=
 j54_l1 x1 x2 (.int .i64 0) H
theorem e54_2 (H0:Hp) (x1 x2:AV) (H:Hp):j54_2 H0 x1 x2 H=b54_2 (j54_l1 H0) x1 x2 H:=(CXM_eq [3,6,7,9,10,13,14] _ _ _ _).trans (by kernel_rfl)
theorem m54_2 {j54_l1 dj54_l1:A3} (hj54_l1:L3 j54_l1 dj54_l1):L2 (b54_2 j54_l1) (b54_2 dj54_l1):=fun _ _ _=>
 hj54_l1 _ _ _ _
def b54_7 (j54_2:A2) (x1 x2:AV) (H:Hp):Res:=
 bnd (ibin .add x1 (.int .i64 1)) fun t28=>
 j54_2 t28 x2 H
theorem e54_7 (H0:Hp) (x1 x2:AV) (H:Hp):j54_7 H0 x1 x2 H=b54_7 (j54_2 H0) x1 x2 H:=(CXM_eq [3,6,7,9,10,13,14] _ _ _ _).trans (by kernel_rfl)
theorem m54_7 {j54_2 dj54_2:A2} (hj54_2:L2 j54_2 dj54_2):L2 (b54_7 j54_2) (b54_7 dj54_2):=fun _ _ _=>
 bR fun _=>hj54_2 _ _ _
def b54_1 (j54_2:A2) (j54_7:A2) (x1 x2:AV) (H:Hp):Res:=
 bnd (afield 0 x2) fun t18=>
 bnd (aload false 1 t18 H) fun t19=>
 bnd (ibin .eql t19 (.int .i64 6)) fun t20=>
 cnd t20
  (bnd (afield 7 x2) fun t21=>
  bnd (aload false 1 t21 H) fun t22=>
  bnd (ibin .sub t22 (.int .i64 1)) fun t23=>
  bnd (ibin .neq t23 x1) fun t25=>
  cnd t25
   (some ((.tuple [x1,(.bool false)]),H))
   (j54_7 x1 x2 H))
  (j54_2 x1 x2 H)
theorem e54_1 (H0:Hp) (x1 x2:AV) (H:Hp):j54_1 H0 x1 x2 H=b54_1 (j54_2 H0) (j54_7 H0) x1 x2 H:=(CXM_eq [3,6,7,9,10,13,14] _ _ _ _).trans (by kernel_rfl)
theorem m54_1 {j54_2 dj54_2:A2} (hj54_2:L2 j54_2 dj54_2) {j54_7 dj54_7:A2} (hj54_7:L2 j54_7 dj54_7):L2 (b54_1 j54_2 j54_7) (b54_1 dj54_2 dj54_7):=fun _ _ _=>
 bR fun _=>bR fun _=>bR fun _=>bK (bR fun _=>bR fun _=>bR fun _=>bR fun _=>bK (le_refl _) (hj54_7 _ _ _)) (hj54_2 _ _ _)
def rj54_3 (gV:AV→List AV→Hp→Res):A1:=b54_3
theorem sj54_3 (H0:Hp) {gV:AV→List AV→Hp→Res} (hV:LV gV (acall cfg (callw cfg))):L1 (rj54_3 gV) (j54_3 H0):=fun _ _=>le_eq (m54_3 _ _) (e54_3 H0 _ _)
def rj54_5 (gV:AV→List AV→Hp→Res) (j54_l1:A3):A3:=b54_5 j54_l1
theorem sj54_5 (H0:Hp) {gV:AV→List AV→Hp→Res} (hV:LV gV (acall cfg (callw cfg))) {yj54_l1:A3} (hj54_l1:L3 yj54_l1 (j54_l1 H0)):L3 (rj54_5 gV yj54_l1) (j54_5 H0):=fun _ _ _ _=>le_eq (m54_5 hj54_l1 _ _ _ _) (e54_5 H0 _ _ _ _)
def rj54_6 (gV:AV→List AV→Hp→Res) (j54_l1:A3):A3:=b54_6 (rj54_5 gV j54_l1)
theorem sj54_6 (H0:Hp) {gV:AV→List AV→Hp→Res} (hV:LV gV (acall cfg (callw cfg))) {yj54_l1:A3} (hj54_l1:L3 yj54_l1 (j54_l1 H0)):L3 (rj54_6 gV yj54_l1) (j54_6 H0):=fun _ _ _ _=>le_eq (m54_6 (sj54_5 H0 hV hj54_l1) _ _ _ _) (e54_6 H0 _ _ _ _)
def rj54_4 (gV:AV→List AV→Hp→Res) (j54_l1:A3):A3:=b54_4 (rj54_6 gV j54_l1) gV
theorem sj54_4 (H0:Hp) {gV:AV→List AV→Hp→Res} (hV:LV gV (acall cfg (callw cfg))) {yj54_l1:A3} (hj54_l1:L3 yj54_l1 (j54_l1 H0)):L3 (rj54_4 gV yj54_l1) (j54_4 H0):=fun _ _ _ _=>le_eq (m54_4 (sj54_6 H0 hV hj54_l1) hV _ _ _ _) (e54_4 H0 _ _ _ _)
def rj54_l1 (gV:AV→List AV→Hp→Res) (n:Nat):A3:=@Nat.rec (fun _=>A3) (fun _ _ _ _=>none) (fun _ j54_l1=>b54_l1 (rj54_3 gV) (rj54_4 gV j54_l1)) n
theorem sj54_l1 (H0:Hp) {gV:AV→List AV→Hp→Res} (hV:LV gV (acall cfg (callw cfg))) (n:Nat):L3 (rj54_l1 gV n) (j54_l1 H0):=by
 induction n with
 | zero=>exact fun _ _ _ _=>le_none _
 | succ n hj54_l1=>exact fun _ _ _ _=>le_eq (m54_l1 (sj54_3 H0 hV) (sj54_4 H0 hV hj54_l1) _ _ _ _) (e54_l1 H0 _ _ _ _)
def rj54_2 (gV:AV→List AV→Hp→Res):A2:=b54_2 (rj54_l1 gV 100000)
theorem sj54_2 (H0:Hp) {gV:AV→List AV→Hp→Res} (hV:LV gV (acall cfg (callw cfg))):L2 (rj54_2 gV) (j54_2 H0):=fun _ _ _=>le_eq (m54_2 (sj54_l1 H0 hV 100000) _ _ _) (e54_2 H0 _ _ _)
def rj54_7 (gV:AV→List AV→Hp→Res):A2:=b54_7 (rj54_2 gV)
theorem sj54_7 (H0:Hp) {gV:AV→List AV→Hp→Res} (hV:LV gV (acall cfg (callw cfg))):L2 (rj54_7 gV) (j54_7 H0):=fun _ _ _=>le_eq (m54_7 (sj54_2 H0 hV) _ _ _) (e54_7 H0 _ _ _)
def rj54_1 (gV:AV→List AV→Hp→Res):A2:=b54_1 (rj54_2 gV) (rj54_7 gV)
theorem sj54_1 (H0:Hp) {gV:AV→List AV→Hp→Res} (hV:LV gV (acall cfg (callw cfg))):L2 (rj54_1 gV) (j54_1 H0):=fun _ _ _=>le_eq (m54_1 (sj54_2 H0 hV) (sj54_7 H0 hV) _ _ _) (e54_1 H0 _ _ _)
def bc54 (c75:A1) (j54_1:A2) (p0 p1:AV) (H:Hp):Res:=
 bnd (abox p0 H) fun r2=>
 bnd (afield 0 r2.1) fun t9=>
 bnd (aload false 1 t9 r2.2) fun t10=>
 bnd (ibin .eql t10 (.int .i64 5)) fun t11=>
 bnd (gdv t11 true (.tuple []) (aload true 9 r2.1 r2.2)) fun t13=>
 bnd (gdv t11 true ((.tuple []),r2.2) (c75 t13 r2.2)) fun r14=>
 bnd (gdv t11 true (.tuple []) (aun .not r14.1)) fun t15=>
 bnd (apick t11 t15 (.bool false)) fun t16=>
 cnd t16
  (some ((.tuple [p1,(.bool false)]),r14.2))
  (j54_1 p1 r2.1 r14.2)
theorem ec54 (p0 p1:AV) (H:Hp):c54 p0 p1 H=bc54 c75 (j54_1 H) p0 p1 H:=(callw_cxm (C:=cfg) (fn:=Tryz.f54) (c:=bodyOf Tryz.f54) (n:=51) [3,6,7,9,10,13,14] Tryz.func54 (by kernel_rfl) (by kernel_rfl) [p0,p1] (by kernel_rfl) H).trans (by kernel_rfl)
theorem mc54 {c75 dc75:A1} (hc75:L1 c75 dc75) {j54_1 dj54_1:A2} (hj54_1:L2 j54_1 dj54_1):L2 (bc54 c75 j54_1) (bc54 dc75 dj54_1):=fun _ _ _=>
 bR fun _=>bR fun _=>bR fun _=>bR fun _=>bR fun _=>bG (hc75 _ _) fun _=>bR fun _=>bR fun _=>bK (le_refl _) (hj54_1 _ _ _)
def rc54 (gV:AV→List AV→Hp→Res):A2:=fun p0 p1 H=>bc54 rc75 (rj54_1 gV) p0 p1 H
theorem sc54 {gV:AV→List AV→Hp→Res} (hV:LV gV (acall cfg (callw cfg))):L2 (rc54 gV) c54:=fun _ _ H=>le_eq (mc54 sc75 (sj54_1 H hV) _ _ _) (ec54 _ _ _)

def c76 (p0 p1:AV) (H:Hp):Res:=callw cfg 76 [p0,p1] H
def j76_1 (H0:Hp) (H:Hp):Res:=CXf 76 18 (sub (bodyOf Tryz.f76) [1,1]) (retL cfg 18 76 Tryz.f76 H0) [] H
def k76_1 (H0:Hp):KL:=seqL (fun k al H=>CXf 76 18 (sub (bodyOf Tryz.f76) [1,1]) k (trimL (cfg.keep 76) (sub (bodyOf Tryz.f76) [1,1]) al) H) (retL cfg 18 76 Tryz.f76 H0)
theorem k76_1_tame (H0:Hp):Tame 18 (k76_1 H0):=tame_seq (C:=cfg) (kp:=cfg.keep 76) (sub (bodyOf Tryz.f76) [1,1]) (tame_ret 76 Tryz.f76 H0)
def j76_3 (H0:Hp) (x0 x1 x5:AV) (H:Hp):Res:=CXf 76 18 (sub (bodyOf Tryz.f76) [1,0,1,0,0,1,1]) (seqL (fun k al H=>LPf 76 18 (sub (bodyOf Tryz.f76) [1,0,1,0,0]) k (trimL (cfg.keep 76) (sub (bodyOf Tryz.f76) [1,0,1,0,0]) al) H) (blockL 0 (k76_1 H0))) [(0,x0),(1,x1),(5,x5)] H
def j76_2 (H0:Hp) (x0 x1 x5:AV) (H:Hp):Res:=CXf 76 18 (sub (bodyOf Tryz.f76) [1,0,1,0,0,1]) (seqL (fun k al H=>LPf 76 18 (sub (bodyOf Tryz.f76) [1,0,1,0,0]) k (trimL (cfg.keep 76) (sub (bodyOf Tryz.f76) [1,0,1,0,0]) al) H) (blockL 0 (k76_1 H0))) [(0,x0),(1,x1),(5,x5)] H
def j76_l1 (H0:Hp) (x0 x1 x5:AV) (H:Hp):Res:=LPf 76 18 (sub (bodyOf Tryz.f76) [1,0,1,0,0]) (blockL 0 (k76_1 H0)) [(0,x0),(1,x1),(5,x5)] H
def b76_1 (H:Hp):Res:=
 some ((.bool false),H)
theorem e76_1 (H0:Hp) (H:Hp):j76_1 H0 H=b76_1 H:=(CXM_eq [3,4,6] _ _ _ _).trans (by kernel_rfl)
theorem m76_1:L0 (b76_1) (b76_1):=fun _=>
 le_refl _
def b76_3 (j76_l1:A3) (x0 x1 x5:AV) (H:Hp):Res:=
 bnd (ibin .add x5 (.int .i64 1)) fun t11=>
 j76_l1 x0 x1 t11 H
theorem e76_3 (H0:Hp) (x0 x1 x5:AV) (H:Hp):j76_3 H0 x0 x1 x5 H=b76_3 (j76_l1 H0) x0 x1 x5 H:=(CXM_eq [3,4,6] _ _ _ _).trans (by kernel_rfl)
theorem m76_3 {j76_l1 dj76_l1:A3} (hj76_l1:L3 j76_l1 dj76_l1):L3 (b76_3 j76_l1) (b76_3 dj76_l1):=fun _ _ _ _=>
 bR fun _=>hj76_l1 _ _ _ _
def b76_2 (j76_3:A3) (x0 x1 x5:AV) (H:Hp):Res:=
 bnd (aindexS 1 x0 x5) fun t14=>
 bnd (aload false 1 t14 H) fun t15=>
 bnd (ibin .eql t15 x1) fun t17=>
 cnd t17
  (some ((.bool true),H))
  (j76_3 x0 x1 x5 H)
theorem e76_2 (H0:Hp) (x0 x1 x5:AV) (H:Hp):j76_2 H0 x0 x1 x5 H=b76_2 (j76_3 H0) x0 x1 x5 H:=(CXM_eq [3,4,6] _ _ _ _).trans (by kernel_rfl)
theorem m76_2 {j76_3 dj76_3:A3} (hj76_3:L3 j76_3 dj76_3):L3 (b76_2 j76_3) (b76_2 dj76_3):=fun _ _ _ _=>
 bR fun _=>bR fun _=>bR fun _=>bK (le_refl _) (hj76_3 _ _ _ _)
def b76_l1 (j76_1:A0) (j76_2:A3) (x0 x1 x5:AV) (H:Hp):Res:=
 bnd (alenD (.slice 3) x0) fun t8=>
 bnd (ibin .lss x5 t8) fun t9=>
 cnd t9
  (j76_2 x0 x1 x5 H)
  (j76_1 H)
theorem e76_l1 (H0:Hp) (x0 x1 x5:AV) (H:Hp):j76_l1 H0 x0 x1 x5 H=b76_l1 (j76_1 H0) (j76_2 H0) x0 x1 x5 H:=(LPL_eqm (C:=cfg) [3,4,6] (tame_block 0 (k76_1_tame H0)) _ _).trans (by kernel_rfl)
theorem m76_l1 {j76_1 dj76_1:A0} (hj76_1:L0 j76_1 dj76_1) {j76_2 dj76_2:A3} (hj76_2:L3 j76_2 dj76_2):L3 (b76_l1 j76_1 j76_2) (b76_l1 dj76_1 dj76_2):=fun _ _ _ _=>
 bR fun _=>bR fun _=>bK (hj76_2 _ _ _ _) (hj76_1 _)
def rj76_1:A0:=b76_1
theorem sj76_1 (H0:Hp):L0 (rj76_1) (j76_1 H0):=fun _=>le_eq (m76_1 _) (e76_1 H0 _)
def rj76_3 (j76_l1:A3):A3:=b76_3 j76_l1
theorem sj76_3 (H0:Hp) {yj76_l1:A3} (hj76_l1:L3 yj76_l1 (j76_l1 H0)):L3 (rj76_3 yj76_l1) (j76_3 H0):=fun _ _ _ _=>le_eq (m76_3 hj76_l1 _ _ _ _) (e76_3 H0 _ _ _ _)
def rj76_2 (j76_l1:A3):A3:=b76_2 (rj76_3 j76_l1)
theorem sj76_2 (H0:Hp) {yj76_l1:A3} (hj76_l1:L3 yj76_l1 (j76_l1 H0)):L3 (rj76_2 yj76_l1) (j76_2 H0):=fun _ _ _ _=>le_eq (m76_2 (sj76_3 H0 hj76_l1) _ _ _ _) (e76_2 H0 _ _ _ _)
def rj76_l1 (n:Nat):A3:=@Nat.rec (fun _=>A3) (fun _ _ _ _=>none) (fun _ j76_l1=>b76_l1 (rj76_1) (rj76_2 j76_l1)) n
theorem sj76_l1 (H0:Hp) (n:Nat):L3 (rj76_l1 n) (j76_l1 H0):=by
 induction n with
 | zero=>exact fun _ _ _ _=>le_none _
 | succ n hj76_l1=>exact fun _ _ _ _=>le_eq (m76_l1 (sj76_1 H0) (sj76_2 H0 hj76_l1) _ _ _ _) (e76_l1 H0 _ _ _ _)
def bc76 (j76_l1:A3) (p0 p1:AV) (H:Hp):Res:=
 j76_l1 p0 p1 (.int .i64 0) H
theorem ec76 (p0 p1:AV) (H:Hp):c76 p0 p1 H=bc76 (j76_l1 H) p0 p1 H:=(callw_cxm (C:=cfg) (fn:=Tryz.f76) (c:=bodyOf Tryz.f76) (n:=18) [3,4,6] Tryz.func76 (by kernel_rfl) (by kernel_rfl) [p0,p1] (by kernel_rfl) H).trans (by kernel_rfl)
theorem mc76 {j76_l1 dj76_l1:A3} (hj76_l1:L3 j76_l1 dj76_l1):L2 (bc76 j76_l1) (bc76 dj76_l1):=fun _ _ _=>
 hj76_l1 _ _ _ _
def rc76:A2:=fun p0 p1 H=>bc76 (rj76_l1 100000) p0 p1 H
theorem sc76:L2 rc76 c76:=fun _ _ H=>le_eq (mc76 (sj76_l1 H 100000) _ _ _) (ec76 _ _ _)

def c55 (p0 p1:AV) (H:Hp):Res:=callw cfg 55 [p0,p1] H
def j55_3 (H0:Hp) (x1:AV) (H:Hp):Res:=CXf 55 50 (sub (bodyOf Tryz.f55) [1,1,1,1]) (retL cfg 50 55 Tryz.f55 H0) [(1,x1)] H
def j55_2 (H0:Hp) (x1 x2:AV) (H:Hp):Res:=CXf 55 50 (sub (bodyOf Tryz.f55) [1,1,1]) (retL cfg 50 55 Tryz.f55 H0) [(1,x1),(2,x2)] H
def k55_1 (H0:Hp):KL:=seqL (fun k al H=>CXf 55 50 (sub (bodyOf Tryz.f55) [1,1,1]) k (trimL (cfg.keep 55) (sub (bodyOf Tryz.f55) [1,1,1]) al) H) (retL cfg 50 55 Tryz.f55 H0)
theorem k55_1_tame (H0:Hp):Tame 50 (k55_1 H0):=tame_seq (C:=cfg) (kp:=cfg.keep 55) (sub (bodyOf Tryz.f55) [1,1,1]) (tame_ret 55 Tryz.f55 H0)
def j55_5 (H0:Hp) (x1 x2 x6:AV) (H:Hp):Res:=CXf 55 50 (sub (bodyOf Tryz.f55) [1,1,0,1,0,0,1,1]) (seqL (fun k al H=>LPf 55 50 (sub (bodyOf Tryz.f55) [1,1,0,1,0,0]) k (trimL (cfg.keep 55) (sub (bodyOf Tryz.f55) [1,1,0,1,0,0]) al) H) (blockL 0 (k55_1 H0))) [(1,x1),(2,x2),(6,x6)] H
def k55_2 (H0:Hp):KL:=seqL (fun k al H=>CXf 55 50 (sub (bodyOf Tryz.f55) [1,1,0,1,0,0,1,1]) k (trimL (cfg.keep 55) (sub (bodyOf Tryz.f55) [1,1,0,1,0,0,1,1]) al) H) (seqL (fun k al H=>LPf 55 50 (sub (bodyOf Tryz.f55) [1,1,0,1,0,0]) k (trimL (cfg.keep 55) (sub (bodyOf Tryz.f55) [1,1,0,1,0,0]) al) H) (blockL 0 (k55_1 H0)))
def j55_6 (H0:Hp) (x2 x6 x7:AV) (H:Hp):Res:=CXf 55 50 (sub (bodyOf Tryz.f55) [1,1,0,1,0,0,1,0,0,1,1]) (blockL 1 (k55_2 H0)) [(2,x2),(6,x6),(7,x7)] H
def j55_4 (H0:Hp) (x1 x2 x6:AV) (H:Hp):Res:=CXf 55 50 (sub (bodyOf Tryz.f55) [1,1,0,1,0,0,1]) (seqL (fun k al H=>LPf 55 50 (sub (bodyOf Tryz.f55) [1,1,0,1,0,0]) k (trimL (cfg.keep 55) (sub (bodyOf Tryz.f55) [1,1,0,1,0,0]) al) H) (blockL 0 (k55_1 H0))) [(1,x1),(2,x2),(6,x6)] H
def j55_l1 (H0:Hp) (x1 x2 x6:AV) (H:Hp):Res:=LPf 55 50 (sub (bodyOf Tryz.f55) [1,1,0,1,0,0]) (blockL 0 (k55_1 H0)) [(1,x1),(2,x2),(6,x6)] H
def j55_1 (H0:Hp) (x1 x2:AV) (H:Hp):Res:=CXf 55 50 (sub (bodyOf Tryz.f55) [1,1]) (retL cfg 50 55 Tryz.f55 H0) [(1,x1),(2,x2)] H
def b55_3 (x1:AV) (H:Hp):Res:=
 some ((.tuple [x1,(.bool true)]),H)
theorem e55_3 (H0:Hp) (x1:AV) (H:Hp):j55_3 H0 x1 H=b55_3 x1 H:=(CXM_eq [3,5,6,9,10,12] _ _ _ _).trans (by kernel_rfl)
theorem m55_3:L1 (b55_3) (b55_3):=fun _ _=>
 le_refl _
def b55_2 (j55_3:A1) (x1 x2:AV) (H:Hp):Res:=
 bnd (afield 0 x2) fun t41=>
 bnd (aload false 1 t41 H) fun t42=>
 bnd (ibin .eql t42 (.int .i64 6)) fun t43=>
 cnd t43
  (bnd (afield 7 x2) fun t45=>
  bnd (aload false 1 t45 H) fun t46=>
  bnd ((setElems 1 [(0,t46)] [(.int .i64 0)]).map (.vs 1 .clip)) fun t47=>
  bnd (aappEL false 1 8 x1 t47 H) fun r48=>
  j55_3 r48.1 r48.2)
  (j55_3 x1 H)
theorem e55_2 (H0:Hp) (x1 x2:AV) (H:Hp):j55_2 H0 x1 x2 H=b55_2 (j55_3 H0) x1 x2 H:=(CXM_eq [3,5,6,9,10,12] _ _ _ _).trans (by kernel_rfl)
theorem m55_2 {j55_3 dj55_3:A1} (hj55_3:L1 j55_3 dj55_3):L2 (b55_2 j55_3) (b55_2 dj55_3):=fun _ _ _=>
 bR fun _=>bR fun _=>bR fun _=>bK (bR fun _=>bR fun _=>bR fun _=>bR fun _=>hj55_3 _ _) (hj55_3 _ _)
def b55_5 (j55_l1:A3) (x1 x2 x6:AV) (H:Hp):Res:=
 bnd (ibin .add x6 (.int .i64 1)) fun t26=>
 j55_l1 x1 x2 t26 H
theorem e55_5 (H0:Hp) (x1 x2 x6:AV) (H:Hp):j55_5 H0 x1 x2 x6 H=b55_5 (j55_l1 H0) x1 x2 x6 H:=(CXM_eq [3,5,6,9,10,12] _ _ _ _).trans (by kernel_rfl)
theorem m55_5 {j55_l1 dj55_l1:A3} (hj55_l1:L3 j55_l1 dj55_l1):L3 (b55_5 j55_l1) (b55_5 dj55_l1):=fun _ _ _ _=>
 bR fun _=>hj55_l1 _ _ _ _
def b55_6 (j55_5:A3) (x2 x6 x7:AV) (H:Hp):Res:=
 j55_5 x7 x2 x6 H
theorem e55_6 (H0:Hp) (x2 x6 x7:AV) (H:Hp):j55_6 H0 x2 x6 x7 H=b55_6 (j55_5 H0) x2 x6 x7 H:=(CXM_eq [3,5,6,9,10,12] _ _ _ _).trans (by kernel_rfl)
theorem m55_6 {j55_5 dj55_5:A3} (hj55_5:L3 j55_5 dj55_5):L3 (b55_6 j55_5) (b55_6 dj55_5):=fun _ _ _ _=>
 hj55_5 _ _ _ _
def b55_4 (j55_6:A3) (cV:AV→List AV→Hp→Res) (x1 x2 x6:AV) (H:Hp):Res:=
 bnd (afield 8 x2) fun t28=>
 bnd (aload false 1 t28 H) fun t29=>
 bnd (aindexS 9 t29 x6) fun t31=>
 bnd (aload true 9 t31 H) fun t32=>
 bnd (cV (.fn (.func 55) [] []) [t32,x1] H) fun r34=>
 bnd (aext r34.1 0) fun t35=>
 bnd (aext r34.1 1) fun t36=>
 bnd (aun .not t36) fun t38=>
 cnd t38
  (some ((.tuple [x1,(.bool false)]),r34.2))
  (j55_6 x2 x6 t35 r34.2)
theorem e55_4 (H0:Hp) (x1 x2 x6:AV) (H:Hp):j55_4 H0 x1 x2 x6 H=b55_4 (j55_6 H0) (acall cfg (callw cfg)) x1 x2 x6 H:=(CXM_eq [3,5,6,9,10,12] _ _ _ _).trans (by kernel_rfl)
theorem m55_4 {j55_6 dj55_6:A3} (hj55_6:L3 j55_6 dj55_6) {cV dcV:AV→List AV→Hp→Res} (hcV:LV cV dcV):L3 (b55_4 j55_6 cV) (b55_4 dj55_6 dcV):=fun _ _ _ _=>
 bR fun _=>bR fun _=>bR fun _=>bR fun _=>bC (hcV _ _ _) fun _=>bR fun _=>bR fun _=>bR fun _=>bK (le_refl _) (hj55_6 _ _ _ _)
def b55_l1 (j55_2:A2) (j55_4:A3) (x1 x2 x6:AV) (H:Hp):Res:=
 bnd (afield 8 x2) fun t21=>
 bnd (aload false 1 t21 H) fun t22=>
 bnd (alenD (.slice 41) t22) fun t23=>
 bnd (ibin .lss x6 t23) fun t24=>
 cnd t24
  (j55_4 x1 x2 x6 H)
  (j55_2 x1 x2 H)
theorem e55_l1 (H0:Hp) (x1 x2 x6:AV) (H:Hp):j55_l1 H0 x1 x2 x6 H=b55_l1 (j55_2 H0) (j55_4 H0) x1 x2 x6 H:=(LPL_eqm (C:=cfg) [3,5,6,9,10,12] (tame_block 0 (k55_1_tame H0)) _ _).trans (by kernel_rfl)
theorem m55_l1 {j55_2 dj55_2:A2} (hj55_2:L2 j55_2 dj55_2) {j55_4 dj55_4:A3} (hj55_4:L3 j55_4 dj55_4):L3 (b55_l1 j55_2 j55_4) (b55_l1 dj55_2 dj55_4):=fun _ _ _ _=>
 bR fun _=>bR fun _=>bR fun _=>bR fun _=>bK (hj55_4 _ _ _ _) (hj55_2 _ _ _)
def b55_1 (j55_l1:A3) (x1 x2:AV) (H:Hp):Res:=
 j55_l1 x1 x2 (.int .i64 0) H
theorem e55_1 (H0:Hp) (x1 x2:AV) (H:Hp):j55_1 H0 x1 x2 H=b55_1 (j55_l1 H0) x1 x2 H:=(CXM_eq [3,5,6,9,10,12] _ _ _ _).trans (by kernel_rfl)
theorem m55_1 {j55_l1 dj55_l1:A3} (hj55_l1:L3 j55_l1 dj55_l1):L2 (b55_1 j55_l1) (b55_1 dj55_l1):=fun _ _ _=>
 hj55_l1 _ _ _ _
def rj55_3 (gV:AV→List AV→Hp→Res):A1:=b55_3
theorem sj55_3 (H0:Hp) {gV:AV→List AV→Hp→Res} (hV:LV gV (acall cfg (callw cfg))):L1 (rj55_3 gV) (j55_3 H0):=fun _ _=>le_eq (m55_3 _ _) (e55_3 H0 _ _)
def rj55_2 (gV:AV→List AV→Hp→Res):A2:=b55_2 (rj55_3 gV)
theorem sj55_2 (H0:Hp) {gV:AV→List AV→Hp→Res} (hV:LV gV (acall cfg (callw cfg))):L2 (rj55_2 gV) (j55_2 H0):=fun _ _ _=>le_eq (m55_2 (sj55_3 H0 hV) _ _ _) (e55_2 H0 _ _ _)
def rj55_5 (gV:AV→List AV→Hp→Res) (j55_l1:A3):A3:=b55_5 j55_l1
theorem sj55_5 (H0:Hp) {gV:AV→List AV→Hp→Res} (hV:LV gV (acall cfg (callw cfg))) {yj55_l1:A3} (hj55_l1:L3 yj55_l1 (j55_l1 H0)):L3 (rj55_5 gV yj55_l1) (j55_5 H0):=fun _ _ _ _=>le_eq (m55_5 hj55_l1 _ _ _ _) (e55_5 H0 _ _ _ _)
def rj55_6 (gV:AV→List AV→Hp→Res) (j55_l1:A3):A3:=b55_6 (rj55_5 gV j55_l1)
theorem sj55_6 (H0:Hp) {gV:AV→List AV→Hp→Res} (hV:LV gV (acall cfg (callw cfg))) {yj55_l1:A3} (hj55_l1:L3 yj55_l1 (j55_l1 H0)):L3 (rj55_6 gV yj55_l1) (j55_6 H0):=fun _ _ _ _=>le_eq (m55_6 (sj55_5 H0 hV hj55_l1) _ _ _ _) (e55_6 H0 _ _ _ _)
def rj55_4 (gV:AV→List AV→Hp→Res) (j55_l1:A3):A3:=b55_4 (rj55_6 gV j55_l1) gV
theorem sj55_4 (H0:Hp) {gV:AV→List AV→Hp→Res} (hV:LV gV (acall cfg (callw cfg))) {yj55_l1:A3} (hj55_l1:L3 yj55_l1 (j55_l1 H0)):L3 (rj55_4 gV yj55_l1) (j55_4 H0):=fun _ _ _ _=>le_eq (m55_4 (sj55_6 H0 hV hj55_l1) hV _ _ _ _) (e55_4 H0 _ _ _ _)
def rj55_l1 (gV:AV→List AV→Hp→Res) (n:Nat):A3:=@Nat.rec (fun _=>A3) (fun _ _ _ _=>none) (fun _ j55_l1=>b55_l1 (rj55_2 gV) (rj55_4 gV j55_l1)) n
theorem sj55_l1 (H0:Hp) {gV:AV→List AV→Hp→Res} (hV:LV gV (acall cfg (callw cfg))) (n:Nat):L3 (rj55_l1 gV n) (j55_l1 H0):=by
 induction n with
 | zero=>exact fun _ _ _ _=>le_none _
 | succ n hj55_l1=>exact fun _ _ _ _=>le_eq (m55_l1 (sj55_2 H0 hV) (sj55_4 H0 hV hj55_l1) _ _ _ _) (e55_l1 H0 _ _ _ _)
def rj55_1 (gV:AV→List AV→Hp→Res):A2:=b55_1 (rj55_l1 gV 100000)
theorem sj55_1 (H0:Hp) {gV:AV→List AV→Hp→Res} (hV:LV gV (acall cfg (callw cfg))):L2 (rj55_1 gV) (j55_1 H0):=fun _ _ _=>le_eq (m55_1 (sj55_l1 H0 hV 100000) _ _ _) (e55_1 H0 _ _ _)
def bc55 (c76:A2) (j55_1:A2) (p0 p1:AV) (H:Hp):Res:=
 bnd (abox p0 H) fun r2=>
 bnd (afield 0 r2.1) fun t9=>
 bnd (aload false 1 t9 r2.2) fun t10=>
 bnd (ibin .eql t10 (.int .i64 9)) fun t11=>
 bnd (gdv t11 true (.tuple []) (some p1)) fun t13=>
 bnd (gdv t11 true (.tuple []) (afield 7 r2.1)) fun t14=>
 bnd (gdv t11 true (.tuple []) (aload false 1 t14 r2.2)) fun t15=>
 bnd (gdv t11 true ((.tuple []),r2.2) (c76 t13 t15 r2.2)) fun r16=>
 bnd (gdv t11 true (.tuple []) (aun .not r16.1)) fun t17=>
 bnd (apick t11 t17 (.bool false)) fun t18=>
 cnd t18
  (some ((.tuple [p1,(.bool false)]),r16.2))
  (j55_1 p1 r2.1 r16.2)
theorem ec55 (p0 p1:AV) (H:Hp):c55 p0 p1 H=bc55 c76 (j55_1 H) p0 p1 H:=(callw_cxm (C:=cfg) (fn:=Tryz.f55) (c:=bodyOf Tryz.f55) (n:=50) [3,5,6,9,10,12] Tryz.func55 (by kernel_rfl) (by kernel_rfl) [p0,p1] (by kernel_rfl) H).trans (by kernel_rfl)
theorem mc55 {c76 dc76:A2} (hc76:L2 c76 dc76) {j55_1 dj55_1:A2} (hj55_1:L2 j55_1 dj55_1):L2 (bc55 c76 j55_1) (bc55 dc76 dj55_1):=fun _ _ _=>
 bR fun _=>bR fun _=>bR fun _=>bR fun _=>bR fun _=>bR fun _=>bR fun _=>bG (hc76 _ _ _) fun _=>bR fun _=>bR fun _=>bK (le_refl _) (hj55_1 _ _ _)
def rc55 (gV:AV→List AV→Hp→Res):A2:=fun p0 p1 H=>bc55 rc76 (rj55_1 gV) p0 p1 H
theorem sc55 {gV:AV→List AV→Hp→Res} (hV:LV gV (acall cfg (callw cfg))):L2 (rc55 gV) c55:=fun _ _ H=>le_eq (mc55 sc76 (sj55_1 H hV) _ _ _) (ec55 _ _ _)

def c56 (p0:AV) (H:Hp):Res:=callw cfg 56 [p0] H
def j56_1 (H0:Hp) (x3:AV) (H:Hp):Res:=CXf 56 21 (sub (bodyOf Tryz.f56) [1,1,1]) (retL cfg 21 56 Tryz.f56 H0) [(3,x3)] H
def k56_1 (H0:Hp):KL:=seqL (fun k al H=>CXf 56 21 (sub (bodyOf Tryz.f56) [1,1,1]) k (trimL (cfg.keep 56) (sub (bodyOf Tryz.f56) [1,1,1]) al) H) (retL cfg 21 56 Tryz.f56 H0)
theorem k56_1_tame (H0:Hp):Tame 21 (k56_1 H0):=tame_seq (C:=cfg) (kp:=cfg.keep 56) (sub (bodyOf Tryz.f56) [1,1,1]) (tame_ret 56 Tryz.f56 H0)
def j56_3 (H0:Hp) (x1 x3 x4:AV) (H:Hp):Res:=CXf 56 21 (sub (bodyOf Tryz.f56) [1,1,0,1,0,0,1,1]) (seqL (fun k al H=>LPf 56 21 (sub (bodyOf Tryz.f56) [1,1,0,1,0,0]) k (trimL (cfg.keep 56) (sub (bodyOf Tryz.f56) [1,1,0,1,0,0]) al) H) (blockL 0 (k56_1 H0))) [(1,x1),(3,x3),(4,x4)] H
def j56_2 (H0:Hp) (x1 x3 x4:AV) (H:Hp):Res:=CXf 56 21 (sub (bodyOf Tryz.f56) [1,1,0,1,0,0,1]) (seqL (fun k al H=>LPf 56 21 (sub (bodyOf Tryz.f56) [1,1,0,1,0,0]) k (trimL (cfg.keep 56) (sub (bodyOf Tryz.f56) [1,1,0,1,0,0]) al) H) (blockL 0 (k56_1 H0))) [(1,x1),(3,x3),(4,x4)] H
def j56_l1 (H0:Hp) (x1 x3 x4:AV) (H:Hp):Res:=LPf 56 21 (sub (bodyOf Tryz.f56) [1,1,0,1,0,0]) (blockL 0 (k56_1 H0)) [(1,x1),(3,x3),(4,x4)] H
def b56_1 (x3:AV) (H:Hp):Res:=
 some (x3,H)
theorem e56_1 (H0:Hp) (x3:AV) (H:Hp):j56_1 H0 x3 H=b56_1 x3 H:=(CXM_eq [4,5,6] _ _ _ _).trans (by kernel_rfl)
theorem m56_1:L1 (b56_1) (b56_1):=fun _ _=>
 le_refl _
def b56_3 (j56_l1:A3) (x1 x3 x4:AV) (H:Hp):Res:=
 bnd (ibin .add x4 (.int .i64 1)) fun t11=>
 j56_l1 x1 x3 t11 H
theorem e56_3 (H0:Hp) (x1 x3 x4:AV) (H:Hp):j56_3 H0 x1 x3 x4 H=b56_3 (j56_l1 H0) x1 x3 x4 H:=(CXM_eq [4,5,6] _ _ _ _).trans (by kernel_rfl)
theorem m56_3 {j56_l1 dj56_l1:A3} (hj56_l1:L3 j56_l1 dj56_l1):L3 (b56_3 j56_l1) (b56_3 dj56_l1):=fun _ _ _ _=>
 bR fun _=>hj56_l1 _ _ _ _
def b56_2 (j56_3:A3) (cV:AV→List AV→Hp→Res) (x1 x3 x4:AV) (H:Hp):Res:=
 bnd (afield 8 x1) fun t13=>
 bnd (aload false 1 t13 H) fun t14=>
 bnd (aindexS 9 t14 x4) fun t16=>
 bnd (aload true 9 t16 H) fun t17=>
 bnd (cV (.fn (.func 56) [] []) [t17] H) fun r18=>
 bnd (ibin .add x3 r18.1) fun t19=>
 j56_3 x1 t19 x4 r18.2
theorem e56_2 (H0:Hp) (x1 x3 x4:AV) (H:Hp):j56_2 H0 x1 x3 x4 H=b56_2 (j56_3 H0) (acall cfg (callw cfg)) x1 x3 x4 H:=(CXM_eq [4,5,6] _ _ _ _).trans (by kernel_rfl)
theorem m56_2 {j56_3 dj56_3:A3} (hj56_3:L3 j56_3 dj56_3) {cV dcV:AV→List AV→Hp→Res} (hcV:LV cV dcV):L3 (b56_2 j56_3 cV) (b56_2 dj56_3 dcV):=fun _ _ _ _=>
 bR fun _=>bR fun _=>bR fun _=>bR fun _=>bC (hcV _ _ _) fun _=>bR fun _=>hj56_3 _ _ _ _
def b56_l1 (j56_1:A1) (j56_2:A3) (x1 x3 x4:AV) (H:Hp):Res:=
 bnd (afield 8 x1) fun t6=>
 bnd (aload false 1 t6 H) fun t7=>
 bnd (alenD (.slice 41) t7) fun t8=>
 bnd (ibin .lss x4 t8) fun t9=>
 cnd t9
  (j56_2 x1 x3 x4 H)
  (j56_1 x3 H)
theorem e56_l1 (H0:Hp) (x1 x3 x4:AV) (H:Hp):j56_l1 H0 x1 x3 x4 H=b56_l1 (j56_1 H0) (j56_2 H0) x1 x3 x4 H:=(LPL_eqm (C:=cfg) [4,5,6] (tame_block 0 (k56_1_tame H0)) _ _).trans (by kernel_rfl)
theorem m56_l1 {j56_1 dj56_1:A1} (hj56_1:L1 j56_1 dj56_1) {j56_2 dj56_2:A3} (hj56_2:L3 j56_2 dj56_2):L3 (b56_l1 j56_1 j56_2) (b56_l1 dj56_1 dj56_2):=fun _ _ _ _=>
 bR fun _=>bR fun _=>bR fun _=>bR fun _=>bK (hj56_2 _ _ _ _) (hj56_1 _ _)
def rj56_1 (gV:AV→List AV→Hp→Res):A1:=b56_1
theorem sj56_1 (H0:Hp) {gV:AV→List AV→Hp→Res} (hV:LV gV (acall cfg (callw cfg))):L1 (rj56_1 gV) (j56_1 H0):=fun _ _=>le_eq (m56_1 _ _) (e56_1 H0 _ _)
def rj56_3 (gV:AV→List AV→Hp→Res) (j56_l1:A3):A3:=b56_3 j56_l1
theorem sj56_3 (H0:Hp) {gV:AV→List AV→Hp→Res} (hV:LV gV (acall cfg (callw cfg))) {yj56_l1:A3} (hj56_l1:L3 yj56_l1 (j56_l1 H0)):L3 (rj56_3 gV yj56_l1) (j56_3 H0):=fun _ _ _ _=>le_eq (m56_3 hj56_l1 _ _ _ _) (e56_3 H0 _ _ _ _)
def rj56_2 (gV:AV→List AV→Hp→Res) (j56_l1:A3):A3:=b56_2 (rj56_3 gV j56_l1) gV
theorem sj56_2 (H0:Hp) {gV:AV→List AV→Hp→Res} (hV:LV gV (acall cfg (callw cfg))) {yj56_l1:A3} (hj56_l1:L3 yj56_l1 (j56_l1 H0)):L3 (rj56_2 gV yj56_l1) (j56_2 H0):=fun _ _ _ _=>le_eq (m56_2 (sj56_3 H0 hV hj56_l1) hV _ _ _ _) (e56_2 H0 _ _ _ _)
def rj56_l1 (gV:AV→List AV→Hp→Res) (n:Nat):A3:=@Nat.rec (fun _=>A3) (fun _ _ _ _=>none) (fun _ j56_l1=>b56_l1 (rj56_1 gV) (rj56_2 gV j56_l1)) n
theorem sj56_l1 (H0:Hp) {gV:AV→List AV→Hp→Res} (hV:LV gV (acall cfg (callw cfg))) (n:Nat):L3 (rj56_l1 gV n) (j56_l1 H0):=by
 induction n with
 | zero=>exact fun _ _ _ _=>le_none _
 | succ n hj56_l1=>exact fun _ _ _ _=>le_eq (m56_l1 (sj56_1 H0 hV) (sj56_2 H0 hV hj56_l1) _ _ _ _) (e56_l1 H0 _ _ _ _)
def bc56 (j56_l1:A3) (p0:AV) (H:Hp):Res:=
 bnd (abox p0 H) fun r1=>
 j56_l1 r1.1 (.int .i64 1) (.int .i64 0) r1.2
theorem ec56 (p0:AV) (H:Hp):c56 p0 H=bc56 (j56_l1 H) p0 H:=(callw_cxm (C:=cfg) (fn:=Tryz.f56) (c:=bodyOf Tryz.f56) (n:=21) [4,5,6] Tryz.func56 (by kernel_rfl) (by kernel_rfl) [p0] (by kernel_rfl) H).trans (by kernel_rfl)
theorem mc56 {j56_l1 dj56_l1:A3} (hj56_l1:L3 j56_l1 dj56_l1):L1 (bc56 j56_l1) (bc56 dj56_l1):=fun _ _=>
 bR fun _=>hj56_l1 _ _ _ _
def rc56 (gV:AV→List AV→Hp→Res):A1:=fun p0 H=>bc56 (rj56_l1 gV 100000) p0 H
theorem sc56 {gV:AV→List AV→Hp→Res} (hV:LV gV (acall cfg (callw cfg))):L1 (rc56 gV) c56:=fun _ H=>le_eq (mc56 (sj56_l1 H hV 100000) _ _) (ec56 _ _)

def c57 (p0:AV) (H:Hp):Res:=callw cfg 57 [p0] H
def j57_1 (H0:Hp) (x3:AV) (H:Hp):Res:=CXf 57 25 (sub (bodyOf Tryz.f57) [1,1,1]) (retL cfg 25 57 Tryz.f57 H0) [(3,x3)] H
def k57_1 (H0:Hp):KL:=seqL (fun k al H=>CXf 57 25 (sub (bodyOf Tryz.f57) [1,1,1]) k (trimL (cfg.keep 57) (sub (bodyOf Tryz.f57) [1,1,1]) al) H) (retL cfg 25 57 Tryz.f57 H0)
theorem k57_1_tame (H0:Hp):Tame 25 (k57_1 H0):=tame_seq (C:=cfg) (kp:=cfg.keep 57) (sub (bodyOf Tryz.f57) [1,1,1]) (tame_ret 57 Tryz.f57 H0)
def j57_3 (H0:Hp) (x1 x3 x4:AV) (H:Hp):Res:=CXf 57 25 (sub (bodyOf Tryz.f57) [1,1,0,1,0,0,1,1]) (seqL (fun k al H=>LPf 57 25 (sub (bodyOf Tryz.f57) [1,1,0,1,0,0]) k (trimL (cfg.keep 57) (sub (bodyOf Tryz.f57) [1,1,0,1,0,0]) al) H) (blockL 0 (k57_1 H0))) [(1,x1),(3,x3),(4,x4)] H
def j57_2 (H0:Hp) (x1 x3 x4:AV) (H:Hp):Res:=CXf 57 25 (sub (bodyOf Tryz.f57) [1,1,0,1,0,0,1]) (seqL (fun k al H=>LPf 57 25 (sub (bodyOf Tryz.f57) [1,1,0,1,0,0]) k (trimL (cfg.keep 57) (sub (bodyOf Tryz.f57) [1,1,0,1,0,0]) al) H) (blockL 0 (k57_1 H0))) [(1,x1),(3,x3),(4,x4)] H
def j57_l1 (H0:Hp) (x1 x3 x4:AV) (H:Hp):Res:=LPf 57 25 (sub (bodyOf Tryz.f57) [1,1,0,1,0,0]) (blockL 0 (k57_1 H0)) [(1,x1),(3,x3),(4,x4)] H
def b57_1 (x3:AV) (H:Hp):Res:=
 bnd (ibin .add x3 (.int .i64 1)) fun t24=>
 some (t24,H)
theorem e57_1 (H0:Hp) (x3:AV) (H:Hp):j57_1 H0 x3 H=b57_1 x3 H:=(CXM_eq [4,5,8] _ _ _ _).trans (by kernel_rfl)
theorem m57_1:L1 (b57_1) (b57_1):=fun _ _=>
 bR fun _=>le_refl _
def b57_3 (j57_l1:A3) (x1 x3 x4:AV) (H:Hp):Res:=
 bnd (ibin .add x4 (.int .i64 1)) fun t12=>
 j57_l1 x1 x3 t12 H
theorem e57_3 (H0:Hp) (x1 x3 x4:AV) (H:Hp):j57_3 H0 x1 x3 x4 H=b57_3 (j57_l1 H0) x1 x3 x4 H:=(CXM_eq [4,5,8] _ _ _ _).trans (by kernel_rfl)
theorem m57_3 {j57_l1 dj57_l1:A3} (hj57_l1:L3 j57_l1 dj57_l1):L3 (b57_3 j57_l1) (b57_3 dj57_l1):=fun _ _ _ _=>
 bR fun _=>hj57_l1 _ _ _ _
def b57_2 (j57_3:A3) (cV:AV→List AV→Hp→Res) (x1 x3 x4:AV) (H:Hp):Res:=
 bnd (afield 8 x1) fun t13=>
 bnd (aload false 1 t13 H) fun t14=>
 bnd (aindexS 9 t14 x4) fun t16=>
 bnd (aload true 9 t16 H) fun t17=>
 bnd (cV (.fn (.func 57) [] []) [t17] H) fun r18=>
 bnd (ibin .gtr r18.1 x3) fun t21=>
 cnd t21
  (j57_3 x1 r18.1 x4 r18.2)
  (j57_3 x1 x3 x4 r18.2)
theorem e57_2 (H0:Hp) (x1 x3 x4:AV) (H:Hp):j57_2 H0 x1 x3 x4 H=b57_2 (j57_3 H0) (acall cfg (callw cfg)) x1 x3 x4 H:=(CXM_eq [4,5,8] _ _ _ _).trans (by kernel_rfl)
theorem m57_2 {j57_3 dj57_3:A3} (hj57_3:L3 j57_3 dj57_3) {cV dcV:AV→List AV→Hp→Res} (hcV:LV cV dcV):L3 (b57_2 j57_3 cV) (b57_2 dj57_3 dcV):=fun _ _ _ _=>
 bR fun _=>bR fun _=>bR fun _=>bR fun _=>bC (hcV _ _ _) fun _=>bR fun _=>bK (hj57_3 _ _ _ _) (hj57_3 _ _ _ _)
def b57_l1 (j57_1:A1) (j57_2:A3) (x1 x3 x4:AV) (H:Hp):Res:=
 bnd (afield 8 x1) fun t7=>
 bnd (aload false 1 t7 H) fun t8=>
 bnd (alenD (.slice 41) t8) fun t9=>
 bnd (ibin .lss x4 t9) fun t10=>
 cnd t10
  (j57_2 x1 x3 x4 H)
  (j57_1 x3 H)
theorem e57_l1 (H0:Hp) (x1 x3 x4:AV) (H:Hp):j57_l1 H0 x1 x3 x4 H=b57_l1 (j57_1 H0) (j57_2 H0) x1 x3 x4 H:=(LPL_eqm (C:=cfg) [4,5,8] (tame_block 0 (k57_1_tame H0)) _ _).trans (by kernel_rfl)
theorem m57_l1 {j57_1 dj57_1:A1} (hj57_1:L1 j57_1 dj57_1) {j57_2 dj57_2:A3} (hj57_2:L3 j57_2 dj57_2):L3 (b57_l1 j57_1 j57_2) (b57_l1 dj57_1 dj57_2):=fun _ _ _ _=>
 bR fun _=>bR fun _=>bR fun _=>bR fun _=>bK (hj57_2 _ _ _ _) (hj57_1 _ _)
def rj57_1 (gV:AV→List AV→Hp→Res):A1:=b57_1
theorem sj57_1 (H0:Hp) {gV:AV→List AV→Hp→Res} (hV:LV gV (acall cfg (callw cfg))):L1 (rj57_1 gV) (j57_1 H0):=fun _ _=>le_eq (m57_1 _ _) (e57_1 H0 _ _)
def rj57_3 (gV:AV→List AV→Hp→Res) (j57_l1:A3):A3:=b57_3 j57_l1
theorem sj57_3 (H0:Hp) {gV:AV→List AV→Hp→Res} (hV:LV gV (acall cfg (callw cfg))) {yj57_l1:A3} (hj57_l1:L3 yj57_l1 (j57_l1 H0)):L3 (rj57_3 gV yj57_l1) (j57_3 H0):=fun _ _ _ _=>le_eq (m57_3 hj57_l1 _ _ _ _) (e57_3 H0 _ _ _ _)
def rj57_2 (gV:AV→List AV→Hp→Res) (j57_l1:A3):A3:=b57_2 (rj57_3 gV j57_l1) gV
theorem sj57_2 (H0:Hp) {gV:AV→List AV→Hp→Res} (hV:LV gV (acall cfg (callw cfg))) {yj57_l1:A3} (hj57_l1:L3 yj57_l1 (j57_l1 H0)):L3 (rj57_2 gV yj57_l1) (j57_2 H0):=fun _ _ _ _=>le_eq (m57_2 (sj57_3 H0 hV hj57_l1) hV _ _ _ _) (e57_2 H0 _ _ _ _)
def rj57_l1 (gV:AV→List AV→Hp→Res) (n:Nat):A3:=@Nat.rec (fun _=>A3) (fun _ _ _ _=>none) (fun _ j57_l1=>b57_l1 (rj57_1 gV) (rj57_2 gV j57_l1)) n
theorem sj57_l1 (H0:Hp) {gV:AV→List AV→Hp→Res} (hV:LV gV (acall cfg (callw cfg))) (n:Nat):L3 (rj57_l1 gV n) (j57_l1 H0):=by
 induction n with
 | zero=>exact fun _ _ _ _=>le_none _
 | succ n hj57_l1=>exact fun _ _ _ _=>le_eq (m57_l1 (sj57_1 H0 hV) (sj57_2 H0 hV hj57_l1) _ _ _ _) (e57_l1 H0 _ _ _ _)
def bc57 (j57_l1:A3) (p0:AV) (H:Hp):Res:=
 bnd (abox p0 H) fun r1=>
 j57_l1 r1.1 (.int .i64 0) (.int .i64 0) r1.2
theorem ec57 (p0:AV) (H:Hp):c57 p0 H=bc57 (j57_l1 H) p0 H:=(callw_cxm (C:=cfg) (fn:=Tryz.f57) (c:=bodyOf Tryz.f57) (n:=25) [4,5,8] Tryz.func57 (by kernel_rfl) (by kernel_rfl) [p0] (by kernel_rfl) H).trans (by kernel_rfl)
theorem mc57 {j57_l1 dj57_l1:A3} (hj57_l1:L3 j57_l1 dj57_l1):L1 (bc57 j57_l1) (bc57 dj57_l1):=fun _ _=>
 bR fun _=>hj57_l1 _ _ _ _
def rc57 (gV:AV→List AV→Hp→Res):A1:=fun p0 H=>bc57 (rj57_l1 gV 100000) p0 H
theorem sc57 {gV:AV→List AV→Hp→Res} (hV:LV gV (acall cfg (callw cfg))):L1 (rc57 gV) c57:=fun _ H=>le_eq (mc57 (sj57_l1 H hV 100000) _ _) (ec57 _ _)

def c77 (p0:AV) (H:Hp):Res:=callw cfg 77 [p0] H
def j77_1 (H0:Hp) (x0:AV) (H:Hp):Res:=CXf 77 6 (sub (bodyOf Tryz.f77) [1,1]) (retL cfg 6 77 Tryz.f77 H0) [(0,x0)] H
def b77_1 (x0:AV) (H:Hp):Res:=
 some (x0,H)
theorem e77_1 (H0:Hp) (x0:AV) (H:Hp):j77_1 H0 x0 H=b77_1 x0 H:=(CXM_eq [3] _ _ _ _).trans (by kernel_rfl)
theorem m77_1:L1 (b77_1) (b77_1):=fun _ _=>
 le_refl _
def rj77_1:A1:=b77_1
theorem sj77_1 (H0:Hp):L1 (rj77_1) (j77_1 H0):=fun _ _=>le_eq (m77_1 _ _) (e77_1 H0 _ _)
def bc77 (j77_1:A1) (p0:AV) (H:Hp):Res:=
 bnd (ibin .gtr p0 (.int .i64 4096)) fun t4=>
 cnd t4
  (some ((.int .i64 4097),H))
  (j77_1 p0 H)
theorem ec77 (p0:AV) (H:Hp):c77 p0 H=bc77 (j77_1 H) p0 H:=(callw_cxm (C:=cfg) (fn:=Tryz.f77) (c:=bodyOf Tryz.f77) (n:=6) [3] Tryz.func77 (by kernel_rfl) (by kernel_rfl) [p0] (by kernel_rfl) H).trans (by kernel_rfl)
theorem mc77 {j77_1 dj77_1:A1} (hj77_1:L1 j77_1 dj77_1):L1 (bc77 j77_1) (bc77 dj77_1):=fun _ _=>
 bR fun _=>bK (le_refl _) (hj77_1 _ _)
def rc77:A1:=fun p0 H=>bc77 (rj77_1) p0 H
theorem sc77:L1 rc77 c77:=fun _ H=>le_eq (mc77 (sj77_1 H) _ _) (ec77 _ _)

def c78 (p0:AV) (H:Hp):Res:=callw cfg 78 [p0] H
def bc78 (p0:AV) (H:Hp):Res:=
 bnd (abox p0 H) fun r1=>
 bnd (afield 5 r1.1) fun t3=>
 bnd (aload false 1 t3 r1.2) fun t4=>
 bnd (ibin .eql t4 (.int .i64 0)) fun t5=>
 bnd (gdv t5 true (.tuple []) (afield 6 r1.1)) fun t7=>
 bnd (gdv t5 true (.tuple []) (aload false 1 t7 r1.2)) fun t8=>
 bnd (gdv t5 true (.tuple []) (ibin .eql t8 (.int .i64 1))) fun t9=>
 bnd (apick t5 t9 (.bool false)) fun t10=>
 bnd (gdv t10 false (.tuple []) (afield 5 r1.1)) fun t12=>
 bnd (gdv t10 false (.tuple []) (aload false 1 t12 r1.2)) fun t13=>
 bnd (gdv t10 false (.tuple []) (ibin .leq t13 (.int .i64 1))) fun t14=>
 bnd (gdv t10 false (.tuple []) (some t14)) fun t15=>
 bnd (gdv t15 true (.tuple []) (afield 6 r1.1)) fun t16=>
 bnd (gdv t15 true (.tuple []) (aload false 1 t16 r1.2)) fun t17=>
 bnd (gdv t15 true (.tuple []) (ibin .eql t17 (.int .i64 (-1)))) fun t18=>
 bnd (gdv t10 false (.tuple []) (apick t15 t18 (.bool false))) fun t19=>
 bnd (apick t10 (.bool true) t19) fun t20=>
 some (t20,r1.2)
theorem ec78 (p0:AV) (H:Hp):c78 p0 H=bc78 p0 H:=(callw_cxm (C:=cfg) (fn:=Tryz.f78) (c:=bodyOf Tryz.f78) (n:=21) [] Tryz.func78 (by kernel_rfl) (by kernel_rfl) [p0] (by kernel_rfl) H).trans (by kernel_rfl)
theorem mc78:L1 (bc78) (bc78):=fun _ _=>
 bR fun _=>bR fun _=>bR fun _=>bR fun _=>bR fun _=>bR fun _=>bR fun _=>bR fun _=>bR fun _=>bR fun _=>bR fun _=>bR fun _=>bR fun _=>bR fun _=>bR fun _=>bR fun _=>bR fun _=>le_refl _
def rc78:A1:=fun p0 H=>bc78 p0 H
theorem sc78:L1 rc78 c78:=fun _ H=>le_eq (mc78 _ _) (ec78 _ _)

def c58 (p0:AV) (H:Hp):Res:=callw cfg 58 [p0] H
def j58_5 (H0:Hp) (x1 x3:AV) (H:Hp):Res:=CXf 58 67 (sub (bodyOf Tryz.f58) [1,1,1,1,1,1,1]) (retL cfg 67 58 Tryz.f58 H0) [(1,x1),(3,x3)] H
def j58_4 (H0:Hp) (x1 x3:AV) (H:Hp):Res:=CXf 58 67 (sub (bodyOf Tryz.f58) [1,1,1,1,1,1]) (retL cfg 67 58 Tryz.f58 H0) [(1,x1),(3,x3)] H
def j58_3 (H0:Hp) (x1 x3:AV) (H:Hp):Res:=CXf 58 67 (sub (bodyOf Tryz.f58) [1,1,1,1,1]) (retL cfg 67 58 Tryz.f58 H0) [(1,x1),(3,x3)] H
def j58_2 (H0:Hp) (x1 x3:AV) (H:Hp):Res:=CXf 58 67 (sub (bodyOf Tryz.f58) [1,1,1,1]) (retL cfg 67 58 Tryz.f58 H0) [(1,x1),(3,x3)] H
def j58_1 (H0:Hp) (x1 x3:AV) (H:Hp):Res:=CXf 58 67 (sub (bodyOf Tryz.f58) [1,1,1]) (retL cfg 67 58 Tryz.f58 H0) [(1,x1),(3,x3)] H
def k58_1 (H0:Hp):KL:=seqL (fun k al H=>CXf 58 67 (sub (bodyOf Tryz.f58) [1,1,1]) k (trimL (cfg.keep 58) (sub (bodyOf Tryz.f58) [1,1,1]) al) H) (retL cfg 67 58 Tryz.f58 H0)
theorem k58_1_tame (H0:Hp):Tame 67 (k58_1 H0):=tame_seq (C:=cfg) (kp:=cfg.keep 58) (sub (bodyOf Tryz.f58) [1,1,1]) (tame_ret 58 Tryz.f58 H0)
def j58_7 (H0:Hp) (x1 x3 x4:AV) (H:Hp):Res:=CXf 58 67 (sub (bodyOf Tryz.f58) [1,1,0,1,0,0,1,1]) (seqL (fun k al H=>LPf 58 67 (sub (bodyOf Tryz.f58) [1,1,0,1,0,0]) k (trimL (cfg.keep 58) (sub (bodyOf Tryz.f58) [1,1,0,1,0,0]) al) H) (blockL 0 (k58_1 H0))) [(1,x1),(3,x3),(4,x4)] H
def j58_6 (H0:Hp) (x1 x3 x4:AV) (H:Hp):Res:=CXf 58 67 (sub (bodyOf Tryz.f58) [1,1,0,1,0,0,1]) (seqL (fun k al H=>LPf 58 67 (sub (bodyOf Tryz.f58) [1,1,0,1,0,0]) k (trimL (cfg.keep 58) (sub (bodyOf Tryz.f58) [1,1,0,1,0,0]) al) H) (blockL 0 (k58_1 H0))) [(1,x1),(3,x3),(4,x4)] H
def j58_l1 (H0:Hp) (x1 x3 x4:AV) (H:Hp):Res:=LPf 58 67 (sub (bodyOf Tryz.f58) [1,1,0,1,0,0]) (blockL 0 (k58_1 H0)) [(1,x1),(3,x3),(4,x4)] H
def b58_5 (c77:A1) (x1 x3:AV) (H:Hp):Res:=
 bnd (afield 5 x1) fun t52=>
 bnd (aload false 1 t52 H) fun t53=>
 bnd (ibin .mul t53 x3) fun t55=>
 bnd (afield 6 x1) fun t56=>
 bnd (aload false 1 t56 H) fun t57=>
 bnd (afield 5 x1) fun t58=>
 bnd (aload false 1 t58 H) fun t59=>
 bnd (ibin .sub t57 t59) fun t60=>
 bnd (ibin .add x3 (.int .i64 1)) fun t62=>
 bnd (ibin .mul t60 t62) fun t63=>
 bnd (ibin .add t55 t63) fun t64=>
 bnd (ibin .add t64 (.int .i64 1)) fun t65=>
 bnd (c77 t65 H) fun r66=>
 some (r66.1,r66.2)
theorem e58_5 (H0:Hp) (x1 x3:AV) (H:Hp):j58_5 H0 x1 x3 H=b58_5 c77 x1 x3 H:=(CXM_eq [4,5,6,8,10,12,14] _ _ _ _).trans (by kernel_rfl)
theorem m58_5 {c77 dc77:A1} (hc77:L1 c77 dc77):L2 (b58_5 c77) (b58_5 dc77):=fun _ _ _=>
 bR fun _=>bR fun _=>bR fun _=>bR fun _=>bR fun _=>bR fun _=>bR fun _=>bR fun _=>bR fun _=>bR fun _=>bR fun _=>bR fun _=>bC (hc77 _ _) fun _=>le_refl _
def b58_4 (c77:A1) (j58_5:A2) (x1 x3:AV) (H:Hp):Res:=
 bnd (afield 6 x1) fun t43=>
 bnd (aload false 1 t43 H) fun t44=>
 bnd (ibin .eql t44 (.int .i64 (-1))) fun t45=>
 cnd t45
  (bnd (afield 5 x1) fun t46=>
  bnd (aload false 1 t46 H) fun t47=>
  bnd (ibin .mul t47 x3) fun t49=>
  bnd (ibin .add t49 (.int .i64 2)) fun t50=>
  bnd (c77 t50 H) fun r51=>
  some (r51.1,r51.2))
  (j58_5 x1 x3 H)
theorem e58_4 (H0:Hp) (x1 x3:AV) (H:Hp):j58_4 H0 x1 x3 H=b58_4 c77 (j58_5 H0) x1 x3 H:=(CXM_eq [4,5,6,8,10,12,14] _ _ _ _).trans (by kernel_rfl)
theorem m58_4 {c77 dc77:A1} (hc77:L1 c77 dc77) {j58_5 dj58_5:A2} (hj58_5:L2 j58_5 dj58_5):L2 (b58_4 c77 j58_5) (b58_4 dc77 dj58_5):=fun _ _ _=>
 bR fun _=>bR fun _=>bR fun _=>bK (bR fun _=>bR fun _=>bR fun _=>bR fun _=>bC (hc77 _ _) fun _=>le_refl _) (hj58_5 _ _ _)
def b58_3 (j58_4:A2) (x1 x3:AV) (H:Hp):Res:=
 bnd (afield 5 x1) fun t34=>
 bnd (aload false 1 t34 H) fun t35=>
 bnd (ibin .eql t35 (.int .i64 1)) fun t36=>
 bnd (gdv t36 true (.tuple []) (afield 6 x1)) fun t38=>
 bnd (gdv t36 true (.tuple []) (aload false 1 t38 H)) fun t39=>
 bnd (gdv t36 true (.tuple []) (ibin .eql t39 (.int .i64 1))) fun t40=>
 bnd (apick t36 t40 (.bool false)) fun t41=>
 cnd t41
  (some (x3,H))
  (j58_4 x1 x3 H)
theorem e58_3 (H0:Hp) (x1 x3:AV) (H:Hp):j58_3 H0 x1 x3 H=b58_3 (j58_4 H0) x1 x3 H:=(CXM_eq [4,5,6,8,10,12,14] _ _ _ _).trans (by kernel_rfl)
theorem m58_3 {j58_4 dj58_4:A2} (hj58_4:L2 j58_4 dj58_4):L2 (b58_3 j58_4) (b58_3 dj58_4):=fun _ _ _=>
 bR fun _=>bR fun _=>bR fun _=>bR fun _=>bR fun _=>bR fun _=>bR fun _=>bK (le_refl _) (hj58_4 _ _ _)
def b58_2 (j58_3:A2) (x1 x3:AV) (H:Hp):Res:=
 bnd (afield 6 x1) fun t31=>
 bnd (aload false 1 t31 H) fun t32=>
 bnd (ibin .eql t32 (.int .i64 0)) fun t33=>
 cnd t33
  (some ((.int .i64 1),H))
  (j58_3 x1 x3 H)
theorem e58_2 (H0:Hp) (x1 x3:AV) (H:Hp):j58_2 H0 x1 x3 H=b58_2 (j58_3 H0) x1 x3 H:=(CXM_eq [4,5,6,8,10,12,14] _ _ _ _).trans (by kernel_rfl)
theorem m58_2 {j58_3 dj58_3:A2} (hj58_3:L2 j58_3 dj58_3):L2 (b58_2 j58_3) (b58_2 dj58_3):=fun _ _ _=>
 bR fun _=>bR fun _=>bR fun _=>bK (le_refl _) (hj58_3 _ _ _)
def b58_1 (c77:A1) (c78:A1) (j58_2:A2) (x1 x3:AV) (H:Hp):Res:=
 bnd (afield 0 x1) fun t21=>
 bnd (aload false 1 t21 H) fun t22=>
 bnd (ibin .neq t22 (.int .i64 5)) fun t23=>
 bnd (gdv t23 false (.tuple []) (aload true 9 x1 H)) fun t25=>
 bnd (gdv t23 false ((.tuple []),H) (c78 t25 H)) fun r26=>
 bnd (apick t23 (.bool true) r26.1) fun t27=>
 cnd t27
  (bnd (ibin .add x3 (.int .i64 1)) fun t29=>
  bnd (c77 t29 r26.2) fun r30=>
  some (r30.1,r30.2))
  (j58_2 x1 x3 r26.2)
theorem e58_1 (H0:Hp) (x1 x3:AV) (H:Hp):j58_1 H0 x1 x3 H=b58_1 c77 c78 (j58_2 H0) x1 x3 H:=(CXM_eq [4,5,6,8,10,12,14] _ _ _ _).trans (by kernel_rfl)
theorem m58_1 {c77 dc77:A1} (hc77:L1 c77 dc77) {c78 dc78:A1} (hc78:L1 c78 dc78) {j58_2 dj58_2:A2} (hj58_2:L2 j58_2 dj58_2):L2 (b58_1 c77 c78 j58_2) (b58_1 dc77 dc78 dj58_2):=fun _ _ _=>
 bR fun _=>bR fun _=>bR fun _=>bR fun _=>bG (hc78 _ _) fun _=>bR fun _=>bK (bR fun _=>bC (hc77 _ _) fun _=>le_refl _) (hj58_2 _ _ _)
def b58_7 (j58_l1:A3) (x1 x3 x4:AV) (H:Hp):Res:=
 bnd (ibin .add x4 (.int .i64 1)) fun t11=>
 j58_l1 x1 x3 t11 H
theorem e58_7 (H0:Hp) (x1 x3 x4:AV) (H:Hp):j58_7 H0 x1 x3 x4 H=b58_7 (j58_l1 H0) x1 x3 x4 H:=(CXM_eq [4,5,6,8,10,12,14] _ _ _ _).trans (by kernel_rfl)
theorem m58_7 {j58_l1 dj58_l1:A3} (hj58_l1:L3 j58_l1 dj58_l1):L3 (b58_7 j58_l1) (b58_7 dj58_l1):=fun _ _ _ _=>
 bR fun _=>hj58_l1 _ _ _ _
def b58_6 (c77:A1) (j58_7:A3) (cV:AV→List AV→Hp→Res) (x1 x3 x4:AV) (H:Hp):Res:=
 bnd (afield 8 x1) fun t13=>
 bnd (aload false 1 t13 H) fun t14=>
 bnd (aindexS 9 t14 x4) fun t16=>
 bnd (aload true 9 t16 H) fun t17=>
 bnd (cV (.fn (.func 58) [] []) [t17] H) fun r18=>
 bnd (ibin .add x3 r18.1) fun t19=>
 bnd (c77 t19 r18.2) fun r20=>
 j58_7 x1 r20.1 x4 r20.2
theorem e58_6 (H0:Hp) (x1 x3 x4:AV) (H:Hp):j58_6 H0 x1 x3 x4 H=b58_6 c77 (j58_7 H0) (acall cfg (callw cfg)) x1 x3 x4 H:=(CXM_eq [4,5,6,8,10,12,14] _ _ _ _).trans (by kernel_rfl)
theorem m58_6 {c77 dc77:A1} (hc77:L1 c77 dc77) {j58_7 dj58_7:A3} (hj58_7:L3 j58_7 dj58_7) {cV dcV:AV→List AV→Hp→Res} (hcV:LV cV dcV):L3 (b58_6 c77 j58_7 cV) (b58_6 dc77 dj58_7 dcV):=fun _ _ _ _=>
 bR fun _=>bR fun _=>bR fun _=>bR fun _=>bC (hcV _ _ _) fun _=>bR fun _=>bC (hc77 _ _) fun _=>hj58_7 _ _ _ _
def b58_l1 (j58_1:A2) (j58_6:A3) (x1 x3 x4:AV) (H:Hp):Res:=
 bnd (afield 8 x1) fun t6=>
 bnd (aload false 1 t6 H) fun t7=>
 bnd (alenD (.slice 41) t7) fun t8=>
 bnd (ibin .lss x4 t8) fun t9=>
 cnd t9
  (j58_6 x1 x3 x4 H)
  (j58_1 x1 x3 H)
theorem e58_l1 (H0:Hp) (x1 x3 x4:AV) (H:Hp):j58_l1 H0 x1 x3 x4 H=b58_l1 (j58_1 H0) (j58_6 H0) x1 x3 x4 H:=(LPL_eqm (C:=cfg) [4,5,6,8,10,12,14] (tame_block 0 (k58_1_tame H0)) _ _).trans (by kernel_rfl)
theorem m58_l1 {j58_1 dj58_1:A2} (hj58_1:L2 j58_1 dj58_1) {j58_6 dj58_6:A3} (hj58_6:L3 j58_6 dj58_6):L3 (b58_l1 j58_1 j58_6) (b58_l1 dj58_1 dj58_6):=fun _ _ _ _=>
 bR fun _=>bR fun _=>bR fun _=>bR fun _=>bK (hj58_6 _ _ _ _) (hj58_1 _ _ _)
def rj58_5 (gV:AV→List AV→Hp→Res):A2:=b58_5 rc77
theorem sj58_5 (H0:Hp) {gV:AV→List AV→Hp→Res} (hV:LV gV (acall cfg (callw cfg))):L2 (rj58_5 gV) (j58_5 H0):=fun _ _ _=>le_eq (m58_5 sc77 _ _ _) (e58_5 H0 _ _ _)
def rj58_4 (gV:AV→List AV→Hp→Res):A2:=b58_4 rc77 (rj58_5 gV)
theorem sj58_4 (H0:Hp) {gV:AV→List AV→Hp→Res} (hV:LV gV (acall cfg (callw cfg))):L2 (rj58_4 gV) (j58_4 H0):=fun _ _ _=>le_eq (m58_4 sc77 (sj58_5 H0 hV) _ _ _) (e58_4 H0 _ _ _)
def rj58_3 (gV:AV→List AV→Hp→Res):A2:=b58_3 (rj58_4 gV)
theorem sj58_3 (H0:Hp) {gV:AV→List AV→Hp→Res} (hV:LV gV (acall cfg (callw cfg))):L2 (rj58_3 gV) (j58_3 H0):=fun _ _ _=>le_eq (m58_3 (sj58_4 H0 hV) _ _ _) (e58_3 H0 _ _ _)
def rj58_2 (gV:AV→List AV→Hp→Res):A2:=b58_2 (rj58_3 gV)
theorem sj58_2 (H0:Hp) {gV:AV→List AV→Hp→Res} (hV:LV gV (acall cfg (callw cfg))):L2 (rj58_2 gV) (j58_2 H0):=fun _ _ _=>le_eq (m58_2 (sj58_3 H0 hV) _ _ _) (e58_2 H0 _ _ _)
def rj58_1 (gV:AV→List AV→Hp→Res):A2:=b58_1 rc77 rc78 (rj58_2 gV)
theorem sj58_1 (H0:Hp) {gV:AV→List AV→Hp→Res} (hV:LV gV (acall cfg (callw cfg))):L2 (rj58_1 gV) (j58_1 H0):=fun _ _ _=>le_eq (m58_1 sc77 sc78 (sj58_2 H0 hV) _ _ _) (e58_1 H0 _ _ _)
def rj58_7 (gV:AV→List AV→Hp→Res) (j58_l1:A3):A3:=b58_7 j58_l1
theorem sj58_7 (H0:Hp) {gV:AV→List AV→Hp→Res} (hV:LV gV (acall cfg (callw cfg))) {yj58_l1:A3} (hj58_l1:L3 yj58_l1 (j58_l1 H0)):L3 (rj58_7 gV yj58_l1) (j58_7 H0):=fun _ _ _ _=>le_eq (m58_7 hj58_l1 _ _ _ _) (e58_7 H0 _ _ _ _)
def rj58_6 (gV:AV→List AV→Hp→Res) (j58_l1:A3):A3:=b58_6 rc77 (rj58_7 gV j58_l1) gV
theorem sj58_6 (H0:Hp) {gV:AV→List AV→Hp→Res} (hV:LV gV (acall cfg (callw cfg))) {yj58_l1:A3} (hj58_l1:L3 yj58_l1 (j58_l1 H0)):L3 (rj58_6 gV yj58_l1) (j58_6 H0):=fun _ _ _ _=>le_eq (m58_6 sc77 (sj58_7 H0 hV hj58_l1) hV _ _ _ _) (e58_6 H0 _ _ _ _)
def rj58_l1 (gV:AV→List AV→Hp→Res) (n:Nat):A3:=@Nat.rec (fun _=>A3) (fun _ _ _ _=>none) (fun _ j58_l1=>b58_l1 (rj58_1 gV) (rj58_6 gV j58_l1)) n
theorem sj58_l1 (H0:Hp) {gV:AV→List AV→Hp→Res} (hV:LV gV (acall cfg (callw cfg))) (n:Nat):L3 (rj58_l1 gV n) (j58_l1 H0):=by
 induction n with
 | zero=>exact fun _ _ _ _=>le_none _
 | succ n hj58_l1=>exact fun _ _ _ _=>le_eq (m58_l1 (sj58_1 H0 hV) (sj58_6 H0 hV hj58_l1) _ _ _ _) (e58_l1 H0 _ _ _ _)
def bc58 (j58_l1:A3) (p0:AV) (H:Hp):Res:=
 bnd (abox p0 H) fun r1=>
 j58_l1 r1.1 (.int .i64 0) (.int .i64 0) r1.2
theorem ec58 (p0:AV) (H:Hp):c58 p0 H=bc58 (j58_l1 H) p0 H:=(callw_cxm (C:=cfg) (fn:=Tryz.f58) (c:=bodyOf Tryz.f58) (n:=67) [4,5,6,8,10,12,14] Tryz.func58 (by kernel_rfl) (by kernel_rfl) [p0] (by kernel_rfl) H).trans (by kernel_rfl)
theorem mc58 {j58_l1 dj58_l1:A3} (hj58_l1:L3 j58_l1 dj58_l1):L1 (bc58 j58_l1) (bc58 dj58_l1):=fun _ _=>
 bR fun _=>hj58_l1 _ _ _ _
def rc58 (gV:AV→List AV→Hp→Res):A1:=fun p0 H=>bc58 (rj58_l1 gV 100000) p0 H
theorem sc58 {gV:AV→List AV→Hp→Res} (hV:LV gV (acall cfg (callw cfg))):L1 (rc58 gV) c58:=fun _ H=>le_eq (mc58 (sj58_l1 H hV 100000) _ _) (ec58 _ _)

end
end Go.Am
