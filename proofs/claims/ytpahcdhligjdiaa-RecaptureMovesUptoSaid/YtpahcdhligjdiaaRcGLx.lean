/-
  The functions of the translation over the abstract machine, a further part: written by program (wip/gen.py).
-/
import Derived.Test.YtpahcdhligjdiaaRcGx
namespace Go.Am
open Go.Proofs
set_option maxRecDepth 100000
set_option linter.unusedVariables false
set_option linter.unusedSimpArgs false
noncomputable abbrev CXgL (f n:Nat):=CXL cfg (callw cfg) (LPL cfg (cfg.keep f) n) (cfg.keep f) n seqL blockL
noncomputable abbrev LPgL (f n:Nat):=LPL cfg (cfg.keep f) n
noncomputable section

def L13_RecaptureMoves_J2 (x2 x3 x4 x5 x9 x10:AV) (H0 H:Hp):Res:=CXgL 3 91 (sub (bodyOf Try.f3) [1,1,1,1]) (retL cfg 91 3 Try.f3 H0) [(2,x2),(3,x3),(4,x4),(5,x5),(9,x9),(10,x10)] H
def L13_RecaptureMoves_J1 (x2 x3 x4 x5:AV) (H0 H:Hp):Res:=CXgL 3 91 (sub (bodyOf Try.f3) [1,1]) (retL cfg 91 3 Try.f3 H0) [(2,x2),(3,x3),(4,x4),(5,x5)] H
def F_L13_RecaptureMoves (p0 p1 p2 p3:AV) (H:Hp):Res:=
 bnd (abox p0 H) fun r4=>
 bnd (abox p1 r4.2) fun r5=>
 bnd (aload true 9 r4.1 r5.2) fun t16=>
 bnd (roC C_L09_Small [t16,(.int .i64 40)] r5.2) fun r17=>
 bnd (aun .not r17.1) fun t18=>
 bnd (gdv t18 false (.tuple []) (afield 0 r5.1)) fun t20=>
 bnd (gdv t18 false (.tuple []) (aload false 1 t20 r17.2)) fun t21=>
 bnd (gdv t18 false (.tuple []) (alenD .string t21)) fun t22=>
 bnd (gdv t18 false (.tuple []) (ibin .gtr t22 (.int .i64 24))) fun t23=>
 bnd (apick t18 (.bool true) t23) fun t24=>
 bnd (gdv t24 false (.tuple []) (aload true 9 r4.1 r17.2)) fun t26=>
 bnd (gdv t24 false ((.tuple []),r17.2) (flatC C_L13_anchored [t26] r17.2)) fun r27=>
 bnd (apick t24 (.bool true) r27.1) fun t28=>
 cnd t28
  (bnd (flatC C_L13_awake [] r27.2) fun r29=>
  some (r29.1,r29.2))
  (L13_RecaptureMoves_J1 p2 p3 r4.1 r5.1 H r27.2)
theorem L13_RecaptureMoves_J2_eq (x2 x3 x4 x5 x9 x10:AV) (H0 H:Hp):L13_RecaptureMoves_J2 x2 x3 x4 x5 x9 x10 H0 H =
    bnd (alenD .string x2) fun t46=>
    bnd (aload true 9 x4 H) fun t48=>
    bnd (afield 0 x5) fun t50=>
    bnd (aload false 1 t50 H) fun t51=>
    bnd (sbin .add x2 t51) fun t52=>
    bnd (sbin .add t52 x3) fun t54=>
    bnd (afield 1 x5) fun t55=>
    bnd (afield 0 t55) fun t56=>
    bnd (aload false 1 t56 H) fun t57=>
    bnd (ibin .add t57 t46) fun t59=>
    bnd (afield 1 x5) fun t60=>
    bnd (afield 1 t60) fun t61=>
    bnd (aload false 1 t61 H) fun t62=>
    bnd (ibin .add t62 t46) fun t64=>
    bnd ((afill [(0,1,t59),(1,1,t64)] [(.int .i64 0),(.int .i64 0)]).map .agg) fun t65=>
    bnd (afield 3 x5) fun t66=>
    bnd (aload false 1 t66 H) fun t67=>
    bnd (C_recapture_Captures [t48,t54,t65,t67] H) fun r68=>
    bnd (aext r68.1 0) fun t69=>
    bnd (aext r68.1 1) fun t70=>
    bnd (aext r68.1 2) fun t71=>
    bnd (some ((.ptr r68.2.length 0),r68.2++[.cells [.nils]])) fun r13=>
    bnd (astoreU 1 r13.1 t69 r13.2) fun r_38=>
    bnd (ebin .bool .eql x10 t70) fun t74=>
    bnd (gdv t74 true (.tuple []) (some t71)) fun t76=>
    bnd (gdv t74 true (.tuple []) (ibin .eql t76 (.int .i64 0))) fun t77=>
    bnd (apick t74 t77 (.bool false)) fun t78=>
    bnd (gdv t78 true (.tuple []) (afield 0 x9)) fun t80=>
    bnd (gdv t78 true (.tuple []) (aload false 1 t80 r_38.2)) fun t81=>
    bnd (gdv t78 true (.tuple []) (some t46)) fun t82=>
    bnd (gdv t78 true ((.tuple []),r_38.2) (roC C_L13_moved [t81,t82] r_38.2)) fun r83=>
    bnd (gdv t78 true (.tuple []) ((afill [(0,1,r83.1)] [.nils]).map .agg)) fun t84=>
    bnd (gdv t78 true (.tuple []) (aload true 1 r13.1 r83.2)) fun t85=>
    bnd (gdv t78 true ((.tuple []),r83.2) (roC C_L09_SameMatch [t84,t85] r83.2)) fun r86=>
    bnd (apick t78 r86.1 (.bool false)) fun t87=>
    bnd (gdv t87 true ((.tuple []),r86.2) (flatC C_L13_awake [] r86.2)) fun r89=>
    bnd (apick t87 r89.1 (.bool false)) fun t90=>
    some (t90,r89.2):=(CXM_eq [3,6] _ _ _ _).trans (by kernel_rfl)
theorem L13_RecaptureMoves_J1_eq (x2 x3 x4 x5:AV) (H0 H:Hp):L13_RecaptureMoves_J1 x2 x3 x4 x5 H0 H =
    bnd (aload true 9 x4 H) fun t31=>
    bnd (afield 0 x5) fun t32=>
    bnd (aload false 1 t32 H) fun t33=>
    bnd (afield 1 x5) fun t34=>
    bnd (aload true 2 t34 H) fun t35=>
    bnd (afield 3 x5) fun t36=>
    bnd (aload false 1 t36 H) fun t37=>
    bnd (C_recapture_Captures [t31,t33,t35,t37] H) fun r38=>
    bnd (aext r38.1 0) fun t39=>
    bnd (aext r38.1 1) fun t40=>
    bnd (aext r38.1 2) fun t41=>
    bnd (some ((.ptr r38.2.length 0),r38.2++[.cells [.nils]])) fun r9=>
    bnd (astoreU 1 r9.1 t39 r9.2) fun r_15=>
    bnd (ibin .neq t41 (.int .i64 0)) fun t43=>
    cnd t43
     (bnd (flatC C_L13_awake [] r_15.2) fun r44=>
     some (r44.1,r44.2))
     (L13_RecaptureMoves_J2 x2 x3 x4 x5 r9.1 t40 H0 r_15.2):=(CXM_eq [3,6] _ _ _ _).trans (by kernel_rfl)
theorem F_L13_RecaptureMoves_eq (p0 p1 p2 p3:AV) (H:Hp):C_L13_RecaptureMoves [p0,p1,p2,p3] H=F_L13_RecaptureMoves p0 p1 p2 p3 H:=(callw_cxm (C:=cfg) (fn:=Try.f3) (c:=bodyOf Try.f3) (n:=91) [3,6] Try.func3 (by kernel_rfl) (by kernel_rfl) [p0,p1,p2,p3] (by kernel_rfl) H).trans (by kernel_rfl)

def F_L09_Small (p0 p1:AV) (H:Hp):Res:=
 bnd (abox p0 H) fun r2=>
 bnd (aload true 9 r2.1 r2.2) fun t5=>
 bnd (roC C_L09_count [t5,p1,(.int .i64 8)] r2.2) fun r7=>
 bnd (ibin .leq r7.1 p1) fun t9=>
 some (t9,r7.2)
theorem F_L09_Small_eq (p0 p1:AV) (H:Hp):C_L09_Small [p0,p1] H=F_L09_Small p0 p1 H:=(callw_cxm (C:=cfg) (fn:=Try.f6) (c:=bodyOf Try.f6) (n:=10) [] Try.func6 (by kernel_rfl) (by kernel_rfl) [p0,p1] (by kernel_rfl) H).trans (by kernel_rfl)

def L13_awake_J1 (x3:AV) (H0 H:Hp):Res:=CXgL 8 62 (sub (bodyOf Try.f8) [1,1,1,1,1]) (retL cfg 62 8 Try.f8 H0) [(3,x3)] H
def F_L13_awake (H:Hp):Res:=
 bnd (flatC C_L09_Byte [(.int .u8 97)] H) fun r6=>
 bnd ((setElems 9 [(0,r6.1)] [(.agg [(.int .i64 0),(.int .u64 0),(.int .u64 0),(.int .u64 0),(.int .u64 0),(.int .i64 0),(.int .i64 0),(.int .i64 0),.nils])]).map (.vs 9 .clip)) fun t7=>
 bnd ((afill [(0,1,(.int .i64 6)),(7,1,(.int .i64 1)),(8,1,t7)] [(.int .i64 0),(.int .u64 0),(.int .u64 0),(.int .u64 0),(.int .u64 0),(.int .i64 0),(.int .i64 0),(.int .i64 0),.nils]).map .agg) fun t8=>
 bnd (some ((.ptr r6.2.length 0),r6.2++[.cells [(.int .i64 0),(.int .u64 0),(.int .u64 0),(.int .u64 0),(.int .u64 0),(.int .i64 0),(.int .i64 0),(.int .i64 0),.nils]])) fun r1=>
 bnd (astoreU 9 r1.1 t8 r1.2) fun r_5=>
 bnd (flatC C_L09_Byte [(.int .u8 97)] r_5.2) fun r9=>
 bnd (flatC C_L09_Byte [(.int .u8 98)] r9.2) fun r10=>
 bnd ((setElems 9 [(0,r9.1),(1,r10.1)] [(.agg [(.int .i64 0),(.int .u64 0),(.int .u64 0),(.int .u64 0),(.int .u64 0),(.int .i64 0),(.int .i64 0),(.int .i64 0),.nils]),(.agg [(.int .i64 0),(.int .u64 0),(.int .u64 0),(.int .u64 0),(.int .u64 0),(.int .i64 0),(.int .i64 0),(.int .i64 0),.nils])]).map (.vs 9 .clip)) fun t11=>
 bnd (flatC C_L09_Node [(.int .i64 3),t11] r10.2) fun r12=>
 bnd ((setElems 9 [(0,r12.1)] [(.agg [(.int .i64 0),(.int .u64 0),(.int .u64 0),(.int .u64 0),(.int .u64 0),(.int .i64 0),(.int .i64 0),(.int .i64 0),.nils])]).map (.vs 9 .clip)) fun t13=>
 bnd ((afill [(0,1,(.int .i64 6)),(7,1,(.int .i64 2)),(8,1,t13)] [(.int .i64 0),(.int .u64 0),(.int .u64 0),(.int .u64 0),(.int .u64 0),(.int .i64 0),(.int .i64 0),(.int .i64 0),.nils]).map .agg) fun t14=>
 bnd (some ((.ptr r12.2.length 0),r12.2++[.cells [(.int .i64 0),(.int .u64 0),(.int .u64 0),(.int .u64 0),(.int .u64 0),(.int .i64 0),(.int .i64 0),(.int .i64 0),.nils]])) fun r2=>
 bnd (astoreU 9 r2.1 t14 r2.2) fun r_13=>
 bnd (aload true 9 r1.1 r_13.2) fun t16=>
 bnd (aload true 9 r2.1 r_13.2) fun t17=>
 bnd ((setElems 9 [(0,t16),(1,t17)] [(.agg [(.int .i64 0),(.int .u64 0),(.int .u64 0),(.int .u64 0),(.int .u64 0),(.int .i64 0),(.int .i64 0),(.int .i64 0),.nils]),(.agg [(.int .i64 0),(.int .u64 0),(.int .u64 0),(.int .u64 0),(.int .u64 0),(.int .i64 0),(.int .i64 0),(.int .i64 0),.nils])]).map (.vs 9 .clip)) fun t18=>
 bnd (flatC C_L09_Node [(.int .i64 4),t18] r_13.2) fun r19=>
 bnd ((afill [(0,1,(.int .i64 0)),(1,1,(.int .i64 2))] [(.int .i64 0),(.int .i64 0)]).map .agg) fun t20=>
 bnd (C_recapture_Captures [r19.1,(.str [97,98]),t20,(.bool false)] r19.2) fun r21=>
 bnd (aext r21.1 0) fun t22=>
 bnd (aext r21.1 1) fun t23=>
 bnd (aext r21.1 2) fun t24=>
 bnd (some ((.ptr r21.2.length 0),r21.2++[.cells [.nils]])) fun r3=>
 bnd (astoreU 1 r3.1 t22 r3.2) fun r_24=>
 bnd (aun .not t23) fun t26=>
 bnd (gdv t26 false (.tuple []) (some t24)) fun t28=>
 bnd (gdv t26 false (.tuple []) (ibin .neq t28 (.int .i64 0))) fun t29=>
 bnd (apick t26 (.bool true) t29) fun t30=>
 bnd (gdv t30 false (.tuple []) (afield 0 r3.1)) fun t32=>
 bnd (gdv t30 false (.tuple []) (aload false 1 t32 r_24.2)) fun t33=>
 bnd (gdv t30 false (.tuple []) (alenD (.slice 30) t33)) fun t34=>
 bnd (gdv t30 false (.tuple []) (ibin .neq t34 (.int .i64 3))) fun t35=>
 bnd (apick t30 (.bool true) t35) fun t36=>
 cnd t36
  (some ((.bool false),r_24.2))
  (L13_awake_J1 r3.1 H r_24.2)
theorem L13_awake_J1_eq (x3:AV) (H0 H:Hp):L13_awake_J1 x3 H0 H =
    bnd (afield 0 x3) fun t37=>
    bnd (aload false 1 t37 H) fun t38=>
    bnd (aindexS 2 t38 (.int .i64 0)) fun t39=>
    bnd (aload true 2 t39 H) fun t40=>
    bnd ((afill [(0,1,(.int .i64 0)),(1,1,(.int .i64 2))] [(.int .i64 0),(.int .i64 0)]).map .agg) fun t41=>
    bnd (aeqBin Try.prog cfg.eqok .eql 30 t40 t41) fun t42=>
    bnd (gdv t42 true (.tuple []) (afield 0 x3)) fun t44=>
    bnd (gdv t42 true (.tuple []) (aload false 1 t44 H)) fun t45=>
    bnd (gdv t42 true (.tuple []) (aindexS 2 t45 (.int .i64 1))) fun t46=>
    bnd (gdv t42 true (.tuple []) (aload true 2 t46 H)) fun t47=>
    bnd (gdv t42 true (.tuple []) ((afill [(0,1,(.int .i64 (-1))),(1,1,(.int .i64 (-1)))] [(.int .i64 0),(.int .i64 0)]).map .agg)) fun t48=>
    bnd (gdv t42 true (.tuple []) (aeqBin Try.prog cfg.eqok .eql 30 t47 t48)) fun t49=>
    bnd (apick t42 t49 (.bool false)) fun t50=>
    bnd (gdv t50 true (.tuple []) (afield 0 x3)) fun t52=>
    bnd (gdv t50 true (.tuple []) (aload false 1 t52 H)) fun t53=>
    bnd (gdv t50 true (.tuple []) (aindexS 2 t53 (.int .i64 2))) fun t54=>
    bnd (gdv t50 true (.tuple []) (aload true 2 t54 H)) fun t55=>
    bnd (gdv t50 true (.tuple []) (afield 0 x3)) fun t56=>
    bnd (gdv t50 true (.tuple []) (aload false 1 t56 H)) fun t57=>
    bnd (gdv t50 true (.tuple []) (aindexS 2 t57 (.int .i64 0))) fun t58=>
    bnd (gdv t50 true (.tuple []) (aload true 2 t58 H)) fun t59=>
    bnd (gdv t50 true (.tuple []) (aeqBin Try.prog cfg.eqok .eql 30 t55 t59)) fun t60=>
    bnd (apick t50 t60 (.bool false)) fun t61=>
    some (t61,H):=(CXM_eq [6] _ _ _ _).trans (by kernel_rfl)
theorem F_L13_awake_eq (H:Hp):C_L13_awake [] H=F_L13_awake H:=(callw_cxm (C:=cfg) (fn:=Try.f8) (c:=bodyOf Try.f8) (n:=62) [6] Try.func8 (by kernel_rfl) (by kernel_rfl) [] (by kernel_rfl) H).trans (by kernel_rfl)

def F_L09_SameMatch (p0 p1:AV) (H:Hp):Res:=
 bnd (abox p0 H) fun r2=>
 bnd (abox p1 r2.2) fun r3=>
 bnd (afield 0 r2.1) fun t5=>
 bnd (aload false 1 t5 r3.2) fun t6=>
 bnd (afield 0 r3.1) fun t7=>
 bnd (aload false 1 t7 r3.2) fun t8=>
 bnd (roC C_R09_SameSpans [t6,t8] r3.2) fun r9=>
 some (r9.1,r9.2)
theorem F_L09_SameMatch_eq (p0 p1:AV) (H:Hp):C_L09_SameMatch [p0,p1] H=F_L09_SameMatch p0 p1 H:=(callw_cxm (C:=cfg) (fn:=Try.f10) (c:=bodyOf Try.f10) (n:=10) [] Try.func10 (by kernel_rfl) (by kernel_rfl) [p0,p1] (by kernel_rfl) H).trans (by kernel_rfl)

def L13_moved_J1 (x5:AV) (H0 H:Hp):Res:=CXgL 11 35 (sub (bodyOf Try.f11) [1,1,1]) (retL cfg 35 11 Try.f11 H0) [(5,x5)] H
def L13_moved_K1 (H0:Hp):KL:=seqL (fun k al H=>CXgL 11 35 (sub (bodyOf Try.f11) [1,1,1]) k (trimL (cfg.keep 11) (sub (bodyOf Try.f11) [1,1,1]) al) H) (retL cfg 35 11 Try.f11 H0)
theorem L13_moved_K1_tame (H0:Hp):Tame 35 (L13_moved_K1 H0):=tame_seq (C:=cfg) (kp:=cfg.keep 11) (sub (bodyOf Try.f11) [1,1,1]) (tame_ret 11 Try.f11 H0)
def L13_moved_J3 (x0 x1 x5 x6:AV) (H0 H:Hp):Res:=CXgL 11 35 (sub (bodyOf Try.f11) [1,1,0,1,0,0,1,1]) (seqL (fun k al H=>LPgL 11 35 (sub (bodyOf Try.f11) [1,1,0,1,0,0]) k (trimL (cfg.keep 11) (sub (bodyOf Try.f11) [1,1,0,1,0,0]) al) H) (blockL 0 (L13_moved_K1 H0))) [(0,x0),(1,x1),(5,x5),(6,x6)] H
def L13_moved_K2 (H0:Hp):KL:=seqL (fun k al H=>CXgL 11 35 (sub (bodyOf Try.f11) [1,1,0,1,0,0,1,1]) k (trimL (cfg.keep 11) (sub (bodyOf Try.f11) [1,1,0,1,0,0,1,1]) al) H) (seqL (fun k al H=>LPgL 11 35 (sub (bodyOf Try.f11) [1,1,0,1,0,0]) k (trimL (cfg.keep 11) (sub (bodyOf Try.f11) [1,1,0,1,0,0]) al) H) (blockL 0 (L13_moved_K1 H0)))
def L13_moved_J4 (x0 x1 x5 x6 x7:AV) (H0 H:Hp):Res:=CXgL 11 35 (sub (bodyOf Try.f11) [1,1,0,1,0,0,1,0,0,1,1]) (blockL 1 (L13_moved_K2 H0)) [(0,x0),(1,x1),(5,x5),(6,x6),(7,x7)] H
def L13_moved_J2 (x0 x1 x5 x6:AV) (H0 H:Hp):Res:=CXgL 11 35 (sub (bodyOf Try.f11) [1,1,0,1,0,0,1]) (seqL (fun k al H=>LPgL 11 35 (sub (bodyOf Try.f11) [1,1,0,1,0,0]) k (trimL (cfg.keep 11) (sub (bodyOf Try.f11) [1,1,0,1,0,0]) al) H) (blockL 0 (L13_moved_K1 H0))) [(0,x0),(1,x1),(5,x5),(6,x6)] H
def L13_moved_L1 (x0 x1 x5 x6:AV) (H0 H:Hp):Res:=LPgL 11 35 (sub (bodyOf Try.f11) [1,1,0,1,0,0]) (blockL 0 (L13_moved_K1 H0)) [(0,x0),(1,x1),(5,x5),(6,x6)] H
def F_L13_moved (p0 p1:AV) (H:Hp):Res:=
 L13_moved_L1 p0 p1 .nils (.int .i64 0) H H
theorem L13_moved_J1_eq (x5:AV) (H0 H:Hp):L13_moved_J1 x5 H0 H =
    some (x5,H):=(CXM_eq [4,5,8,9] _ _ _ _).trans (by kernel_rfl)
theorem L13_moved_J3_eq (x0 x1 x5 x6:AV) (H0 H:Hp):L13_moved_J3 x0 x1 x5 x6 H0 H =
    bnd (ibin .add x6 (.int .i64 1)) fun t13=>
    L13_moved_L1 x0 x1 x5 t13 H0 H:=(CXM_eq [4,5,8,9] _ _ _ _).trans (by kernel_rfl)
theorem L13_moved_J4_eq (x0 x1 x5 x6 x7:AV) (H0 H:Hp):L13_moved_J4 x0 x1 x5 x6 x7 H0 H =
    bnd (aload true 2 x7 H) fun t31=>
    bnd ((setElems 2 [(0,t31)] [(.agg [(.int .i64 0),(.int .i64 0)])]).map (.vs 2 .clip)) fun t32=>
    bnd (aappE 2 16 x5 t32 H) fun r33=>
    L13_moved_J3 x0 x1 r33.1 x6 H0 r33.2:=(CXM_eq [4,5,8,9] _ _ _ _).trans (by kernel_rfl)
theorem L13_moved_J2_eq (x0 x1 x5 x6:AV) (H0 H:Hp):L13_moved_J2 x0 x1 x5 x6 H0 H =
    bnd (aindexS 2 x0 x6) fun t16=>
    bnd (aload true 2 t16 H) fun t17=>
    bnd (some ((.ptr H.length 0),H++[.cells [(.int .i64 0),(.int .i64 0)]])) fun r7=>
    bnd (astoreU 2 r7.1 t17 r7.2) fun r_5=>
    bnd (afield 0 r7.1) fun t18=>
    bnd (aload false 1 t18 r_5.2) fun t19=>
    bnd (ibin .geq t19 (.int .i64 0)) fun t20=>
    cnd t20
     (bnd (afield 0 r7.1) fun t21=>
     bnd (aload false 1 t21 r_5.2) fun t22=>
     bnd (ibin .add t22 x1) fun t24=>
     bnd (afield 1 r7.1) fun t25=>
     bnd (aload false 1 t25 r_5.2) fun t26=>
     bnd (ibin .add t26 x1) fun t28=>
     bnd ((afill [(0,1,t24),(1,1,t28)] [(.int .i64 0),(.int .i64 0)]).map .agg) fun t29=>
     bnd (astoreU 2 r7.1 t29 r_5.2) fun r_19=>
     L13_moved_J4 x0 x1 x5 x6 r7.1 H0 r_19.2)
     (L13_moved_J4 x0 x1 x5 x6 r7.1 H0 r_5.2):=(CXM_eq [4,5,8,9] _ _ _ _).trans (by kernel_rfl)
theorem L13_moved_L1_eq (x0 x1 x5 x6:AV) (H0 H:Hp):L13_moved_L1 x0 x1 x5 x6 H0 H =
    bnd (alenD (.slice 30) x0) fun t10=>
    bnd (ibin .lss x6 t10) fun t11=>
    cnd t11
     (L13_moved_J2 x0 x1 x5 x6 H0 H)
     (L13_moved_J1 x5 H0 H):=(LPL_eqm (C:=cfg) [4,5,8,9] (tame_block 0 (L13_moved_K1_tame H0)) _ _).trans (by kernel_rfl)
theorem F_L13_moved_eq (p0 p1:AV) (H:Hp):C_L13_moved [p0,p1] H=F_L13_moved p0 p1 H:=(callw_cxm (C:=cfg) (fn:=Try.f11) (c:=bodyOf Try.f11) (n:=35) [4,5,8,9] Try.func11 (by kernel_rfl) (by kernel_rfl) [p0,p1] (by kernel_rfl) H).trans (by kernel_rfl)

def L09_count_J2 (x7:AV) (H0 H:Hp):Res:=CXgL 16 55 (sub (bodyOf Try.f16) [1,1,1,1]) (retL cfg 55 16 Try.f16 H0) [(7,x7)] H
def L09_count_K1 (H0:Hp):KL:=seqL (fun k al H=>CXgL 16 55 (sub (bodyOf Try.f16) [1,1,1,1]) k (trimL (cfg.keep 16) (sub (bodyOf Try.f16) [1,1,1,1]) al) H) (retL cfg 55 16 Try.f16 H0)
theorem L09_count_K1_tame (H0:Hp):Tame 55 (L09_count_K1 H0):=tame_seq (C:=cfg) (kp:=cfg.keep 16) (sub (bodyOf Try.f16) [1,1,1,1]) (tame_ret 16 Try.f16 H0)
def L09_count_J4 (x1 x2 x3 x7 x8:AV) (H0 H:Hp):Res:=CXgL 16 55 (sub (bodyOf Try.f16) [1,1,1,0,1,0,0,1,1]) (seqL (fun k al H=>LPgL 16 55 (sub (bodyOf Try.f16) [1,1,1,0,1,0,0]) k (trimL (cfg.keep 16) (sub (bodyOf Try.f16) [1,1,1,0,1,0,0]) al) H) (blockL 0 (L09_count_K1 H0))) [(1,x1),(2,x2),(3,x3),(7,x7),(8,x8)] H
def L09_count_J3 (x1 x2 x3 x7 x8:AV) (H0 H:Hp):Res:=CXgL 16 55 (sub (bodyOf Try.f16) [1,1,1,0,1,0,0,1]) (seqL (fun k al H=>LPgL 16 55 (sub (bodyOf Try.f16) [1,1,1,0,1,0,0]) k (trimL (cfg.keep 16) (sub (bodyOf Try.f16) [1,1,1,0,1,0,0]) al) H) (blockL 0 (L09_count_K1 H0))) [(1,x1),(2,x2),(3,x3),(7,x7),(8,x8)] H
def L09_count_L1 (x1 x2 x3 x7 x8:AV) (H0 H:Hp):Res:=LPgL 16 55 (sub (bodyOf Try.f16) [1,1,1,0,1,0,0]) (blockL 0 (L09_count_K1 H0)) [(1,x1),(2,x2),(3,x3),(7,x7),(8,x8)] H
def L09_count_J1 (x1 x2 x3:AV) (H0 H:Hp):Res:=CXgL 16 55 (sub (bodyOf Try.f16) [1,1]) (retL cfg 55 16 Try.f16 H0) [(1,x1),(2,x2),(3,x3)] H
def F_L09_count (p0 p1 p2:AV) (H:Hp):Res:=
 bnd (abox p0 H) fun r3=>
 bnd (ibin .eql p2 (.int .i64 0)) fun t10=>
 bnd (gdv t10 false (.tuple []) (afield 8 r3.1)) fun t12=>
 bnd (gdv t10 false (.tuple []) (aload false 1 t12 r3.2)) fun t13=>
 bnd (gdv t10 false (.tuple []) (alenD (.slice 28) t13)) fun t14=>
 bnd (gdv t10 false (.tuple []) (ibin .gtr t14 (.int .i64 6))) fun t15=>
 bnd (apick t10 (.bool true) t15) fun t16=>
 bnd (gdv t16 false (.tuple []) (afield 5 r3.1)) fun t18=>
 bnd (gdv t16 false (.tuple []) (aload false 1 t18 r3.2)) fun t19=>
 bnd (gdv t16 false (.tuple []) (ibin .gtr t19 (.int .i64 4))) fun t20=>
 bnd (apick t16 (.bool true) t20) fun t21=>
 bnd (gdv t21 false (.tuple []) (afield 6 r3.1)) fun t23=>
 bnd (gdv t21 false (.tuple []) (aload false 1 t23 r3.2)) fun t24=>
 bnd (gdv t21 false (.tuple []) (ibin .gtr t24 (.int .i64 4))) fun t25=>
 bnd (apick t21 (.bool true) t25) fun t26=>
 cnd t26
  (bnd (ibin .add p1 (.int .i64 1)) fun t28=>
  some (t28,r3.2))
  (L09_count_J1 p1 p2 r3.1 H r3.2)
theorem L09_count_J2_eq (x7:AV) (H0 H:Hp):L09_count_J2 x7 H0 H =
    some (x7,H):=(CXM_eq [3,6,7,8] _ _ _ _).trans (by kernel_rfl)
theorem L09_count_J4_eq (x1 x2 x3 x7 x8:AV) (H0 H:Hp):L09_count_J4 x1 x2 x3 x7 x8 H0 H =
    bnd (ibin .add x8 (.int .i64 1)) fun t40=>
    L09_count_L1 x1 x2 x3 x7 t40 H0 H:=(CXM_eq [3,6,7,8] _ _ _ _).trans (by kernel_rfl)
theorem L09_count_J3_eq (x1 x2 x3 x7 x8:AV) (H0 H:Hp):L09_count_J3 x1 x2 x3 x7 x8 H0 H =
    bnd (afield 8 x3) fun t42=>
    bnd (aload false 1 t42 H) fun t43=>
    bnd (aindexS 9 t43 x8) fun t45=>
    bnd (aload true 9 t45 H) fun t46=>
    bnd (ibin .sub x1 x7) fun t49=>
    bnd (ibin .sub x2 (.int .i64 1)) fun t51=>
    bnd (roC C_L09_count [t46,t49,t51] H) fun r52=>
    bnd (ibin .add x7 r52.1) fun t53=>
    L09_count_J4 x1 x2 x3 t53 x8 H0 r52.2:=(CXM_eq [3,6,7,8] _ _ _ _).trans (by kernel_rfl)
theorem L09_count_L1_eq (x1 x2 x3 x7 x8:AV) (H0 H:Hp):L09_count_L1 x1 x2 x3 x7 x8 H0 H =
    bnd (afield 8 x3) fun t30=>
    bnd (aload false 1 t30 H) fun t31=>
    bnd (alenD (.slice 28) t31) fun t32=>
    bnd (ibin .lss x8 t32) fun t33=>
    bnd (gdv t33 true (.tuple []) (some x7)) fun t35=>
    bnd (gdv t33 true (.tuple []) (some x1)) fun t36=>
    bnd (gdv t33 true (.tuple []) (ibin .leq t35 t36)) fun t37=>
    bnd (apick t33 t37 (.bool false)) fun t38=>
    cnd t38
     (L09_count_J3 x1 x2 x3 x7 x8 H0 H)
     (L09_count_J2 x7 H0 H):=(LPL_eqm (C:=cfg) [3,6,7,8] (tame_block 0 (L09_count_K1_tame H0)) _ _).trans (by kernel_rfl)
theorem L09_count_J1_eq (x1 x2 x3:AV) (H0 H:Hp):L09_count_J1 x1 x2 x3 H0 H =
    L09_count_L1 x1 x2 x3 (.int .i64 1) (.int .i64 0) H0 H:=(CXM_eq [3,6,7,8] _ _ _ _).trans (by kernel_rfl)
theorem F_L09_count_eq (p0 p1 p2:AV) (H:Hp):C_L09_count [p0,p1,p2] H=F_L09_count p0 p1 p2 H:=(callw_cxm (C:=cfg) (fn:=Try.f16) (c:=bodyOf Try.f16) (n:=55) [3,6,7,8] Try.func16 (by kernel_rfl) (by kernel_rfl) [p0,p1,p2] (by kernel_rfl) H).trans (by kernel_rfl)

def R09_SameSpans_J2 (H0 H:Hp):Res:=CXgL 23 26 (sub (bodyOf Try.f23) [1,1,1]) (retL cfg 26 23 Try.f23 H0) [] H
def R09_SameSpans_K1 (H0:Hp):KL:=seqL (fun k al H=>CXgL 23 26 (sub (bodyOf Try.f23) [1,1,1]) k (trimL (cfg.keep 23) (sub (bodyOf Try.f23) [1,1,1]) al) H) (retL cfg 26 23 Try.f23 H0)
theorem R09_SameSpans_K1_tame (H0:Hp):Tame 26 (R09_SameSpans_K1 H0):=tame_seq (C:=cfg) (kp:=cfg.keep 23) (sub (bodyOf Try.f23) [1,1,1]) (tame_ret 23 Try.f23 H0)
def R09_SameSpans_J4 (x0 x1 x5:AV) (H0 H:Hp):Res:=CXgL 23 26 (sub (bodyOf Try.f23) [1,1,0,1,0,0,1,1]) (seqL (fun k al H=>LPgL 23 26 (sub (bodyOf Try.f23) [1,1,0,1,0,0]) k (trimL (cfg.keep 23) (sub (bodyOf Try.f23) [1,1,0,1,0,0]) al) H) (blockL 0 (R09_SameSpans_K1 H0))) [(0,x0),(1,x1),(5,x5)] H
def R09_SameSpans_J3 (x0 x1 x5:AV) (H0 H:Hp):Res:=CXgL 23 26 (sub (bodyOf Try.f23) [1,1,0,1,0,0,1]) (seqL (fun k al H=>LPgL 23 26 (sub (bodyOf Try.f23) [1,1,0,1,0,0]) k (trimL (cfg.keep 23) (sub (bodyOf Try.f23) [1,1,0,1,0,0]) al) H) (blockL 0 (R09_SameSpans_K1 H0))) [(0,x0),(1,x1),(5,x5)] H
def R09_SameSpans_L1 (x0 x1 x5:AV) (H0 H:Hp):Res:=LPgL 23 26 (sub (bodyOf Try.f23) [1,1,0,1,0,0]) (blockL 0 (R09_SameSpans_K1 H0)) [(0,x0),(1,x1),(5,x5)] H
def R09_SameSpans_J1 (x0 x1:AV) (H0 H:Hp):Res:=CXgL 23 26 (sub (bodyOf Try.f23) [1,1]) (retL cfg 26 23 Try.f23 H0) [(0,x0),(1,x1)] H
def F_R09_SameSpans (p0 p1:AV) (H:Hp):Res:=
 bnd (alenD (.slice 30) p0) fun t7=>
 bnd (alenD (.slice 30) p1) fun t9=>
 bnd (ibin .neq t7 t9) fun t10=>
 cnd t10
  (some ((.bool false),H))
  (R09_SameSpans_J1 p0 p1 H H)
theorem R09_SameSpans_J2_eq (H0 H:Hp):R09_SameSpans_J2 H0 H =
    some ((.bool true),H):=(CXM_eq [3,5,6,8] _ _ _ _).trans (by kernel_rfl)
theorem R09_SameSpans_J4_eq (x0 x1 x5:AV) (H0 H:Hp):R09_SameSpans_J4 x0 x1 x5 H0 H =
    bnd (ibin .add x5 (.int .i64 1)) fun t16=>
    R09_SameSpans_L1 x0 x1 t16 H0 H:=(CXM_eq [3,5,6,8] _ _ _ _).trans (by kernel_rfl)
theorem R09_SameSpans_J3_eq (x0 x1 x5:AV) (H0 H:Hp):R09_SameSpans_J3 x0 x1 x5 H0 H =
    bnd (aindexS 2 x0 x5) fun t19=>
    bnd (aload true 2 t19 H) fun t20=>
    bnd (aindexS 2 x1 x5) fun t23=>
    bnd (aload true 2 t23 H) fun t24=>
    bnd (aeqBin Try.prog cfg.eqok .neq 30 t20 t24) fun t25=>
    cnd t25
     (some ((.bool false),H))
     (R09_SameSpans_J4 x0 x1 x5 H0 H):=(CXM_eq [3,5,6,8] _ _ _ _).trans (by kernel_rfl)
theorem R09_SameSpans_L1_eq (x0 x1 x5:AV) (H0 H:Hp):R09_SameSpans_L1 x0 x1 x5 H0 H =
    bnd (alenD (.slice 30) x0) fun t13=>
    bnd (ibin .lss x5 t13) fun t14=>
    cnd t14
     (R09_SameSpans_J3 x0 x1 x5 H0 H)
     (R09_SameSpans_J2 H0 H):=(LPL_eqm (C:=cfg) [3,5,6,8] (tame_block 0 (R09_SameSpans_K1_tame H0)) _ _).trans (by kernel_rfl)
theorem R09_SameSpans_J1_eq (x0 x1:AV) (H0 H:Hp):R09_SameSpans_J1 x0 x1 H0 H =
    R09_SameSpans_L1 x0 x1 (.int .i64 0) H0 H:=(CXM_eq [3,5,6,8] _ _ _ _).trans (by kernel_rfl)
theorem F_R09_SameSpans_eq (p0 p1:AV) (H:Hp):C_R09_SameSpans [p0,p1] H=F_R09_SameSpans p0 p1 H:=(callw_cxm (C:=cfg) (fn:=Try.f23) (c:=bodyOf Try.f23) (n:=26) [3,5,6,8] Try.func23 (by kernel_rfl) (by kernel_rfl) [p0,p1] (by kernel_rfl) H).trans (by kernel_rfl)

end
end Go.Am
