/-
  The functions of the translation over the abstract machine, a further part: written by program (wip/gen.py).
-/
import Derived.Test.YtpahcdhligjdiaaRcGx
namespace Go.Am
open Go.Proofs
set_option maxRecDepth 100000
set_option linter.unusedVariables false
set_option linter.unusedSimpArgs false
noncomputable abbrev CXgL (f n:Nat):=CXL cfg (callw cfg) (LPL cfg (cfg.keep f) n) (cfg.keep f) n seqL blockL
noncomputable abbrev LPgL (f n:Nat):=LPL cfg (cfg.keep f) n
noncomputable section

def L13_RecaptureAgrees_J2 (x3 x5 x8:AV) (H0 H:Hp):Res:=CXgL 5 89 (sub (bodyOf Try.f5) [1,1,1,1,1]) (retL cfg 89 5 Try.f5 H0) [(3,x3),(5,x5),(8,x8)] H
def L13_RecaptureAgrees_J1 (x2 x3:AV) (H0 H:Hp):Res:=CXgL 5 89 (sub (bodyOf Try.f5) [1,1]) (retL cfg 89 5 Try.f5 H0) [(2,x2),(3,x3)] H
def F_L13_RecaptureAgrees (p0 p1:AV) (H:Hp):Res:=
 bnd (abox p0 H) fun r2=>
 bnd (abox p1 r2.2) fun r3=>
 bnd (aload true 9 r2.1 r3.2) fun t12=>
 bnd (roC C_L09_Small [t12,(.int .i64 60)] r3.2) fun r13=>
 bnd (aun .not r13.1) fun t14=>
 bnd (gdv t14 false (.tuple []) (afield 0 r3.1)) fun t16=>
 bnd (gdv t14 false (.tuple []) (aload false 1 t16 r13.2)) fun t17=>
 bnd (gdv t14 false (.tuple []) (alenD .string t17)) fun t18=>
 bnd (gdv t14 false (.tuple []) (ibin .gtr t18 (.int .i64 40))) fun t19=>
 bnd (apick t14 (.bool true) t19) fun t20=>
 cnd t20
  (bnd (flatC C_L13_awake [] r13.2) fun r21=>
  some (r21.1,r21.2))
  (L13_RecaptureAgrees_J1 r2.1 r3.1 H r13.2)
theorem L13_RecaptureAgrees_J2_eq (x3 x5 x8:AV) (H0 H:Hp):L13_RecaptureAgrees_J2 x3 x5 x8 H0 H =
    bnd (aload true 2 x5 H) fun t57=>
    bnd (afield 0 x3) fun t58=>
    bnd (aload false 1 t58 H) fun t59=>
    bnd (afield 1 x3) fun t60=>
    bnd (afield 0 t60) fun t61=>
    bnd (aload false 1 t61 H) fun t62=>
    bnd (afield 1 x3) fun t63=>
    bnd (afield 1 t63) fun t64=>
    bnd (aload false 1 t64 H) fun t65=>
    bnd (C_resim_Threads [t57,t59,t62,t65] H) fun r66=>
    bnd (alenD (.slice 3) r66.1) fun t68=>
    bnd (ibin .gtr t68 (.int .i64 0)) fun t69=>
    bnd (gdv t69 true (.tuple []) (some r66.1)) fun t71=>
    bnd (gdv t69 true (.tuple []) (some r66.1)) fun t72=>
    bnd (gdv t69 true (.tuple []) (alenD (.slice 3) t72)) fun t73=>
    bnd (gdv t69 true (.tuple []) (ibin .sub t73 (.int .i64 1))) fun t74=>
    bnd (gdv t69 true (.tuple []) (aindexS 1 t71 t74)) fun t75=>
    bnd (gdv t69 true (.tuple []) (aload false 1 t75 r66.2)) fun t76=>
    bnd (gdv t69 true (.tuple []) (afield 0 x5)) fun t77=>
    bnd (gdv t69 true (.tuple []) (aload false 1 t77 r66.2)) fun t78=>
    bnd (gdv t69 true (.tuple []) (alenD (.slice 76) t78)) fun t79=>
    bnd (gdv t69 true (.tuple []) (ibin .sub t79 (.int .i64 1))) fun t80=>
    bnd (gdv t69 true (.tuple []) (ibin .eql t76 t80)) fun t81=>
    bnd (apick t69 t81 (.bool false)) fun t82=>
    bnd (ebin .bool .eql x8 t82) fun t85=>
    bnd (gdv t85 true ((.tuple []),r66.2) (flatC C_L13_awake [] r66.2)) fun r87=>
    bnd (apick t85 r87.1 (.bool false)) fun t88=>
    some (t88,r87.2):=(CXM_eq [3,7] _ _ _ _).trans (by kernel_rfl)
theorem L13_RecaptureAgrees_J1_eq (x2 x3:AV) (H0 H:Hp):L13_RecaptureAgrees_J1 x2 x3 H0 H =
    bnd (aload true 9 x2 H) fun t23=>
    bnd (afield 3 x3) fun t24=>
    bnd (aload false 1 t24 H) fun t25=>
    bnd (flatC C_reprog_Compile [t23,t25] H) fun r26=>
    bnd (aext r26.1 0) fun t27=>
    bnd (aext r26.1 1) fun t28=>
    bnd (some ((.ptr r26.2.length 0),r26.2++[.cells [.nils,(.bool false)]])) fun r5=>
    bnd (astoreU 2 r5.1 t27 r5.2) fun r_10=>
    bnd (aload true 9 x2 r_10.2) fun t30=>
    bnd (afield 0 x3) fun t31=>
    bnd (aload false 1 t31 r_10.2) fun t32=>
    bnd (afield 1 x3) fun t33=>
    bnd (aload true 2 t33 r_10.2) fun t34=>
    bnd (afield 3 x3) fun t35=>
    bnd (aload false 1 t35 r_10.2) fun t36=>
    bnd (C_recapture_Captures [t30,t32,t34,t36] r_10.2) fun r37=>
    bnd (aext r37.1 0) fun t38=>
    bnd (aext r37.1 1) fun t39=>
    bnd (aext r37.1 2) fun t40=>
    bnd (some ((.ptr r37.2.length 0),r37.2++[.cells [.nils]])) fun r7=>
    bnd (astoreU 1 r7.1 t38 r7.2) fun r_23=>
    bnd (ibin .neq t28 (.int .i64 0)) fun t42=>
    bnd (gdv t42 false (.tuple []) (some t40)) fun t44=>
    bnd (gdv t42 false (.tuple []) (ibin .neq t44 (.int .i64 0))) fun t45=>
    bnd (apick t42 (.bool true) t45) fun t46=>
    cnd t46
     (bnd (ibin .eql t28 (.int .i64 0)) fun t48=>
     bnd (gdv t48 false (.tuple []) (some t40)) fun t50=>
     bnd (gdv t48 false (.tuple []) (some t28)) fun t51=>
     bnd (gdv t48 false (.tuple []) (ibin .eql t50 t51)) fun t52=>
     bnd (apick t48 (.bool true) t52) fun t53=>
     bnd (gdv t53 true ((.tuple []),r_23.2) (flatC C_L13_awake [] r_23.2)) fun r55=>
     bnd (apick t53 r55.1 (.bool false)) fun t56=>
     some (t56,r55.2))
     (L13_RecaptureAgrees_J2 x3 r5.1 t39 H0 r_23.2):=(CXM_eq [3,7] _ _ _ _).trans (by kernel_rfl)
theorem F_L13_RecaptureAgrees_eq (p0 p1:AV) (H:Hp):C_L13_RecaptureAgrees [p0,p1] H=F_L13_RecaptureAgrees p0 p1 H:=(callw_cxm (C:=cfg) (fn:=Try.f5) (c:=bodyOf Try.f5) (n:=89) [3,7] Try.func5 (by kernel_rfl) (by kernel_rfl) [p0,p1] (by kernel_rfl) H).trans (by kernel_rfl)

def F_L09_Small (p0 p1:AV) (H:Hp):Res:=
 bnd (abox p0 H) fun r2=>
 bnd (aload true 9 r2.1 r2.2) fun t5=>
 bnd (roC C_L09_count [t5,p1,(.int .i64 8)] r2.2) fun r7=>
 bnd (ibin .leq r7.1 p1) fun t9=>
 some (t9,r7.2)
theorem F_L09_Small_eq (p0 p1:AV) (H:Hp):C_L09_Small [p0,p1] H=F_L09_Small p0 p1 H:=(callw_cxm (C:=cfg) (fn:=Try.f6) (c:=bodyOf Try.f6) (n:=10) [] Try.func6 (by kernel_rfl) (by kernel_rfl) [p0,p1] (by kernel_rfl) H).trans (by kernel_rfl)

def L13_awake_J1 (x3:AV) (H0 H:Hp):Res:=CXgL 8 62 (sub (bodyOf Try.f8) [1,1,1,1,1]) (retL cfg 62 8 Try.f8 H0) [(3,x3)] H
def F_L13_awake (H:Hp):Res:=
 bnd (flatC C_L09_Byte [(.int .u8 97)] H) fun r6=>
 bnd ((setElems 9 [(0,r6.1)] [(.agg [(.int .i64 0),(.int .u64 0),(.int .u64 0),(.int .u64 0),(.int .u64 0),(.int .i64 0),(.int .i64 0),(.int .i64 0),.nils])]).map (.vs 9 .clip)) fun t7=>
 bnd ((afill [(0,1,(.int .i64 6)),(7,1,(.int .i64 1)),(8,1,t7)] [(.int .i64 0),(.int .u64 0),(.int .u64 0),(.int .u64 0),(.int .u64 0),(.int .i64 0),(.int .i64 0),(.int .i64 0),.nils]).map .agg) fun t8=>
 bnd (some ((.ptr r6.2.length 0),r6.2++[.cells [(.int .i64 0),(.int .u64 0),(.int .u64 0),(.int .u64 0),(.int .u64 0),(.int .i64 0),(.int .i64 0),(.int .i64 0),.nils]])) fun r1=>
 bnd (astoreU 9 r1.1 t8 r1.2) fun r_5=>
 bnd (flatC C_L09_Byte [(.int .u8 97)] r_5.2) fun r9=>
 bnd (flatC C_L09_Byte [(.int .u8 98)] r9.2) fun r10=>
 bnd ((setElems 9 [(0,r9.1),(1,r10.1)] [(.agg [(.int .i64 0),(.int .u64 0),(.int .u64 0),(.int .u64 0),(.int .u64 0),(.int .i64 0),(.int .i64 0),(.int .i64 0),.nils]),(.agg [(.int .i64 0),(.int .u64 0),(.int .u64 0),(.int .u64 0),(.int .u64 0),(.int .i64 0),(.int .i64 0),(.int .i64 0),.nils])]).map (.vs 9 .clip)) fun t11=>
 bnd (flatC C_L09_Node [(.int .i64 3),t11] r10.2) fun r12=>
 bnd ((setElems 9 [(0,r12.1)] [(.agg [(.int .i64 0),(.int .u64 0),(.int .u64 0),(.int .u64 0),(.int .u64 0),(.int .i64 0),(.int .i64 0),(.int .i64 0),.nils])]).map (.vs 9 .clip)) fun t13=>
 bnd ((afill [(0,1,(.int .i64 6)),(7,1,(.int .i64 2)),(8,1,t13)] [(.int .i64 0),(.int .u64 0),(.int .u64 0),(.int .u64 0),(.int .u64 0),(.int .i64 0),(.int .i64 0),(.int .i64 0),.nils]).map .agg) fun t14=>
 bnd (some ((.ptr r12.2.length 0),r12.2++[.cells [(.int .i64 0),(.int .u64 0),(.int .u64 0),(.int .u64 0),(.int .u64 0),(.int .i64 0),(.int .i64 0),(.int .i64 0),.nils]])) fun r2=>
 bnd (astoreU 9 r2.1 t14 r2.2) fun r_13=>
 bnd (aload true 9 r1.1 r_13.2) fun t16=>
 bnd (aload true 9 r2.1 r_13.2) fun t17=>
 bnd ((setElems 9 [(0,t16),(1,t17)] [(.agg [(.int .i64 0),(.int .u64 0),(.int .u64 0),(.int .u64 0),(.int .u64 0),(.int .i64 0),(.int .i64 0),(.int .i64 0),.nils]),(.agg [(.int .i64 0),(.int .u64 0),(.int .u64 0),(.int .u64 0),(.int .u64 0),(.int .i64 0),(.int .i64 0),(.int .i64 0),.nils])]).map (.vs 9 .clip)) fun t18=>
 bnd (flatC C_L09_Node [(.int .i64 4),t18] r_13.2) fun r19=>
 bnd ((afill [(0,1,(.int .i64 0)),(1,1,(.int .i64 2))] [(.int .i64 0),(.int .i64 0)]).map .agg) fun t20=>
 bnd (C_recapture_Captures [r19.1,(.str [97,98]),t20,(.bool false)] r19.2) fun r21=>
 bnd (aext r21.1 0) fun t22=>
 bnd (aext r21.1 1) fun t23=>
 bnd (aext r21.1 2) fun t24=>
 bnd (some ((.ptr r21.2.length 0),r21.2++[.cells [.nils]])) fun r3=>
 bnd (astoreU 1 r3.1 t22 r3.2) fun r_24=>
 bnd (aun .not t23) fun t26=>
 bnd (gdv t26 false (.tuple []) (some t24)) fun t28=>
 bnd (gdv t26 false (.tuple []) (ibin .neq t28 (.int .i64 0))) fun t29=>
 bnd (apick t26 (.bool true) t29) fun t30=>
 bnd (gdv t30 false (.tuple []) (afield 0 r3.1)) fun t32=>
 bnd (gdv t30 false (.tuple []) (aload false 1 t32 r_24.2)) fun t33=>
 bnd (gdv t30 false (.tuple []) (alenD (.slice 30) t33)) fun t34=>
 bnd (gdv t30 false (.tuple []) (ibin .neq t34 (.int .i64 3))) fun t35=>
 bnd (apick t30 (.bool true) t35) fun t36=>
 cnd t36
  (some ((.bool false),r_24.2))
  (L13_awake_J1 r3.1 H r_24.2)
theorem L13_awake_J1_eq (x3:AV) (H0 H:Hp):L13_awake_J1 x3 H0 H =
    bnd (afield 0 x3) fun t37=>
    bnd (aload false 1 t37 H) fun t38=>
    bnd (aindexS 2 t38 (.int .i64 0)) fun t39=>
    bnd (aload true 2 t39 H) fun t40=>
    bnd ((afill [(0,1,(.int .i64 0)),(1,1,(.int .i64 2))] [(.int .i64 0),(.int .i64 0)]).map .agg) fun t41=>
    bnd (aeqBin Try.prog cfg.eqok .eql 30 t40 t41) fun t42=>
    bnd (gdv t42 true (.tuple []) (afield 0 x3)) fun t44=>
    bnd (gdv t42 true (.tuple []) (aload false 1 t44 H)) fun t45=>
    bnd (gdv t42 true (.tuple []) (aindexS 2 t45 (.int .i64 1))) fun t46=>
    bnd (gdv t42 true (.tuple []) (aload true 2 t46 H)) fun t47=>
    bnd (gdv t42 true (.tuple []) ((afill [(0,1,(.int .i64 (-1))),(1,1,(.int .i64 (-1)))] [(.int .i64 0),(.int .i64 0)]).map .agg)) fun t48=>
    bnd (gdv t42 true (.tuple []) (aeqBin Try.prog cfg.eqok .eql 30 t47 t48)) fun t49=>
    bnd (apick t42 t49 (.bool false)) fun t50=>
    bnd (gdv t50 true (.tuple []) (afield 0 x3)) fun t52=>
    bnd (gdv t50 true (.tuple []) (aload false 1 t52 H)) fun t53=>
    bnd (gdv t50 true (.tuple []) (aindexS 2 t53 (.int .i64 2))) fun t54=>
    bnd (gdv t50 true (.tuple []) (aload true 2 t54 H)) fun t55=>
    bnd (gdv t50 true (.tuple []) (afield 0 x3)) fun t56=>
    bnd (gdv t50 true (.tuple []) (aload false 1 t56 H)) fun t57=>
    bnd (gdv t50 true (.tuple []) (aindexS 2 t57 (.int .i64 0))) fun t58=>
    bnd (gdv t50 true (.tuple []) (aload true 2 t58 H)) fun t59=>
    bnd (gdv t50 true (.tuple []) (aeqBin Try.prog cfg.eqok .eql 30 t55 t59)) fun t60=>
    bnd (apick t50 t60 (.bool false)) fun t61=>
    some (t61,H):=(CXM_eq [6] _ _ _ _).trans (by kernel_rfl)
theorem F_L13_awake_eq (H:Hp):C_L13_awake [] H=F_L13_awake H:=(callw_cxm (C:=cfg) (fn:=Try.f8) (c:=bodyOf Try.f8) (n:=62) [6] Try.func8 (by kernel_rfl) (by kernel_rfl) [] (by kernel_rfl) H).trans (by kernel_rfl)

def L09_count_J2 (x7:AV) (H0 H:Hp):Res:=CXgL 16 55 (sub (bodyOf Try.f16) [1,1,1,1]) (retL cfg 55 16 Try.f16 H0) [(7,x7)] H
def L09_count_K1 (H0:Hp):KL:=seqL (fun k al H=>CXgL 16 55 (sub (bodyOf Try.f16) [1,1,1,1]) k (trimL (cfg.keep 16) (sub (bodyOf Try.f16) [1,1,1,1]) al) H) (retL cfg 55 16 Try.f16 H0)
theorem L09_count_K1_tame (H0:Hp):Tame 55 (L09_count_K1 H0):=tame_seq (C:=cfg) (kp:=cfg.keep 16) (sub (bodyOf Try.f16) [1,1,1,1]) (tame_ret 16 Try.f16 H0)
def L09_count_J4 (x1 x2 x3 x7 x8:AV) (H0 H:Hp):Res:=CXgL 16 55 (sub (bodyOf Try.f16) [1,1,1,0,1,0,0,1,1]) (seqL (fun k al H=>LPgL 16 55 (sub (bodyOf Try.f16) [1,1,1,0,1,0,0]) k (trimL (cfg.keep 16) (sub (bodyOf Try.f16) [1,1,1,0,1,0,0]) al) H) (blockL 0 (L09_count_K1 H0))) [(1,x1),(2,x2),(3,x3),(7,x7),(8,x8)] H
def L09_count_J3 (x1 x2 x3 x7 x8:AV) (H0 H:Hp):Res:=CXgL 16 55 (sub (bodyOf Try.f16) [1,1,1,0,1,0,0,1]) (seqL (fun k al H=>LPgL 16 55 (sub (bodyOf Try.f16) [1,1,1,0,1,0,0]) k (trimL (cfg.keep 16) (sub (bodyOf Try.f16) [1,1,1,0,1,0,0]) al) H) (blockL 0 (L09_count_K1 H0))) [(1,x1),(2,x2),(3,x3),(7,x7),(8,x8)] H
def L09_count_L1 (x1 x2 x3 x7 x8:AV) (H0 H:Hp):Res:=LPgL 16 55 (sub (bodyOf Try.f16) [1,1,1,0,1,0,0]) (blockL 0 (L09_count_K1 H0)) [(1,x1),(2,x2),(3,x3),(7,x7),(8,x8)] H
def L09_count_J1 (x1 x2 x3:AV) (H0 H:Hp):Res:=CXgL 16 55 (sub (bodyOf Try.f16) [1,1]) (retL cfg 55 16 Try.f16 H0) [(1,x1),(2,x2),(3,x3)] H
def F_L09_count (p0 p1 p2:AV) (H:Hp):Res:=
 bnd (abox p0 H) fun r3=>
 bnd (ibin .eql p2 (.int .i64 0)) fun t10=>
 bnd (gdv t10 false (.tuple []) (afield 8 r3.1)) fun t12=>
 bnd (gdv t10 false (.tuple []) (aload false 1 t12 r3.2)) fun t13=>
 bnd (gdv t10 false (.tuple []) (alenD (.slice 28) t13)) fun t14=>
 bnd (gdv t10 false (.tuple []) (ibin .gtr t14 (.int .i64 6))) fun t15=>
 bnd (apick t10 (.bool true) t15) fun t16=>
 bnd (gdv t16 false (.tuple []) (afield 5 r3.1)) fun t18=>
 bnd (gdv t16 false (.tuple []) (aload false 1 t18 r3.2)) fun t19=>
 bnd (gdv t16 false (.tuple []) (ibin .gtr t19 (.int .i64 4))) fun t20=>
 bnd (apick t16 (.bool true) t20) fun t21=>
 bnd (gdv t21 false (.tuple []) (afield 6 r3.1)) fun t23=>
 bnd (gdv t21 false (.tuple []) (aload false 1 t23 r3.2)) fun t24=>
 bnd (gdv t21 false (.tuple []) (ibin .gtr t24 (.int .i64 4))) fun t25=>
 bnd (apick t21 (.bool true) t25) fun t26=>
 cnd t26
  (bnd (ibin .add p1 (.int .i64 1)) fun t28=>
  some (t28,r3.2))
  (L09_count_J1 p1 p2 r3.1 H r3.2)
theorem L09_count_J2_eq (x7:AV) (H0 H:Hp):L09_count_J2 x7 H0 H =
    some (x7,H):=(CXM_eq [3,6,7,8] _ _ _ _).trans (by kernel_rfl)
theorem L09_count_J4_eq (x1 x2 x3 x7 x8:AV) (H0 H:Hp):L09_count_J4 x1 x2 x3 x7 x8 H0 H =
    bnd (ibin .add x8 (.int .i64 1)) fun t40=>
    L09_count_L1 x1 x2 x3 x7 t40 H0 H:=(CXM_eq [3,6,7,8] _ _ _ _).trans (by kernel_rfl)
theorem L09_count_J3_eq (x1 x2 x3 x7 x8:AV) (H0 H:Hp):L09_count_J3 x1 x2 x3 x7 x8 H0 H =
    bnd (afield 8 x3) fun t42=>
    bnd (aload false 1 t42 H) fun t43=>
    bnd (aindexS 9 t43 x8) fun t45=>
    bnd (aload true 9 t45 H) fun t46=>
    bnd (ibin .sub x1 x7) fun t49=>
    bnd (ibin .sub x2 (.int .i64 1)) fun t51=>
    bnd (roC C_L09_count [t46,t49,t51] H) fun r52=>
    bnd (ibin .add x7 r52.1) fun t53=>
    L09_count_J4 x1 x2 x3 t53 x8 H0 r52.2:=(CXM_eq [3,6,7,8] _ _ _ _).trans (by kernel_rfl)
theorem L09_count_L1_eq (x1 x2 x3 x7 x8:AV) (H0 H:Hp):L09_count_L1 x1 x2 x3 x7 x8 H0 H =
    bnd (afield 8 x3) fun t30=>
    bnd (aload false 1 t30 H) fun t31=>
    bnd (alenD (.slice 28) t31) fun t32=>
    bnd (ibin .lss x8 t32) fun t33=>
    bnd (gdv t33 true (.tuple []) (some x7)) fun t35=>
    bnd (gdv t33 true (.tuple []) (some x1)) fun t36=>
    bnd (gdv t33 true (.tuple []) (ibin .leq t35 t36)) fun t37=>
    bnd (apick t33 t37 (.bool false)) fun t38=>
    cnd t38
     (L09_count_J3 x1 x2 x3 x7 x8 H0 H)
     (L09_count_J2 x7 H0 H):=(LPL_eqm (C:=cfg) [3,6,7,8] (tame_block 0 (L09_count_K1_tame H0)) _ _).trans (by kernel_rfl)
theorem L09_count_J1_eq (x1 x2 x3:AV) (H0 H:Hp):L09_count_J1 x1 x2 x3 H0 H =
    L09_count_L1 x1 x2 x3 (.int .i64 1) (.int .i64 0) H0 H:=(CXM_eq [3,6,7,8] _ _ _ _).trans (by kernel_rfl)
theorem F_L09_count_eq (p0 p1 p2:AV) (H:Hp):C_L09_count [p0,p1,p2] H=F_L09_count p0 p1 p2 H:=(callw_cxm (C:=cfg) (fn:=Try.f16) (c:=bodyOf Try.f16) (n:=55) [3,6,7,8] Try.func16 (by kernel_rfl) (by kernel_rfl) [p0,p1,p2] (by kernel_rfl) H).trans (by kernel_rfl)

end
end Go.Am
