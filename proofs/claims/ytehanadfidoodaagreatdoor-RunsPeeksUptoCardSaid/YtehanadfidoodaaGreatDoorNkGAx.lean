/-
  The functions of the translation over the abstract machine, a further part: written by program (wip/gen.py).
-/
import Derived.Test.YtehanadfidoodaaGreatDoorNkGx
namespace Go.Am
open Go.Proofs
set_option maxRecDepth 100000
set_option linter.unusedVariables false
set_option linter.unusedSimpArgs false
noncomputable abbrev CXgA (f n:Nat):=CXL cfg (callw cfg) (LPL cfg (cfg.keep f) n) (cfg.keep f) n seqL blockL
noncomputable abbrev LPgA (f n:Nat):=LPL cfg (cfg.keep f) n
noncomputable section

def L22_awake_J1 (x7 x8 x9 x10 x11 x12:AV) (H0 H:Hp):Res:=CXgA 24 93 (sub (bodyOf Tryz.f24) [1,1,1,1,1,1,1,1]) (retL cfg 93 24 Tryz.f24 H0) [(7,x7),(8,x8),(9,x9),(10,x10),(11,x11),(12,x12)] H
def F_L22_awake (H:Hp):Res:=
  bnd ((setElems 1 [(0,(.str [97])),(1,(.str [98,98])),(2,(.str [99]))] [(.str []),(.str []),(.str [])]).map (.vs 1 .clip)) fun t13=>
  bnd (flatC C_runs_Split [t13,(.int .i64 35)] H) fun r14=>
  bnd (C_store_New [(.int .i64 1000)] r14.2) fun r16=>
  bnd (C_tempfile_Open [r16.1,(.str [97]),(.int .i64 1000)] r16.2) fun r17=>
  bnd (aext r17.1 0) fun t18=>
  bnd (aext r17.1 1) fun t19=>
  bnd (flatC C_R05_Default [] r17.2) fun r22=>
  bnd ((afill [(1,1,(.int .i64 (-1)))] [.nils,(.int .i64 0),(.int .i64 0),(.bool false),(.bool false)]).map .agg) fun t23=>
  bnd ((setElems 1 [(0,(.str [98])),(1,(.str [97]))] [(.str []),(.str [])]).map (.vs 1 .clip)) fun t24=>
  bnd (C_runs_Write [t18,r22.1,t23,t24] r22.2) fun r25=>
  bnd (aext r25.1 0) fun t26=>
  bnd (aext r25.1 1) fun t27=>
  bnd (C_runs_Open [t18,t26] r25.2) fun r30=>
  bnd (C_runs_Reader_Next [r30.1] r30.2) fun r33=>
  bnd (aext r33.1 0) fun t34=>
  bnd (aext r33.1 1) fun t35=>
  bnd (aext r33.1 2) fun t36=>
  bnd (C_runs_Reader_Peek [r30.1] r33.2) fun r39=>
  bnd (aext r39.1 0) fun t40=>
  bnd (aext r39.1 1) fun t41=>
  bnd (aext r39.1 2) fun t42=>
  bnd (alenD (.slice 32) r14.1) fun t44=>
  bnd (ibin .neq t44 (.int .i64 2)) fun t45=>
  bnd (gdv t45 false (.tuple []) (some r14.1)) fun t47=>
  bnd (gdv t45 false (.tuple []) (aindexS 1 t47 (.int .i64 0))) fun t48=>
  bnd (gdv t45 false (.tuple []) (aload false 1 t48 r39.2)) fun t49=>
  bnd (gdv t45 false (.tuple []) (alenD (.slice 9) t49)) fun t50=>
  bnd (gdv t45 false (.tuple []) (ibin .neq t50 (.int .i64 2))) fun t51=>
  bnd (apick t45 (.bool true) t51) fun t52=>
  bnd (gdv t52 false (.tuple []) (some r14.1)) fun t54=>
  bnd (gdv t52 false (.tuple []) (aindexS 1 t54 (.int .i64 1))) fun t55=>
  bnd (gdv t52 false (.tuple []) (aload false 1 t55 r39.2)) fun t56=>
  bnd (gdv t52 false (.tuple []) (aindexS 1 t56 (.int .i64 0))) fun t57=>
  bnd (gdv t52 false (.tuple []) (aload false 1 t57 r39.2)) fun t58=>
  bnd (gdv t52 false (.tuple []) (sbin .neq t58 (.str [99]))) fun t59=>
  bnd (apick t52 (.bool true) t59) fun t60=>
  bnd (gdv t60 false (.tuple []) (some t19)) fun t62=>
  bnd (gdv t60 false (.tuple []) (ibin .neq t62 (.int .i64 0))) fun t63=>
  bnd (apick t60 (.bool true) t63) fun t64=>
  bnd (gdv t64 false (.tuple []) (some t27)) fun t66=>
  bnd (gdv t64 false (.tuple []) (ibin .neq t66 (.int .i64 0))) fun t67=>
  bnd (apick t64 (.bool true) t67) fun t68=>
  bnd (gdv t68 false (.tuple []) (some t26)) fun t70=>
  bnd (gdv t68 false (.tuple []) (sbin .neq t70 (.str [46,116,109,112,46,97,46,49]))) fun t71=>
  bnd (apick t68 (.bool true) t71) fun t72=>
  cnd t72
    (some ((.bool false),r39.2))
    (L22_awake_J1 t34 t35 t36 t40 t41 t42 H r39.2)
theorem L22_awake_J1_eq (x7 x8 x9 x10 x11 x12:AV) (H0 H:Hp):L22_awake_J1 x7 x8 x9 x10 x11 x12 H0 H =
    bnd (sbin .eql x7 (.str [97])) fun t74=>
    bnd (gdv t74 true (.tuple []) (some x8)) fun t76=>
    bnd (apick t74 t76 (.bool false)) fun t77=>
    bnd (gdv t77 true (.tuple []) (some x9)) fun t79=>
    bnd (gdv t77 true (.tuple []) (ibin .eql t79 (.int .i64 0))) fun t80=>
    bnd (apick t77 t80 (.bool false)) fun t81=>
    bnd (gdv t81 true (.tuple []) (some x10)) fun t83=>
    bnd (gdv t81 true (.tuple []) (sbin .eql t83 (.str [98]))) fun t84=>
    bnd (apick t81 t84 (.bool false)) fun t85=>
    bnd (gdv t85 true (.tuple []) (some x11)) fun t87=>
    bnd (apick t85 t87 (.bool false)) fun t88=>
    bnd (gdv t88 true (.tuple []) (some x12)) fun t90=>
    bnd (gdv t88 true (.tuple []) (ibin .eql t90 (.int .i64 0))) fun t91=>
    bnd (apick t88 t91 (.bool false)) fun t92=>
    some (t92,H):=(CXM_eq [9] _ _ _ _).trans (by kernel_rfl)
theorem F_L22_awake_eq (H:Hp):C_L22_awake [] H = F_L22_awake H:=(callw_cxm (C:=cfg) (fn:=Tryz.f24) (c:=bodyOf Tryz.f24) (n:=93) [9] Tryz.func24 (by kernel_rfl) (by kernel_rfl) [] (by kernel_rfl) H).trans (by kernel_rfl)

end
end Go.Am
