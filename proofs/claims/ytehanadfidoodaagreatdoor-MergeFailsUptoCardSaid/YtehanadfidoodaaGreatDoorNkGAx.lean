/-
  The functions of the translation over the abstract machine, a further part: written by program (wip/gen.py).
-/
import Derived.Test.YtehanadfidoodaaGreatDoorNkGx
namespace Go.Am
open Go.Proofs
set_option maxRecDepth 100000
set_option linter.unusedVariables false
set_option linter.unusedSimpArgs false
noncomputable section
variable (H:Hp)
def IK:Z3:=
 Z0 (Ze R3 [] H) fun r9=>
 Z0 ((YS [(1,1,(.int .i64 (-1))),(3,1,(.bool true))] [.nils,(.int .i64 0),(.int .i64 0),(.bool false),(.bool false)]).map .agg) fun t10=>
 Z0 (some ((.ptr r9.2.length 0),r9.2++[.cells [(.str []),.nils,(.str []),(.str []),.nils,.nils]])) fun r1=>
 Z0 (some ((.ptr r1.2.length 0),r1.2++[.cells [.nils,(.int .i64 0),(.int .i64 0),(.bool false),(.bool false)]])) fun r2=>
 Z0 (Zh 6 r1.1 r9.1 r2.2) fun r_5=>
 Z0 (Zh 5 r2.1 t10 r_5.2) fun r_6=>
 Z0 (Z4 true 6 r1.1 r_6.2) fun t12=>
 Z0 (Z4 true 5 r2.1 r_6.2) fun t13=>
 Z0 ((ZF 1 [(0,(.str [97])),(1,(.str [99]))] [(.str []),(.str [])]).map (.vs 1 .clip)) fun t14=>
 Z0 ((ZF 1 [(0,(.str [97])),(1,(.str [98]))] [(.str []),(.str [])]).map (.vs 1 .clip)) fun t15=>
 Z0 ((ZF 1 [(0,t14),(1,t15)] [.nils,.nils]).map (.vs 1 .clip)) fun t16=>
 Z0 (Fd [t12,t13,t16,(.bool true)] r_6.2) fun r17=>
 Z0 (ZC r17.1 0) fun t18=>
 Z0 (ZC r17.1 1) fun t19=>
 Z0 (ZC r17.1 2) fun t20=>
 X3 r1.1 r17.2 fun z1 z1H=>
 X3 r2.1 z1H fun z2 z2H=>
 Z0 (Yr true 6 z1) fun t22=>
 Z0 (Yr true 5 z2) fun t23=>
 Z0 (WA [t18,t19] z2H) fun r26=>
 Z0 (U4 [t22,t23,r26.1] r26.2) fun r27=>
 Z0 (GT [r27.1,(.int .i64 9)] r27.2) fun r28=>
 Z0 (ZC r28.1 0) fun t29=>
 Z0 (ZC r28.1 1) fun t30=>
 Z0 (Ze TN [(.int .i64 7),(.int .i64 3)] r28.2) fun r31=>
 Z0 (Z6 t20 true (.tuple []) (some t30)) fun t34=>
 Z0 (Zg t20 t34 (.bool false)) fun t35=>
 Z0 (Z6 t35 true (.tuple []) (some t29)) fun t37=>
 Z0 (Z6 t35 true (.tuple []) (Zk (.slice 9) t37)) fun t38=>
 Z0 (Z6 t35 true (.tuple []) (Z5 .eql t38 (.int .i64 3))) fun t39=>
 Z0 (Zg t35 t39 (.bool false)) fun t40=>
 Z0 (Z6 t40 true (.tuple []) (some t29)) fun t42=>
 Z0 (Z6 t40 true (.tuple []) (Zn 1 t42 (.int .i64 0))) fun t43=>
 Z0 (Z6 t40 true (.tuple []) (Z4 false 1 t43 r31.2)) fun t44=>
 Z0 (Z6 t40 true (.tuple []) (Yh .eql t44 (.str [97]))) fun t45=>
 Z0 (Zg t40 t45 (.bool false)) fun t46=>
 Z0 (Z6 t46 true (.tuple []) (some t29)) fun t48=>
 Z0 (Z6 t46 true (.tuple []) (Zn 1 t48 (.int .i64 1))) fun t49=>
 Z0 (Z6 t46 true (.tuple []) (Z4 false 1 t49 r31.2)) fun t50=>
 Z0 (Z6 t46 true (.tuple []) (Yh .eql t50 (.str [98]))) fun t51=>
 Z0 (Zg t46 t51 (.bool false)) fun t52=>
 Z0 (Z6 t52 true (.tuple []) (some t29)) fun t54=>
 Z0 (Z6 t52 true (.tuple []) (Zn 1 t54 (.int .i64 2))) fun t55=>
 Z0 (Z6 t52 true (.tuple []) (Z4 false 1 t55 r31.2)) fun t56=>
 Z0 (Z6 t52 true (.tuple []) (Yh .eql t56 (.str [99]))) fun t57=>
 Z0 (Zg t52 t57 (.bool false)) fun t58=>
 Z0 (Z6 t58 true (.tuple []) (some r31.1)) fun t60=>
 Z0 (Z6 t58 true (.tuple []) (Zk (.slice 22) t60)) fun t61=>
 Z0 (Z6 t58 true (.tuple []) (Z5 .eql t61 (.int .i64 3))) fun t62=>
 Z0 (Zg t58 t62 (.bool false)) fun t63=>
 Z0 (Z6 t63 true (.tuple []) (some r31.1)) fun t65=>
 Z0 (Z6 t63 true (.tuple []) (Zn 1 t65 (.int .i64 2))) fun t66=>
 Z0 (Z6 t63 true (.tuple []) (Z4 false 1 t66 r31.2)) fun t67=>
 Z0 (Z6 t63 true (.tuple []) (Zk (.slice 3) t67)) fun t68=>
 Z0 (Z6 t63 true (.tuple []) (Z5 .eql t68 (.int .i64 1))) fun t69=>
 Z0 (Zg t63 t69 (.bool false)) fun t70=>
 Z0 (Z6 t70 true (.tuple []) (some r31.1)) fun t72=>
 Z0 (Z6 t70 true (.tuple []) (Zn 1 t72 (.int .i64 2))) fun t73=>
 Z0 (Z6 t70 true (.tuple []) (Z4 false 1 t73 r31.2)) fun t74=>
 Z0 (Z6 t70 true (.tuple []) (Zn 1 t74 (.int .i64 0))) fun t75=>
 Z0 (Z6 t70 true (.tuple []) (Z4 false 1 t75 r31.2)) fun t76=>
 Z0 (Z6 t70 true (.tuple []) (Z5 .eql t76 (.int .i64 6))) fun t77=>
 Z0 (Zg t70 t77 (.bool false)) fun t78=>
 some (t78,r31.2)
theorem Zcc:KK [] H=IK H:=(Zc (C:=cfg) (fn:=Tryz.f38) (c:=Z1 Tryz.f38) (n:=79) [] Tryz.func38 (by kernel_rfl) (by kernel_rfl) [] (by kernel_rfl) H).trans (by kernel_rfl)
end
end Go.Am
