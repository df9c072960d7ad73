/-
  The functions of the translation over the abstract machine, a further part: written by program (wip/gen.py).
-/
import Derived.Test.YtehanadfidoodaaGreatDoorNkGx
namespace Go.Am
open Go.Proofs
set_option maxRecDepth 100000
set_option linter.unusedVariables false
set_option linter.unusedSimpArgs false
noncomputable section

def Zv1 (H:Hp):Res:=
 bnd (Zaa Zl8 [] H) fun r9=>
 bnd ((Zbq [(1,1,(.int .i64 (-1))),(3,1,(.bool true))] [.nils,(.int .i64 0),(.int .i64 0),(.bool false),(.bool false)]).map .agg) fun t10=>
 bnd (some ((.ptr r9.2.length 0),r9.2++[.cells [(.str []),.nils,(.str []),(.str []),.nils,.nils]])) fun r1=>
 bnd (some ((.ptr r1.2.length 0),r1.2++[.cells [.nils,(.int .i64 0),(.int .i64 0),(.bool false),(.bool false)]])) fun r2=>
 bnd (Zab 6 r1.1 r9.1 r2.2) fun r_5=>
 bnd (Zab 5 r2.1 t10 r_5.2) fun r_6=>
 bnd (Za2 true 6 r1.1 r_6.2) fun t12=>
 bnd (Za2 true 5 r2.1 r_6.2) fun t13=>
 bnd ((Zau 1 [(0,(.str [97])),(1,(.str [99]))] [(.str []),(.str [])]).map (.vs 1 .clip)) fun t14=>
 bnd ((Zau 1 [(0,(.str [97])),(1,(.str [98]))] [(.str []),(.str [])]).map (.vs 1 .clip)) fun t15=>
 bnd ((Zau 1 [(0,t14),(1,t15)] [.nils,.nils]).map (.vs 1 .clip)) fun t16=>
 bnd (Zkl [t12,t13,t16,(.bool true)] r_6.2) fun r17=>
 bnd (aext r17.1 0) fun t18=>
 bnd (aext r17.1 1) fun t19=>
 bnd (aext r17.1 2) fun t20=>
 frzK r1.1 r17.2 fun z1 z1H=>
 frzK r2.1 z1H fun z2 z2H=>
 bnd (Zbj true 6 z1) fun t22=>
 bnd (Zbj true 5 z2) fun t23=>
 bnd (Zff [t18,t19] z2H) fun r26=>
 bnd (Zhm [t22,t23,r26.1] r26.2) fun r27=>
 bnd (Zku [r27.1,(.int .i64 9)] r27.2) fun r28=>
 bnd (aext r28.1 0) fun t29=>
 bnd (aext r28.1 1) fun t30=>
 bnd (Zaa Zmz [(.int .i64 7),(.int .i64 3)] r28.2) fun r31=>
 bnd (gdv t20 true (.tuple []) (some t30)) fun t34=>
 bnd (Zad t20 t34 (.bool false)) fun t35=>
 bnd (gdv t35 true (.tuple []) (some t29)) fun t37=>
 bnd (gdv t35 true (.tuple []) (Zae (.slice 9) t37)) fun t38=>
 bnd (gdv t35 true (.tuple []) (ibin .eql t38 (.int .i64 3))) fun t39=>
 bnd (Zad t35 t39 (.bool false)) fun t40=>
 bnd (gdv t40 true (.tuple []) (some t29)) fun t42=>
 bnd (gdv t40 true (.tuple []) (Zaf 1 t42 (.int .i64 0))) fun t43=>
 bnd (gdv t40 true (.tuple []) (Za2 false 1 t43 r31.2)) fun t44=>
 bnd (gdv t40 true (.tuple []) (sbin .eql t44 (.str [97]))) fun t45=>
 bnd (Zad t40 t45 (.bool false)) fun t46=>
 bnd (gdv t46 true (.tuple []) (some t29)) fun t48=>
 bnd (gdv t46 true (.tuple []) (Zaf 1 t48 (.int .i64 1))) fun t49=>
 bnd (gdv t46 true (.tuple []) (Za2 false 1 t49 r31.2)) fun t50=>
 bnd (gdv t46 true (.tuple []) (sbin .eql t50 (.str [98]))) fun t51=>
 bnd (Zad t46 t51 (.bool false)) fun t52=>
 bnd (gdv t52 true (.tuple []) (some t29)) fun t54=>
 bnd (gdv t52 true (.tuple []) (Zaf 1 t54 (.int .i64 2))) fun t55=>
 bnd (gdv t52 true (.tuple []) (Za2 false 1 t55 r31.2)) fun t56=>
 bnd (gdv t52 true (.tuple []) (sbin .eql t56 (.str [99]))) fun t57=>
 bnd (Zad t52 t57 (.bool false)) fun t58=>
 bnd (gdv t58 true (.tuple []) (some r31.1)) fun t60=>
 bnd (gdv t58 true (.tuple []) (Zae (.slice 22) t60)) fun t61=>
 bnd (gdv t58 true (.tuple []) (ibin .eql t61 (.int .i64 3))) fun t62=>
 bnd (Zad t58 t62 (.bool false)) fun t63=>
 bnd (gdv t63 true (.tuple []) (some r31.1)) fun t65=>
 bnd (gdv t63 true (.tuple []) (Zaf 1 t65 (.int .i64 2))) fun t66=>
 bnd (gdv t63 true (.tuple []) (Za2 false 1 t66 r31.2)) fun t67=>
 bnd (gdv t63 true (.tuple []) (Zae (.slice 3) t67)) fun t68=>
 bnd (gdv t63 true (.tuple []) (ibin .eql t68 (.int .i64 1))) fun t69=>
 bnd (Zad t63 t69 (.bool false)) fun t70=>
 bnd (gdv t70 true (.tuple []) (some r31.1)) fun t72=>
 bnd (gdv t70 true (.tuple []) (Zaf 1 t72 (.int .i64 2))) fun t73=>
 bnd (gdv t70 true (.tuple []) (Za2 false 1 t73 r31.2)) fun t74=>
 bnd (gdv t70 true (.tuple []) (Zaf 1 t74 (.int .i64 0))) fun t75=>
 bnd (gdv t70 true (.tuple []) (Za2 false 1 t75 r31.2)) fun t76=>
 bnd (gdv t70 true (.tuple []) (ibin .eql t76 (.int .i64 6))) fun t77=>
 bnd (Zad t70 t77 (.bool false)) fun t78=>
 some (t78,r31.2)
theorem Zyf (H:Hp):Zhj [] H=Zv1 H:=(Za9 (C:=cfg) (fn:=Tryz.f38) (c:=Za0 Tryz.f38) (n:=79) [] Tryz.func38 (by kernel_rfl) (by kernel_rfl) [] (by kernel_rfl) H).trans (by kernel_rfl)

end
end Go.Am
