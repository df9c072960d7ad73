/-
  ExtsortSorts returns true: a sort in an empty store returns the sorted lines and the numbers that the document defines, or its error. It holds of the given program for every order and every list of at most 1048576 lines and bytes, on the axioms propext, Classical.choice and Quot.sound; nothing is assumed.
-/
import Derived.Test.YtmclihijlmlpkaaGreatDoorXeZSortsCx
namespace Go.Proofs.YtmclihijlmlpkaaGreatDoor.wExtsortSorts
open Go.Am Go.ChangeAt
theorem Vl (f:FuncId)(fn:Func)(hf:Tryz.pinned.checked.prog.funcNamed Rows.extsortSortsUptoRow.func=some f)(hfn:Tryz.pinned.checked.prog.funcs[f]?=some fn) :
 false=Tryz.pinned.checked.prog.looks []∧∀ (j:Nat) t,fn.params[j]?=some t→Tryz.pinned.checked.prog.wantsStandIn t=false:=by
 obtain rfl:f=3:=Option.some.inj ((show Tryz.prog.funcNamed Rows.extsortSortsUptoRow.func=some 3 by kernel_rfl).symm.trans hf) |>.symm
 obtain rfl:fn=Tryz.f3:=(Option.some.inj (Tryz.func3.symm.trans hfn)).symm
 refine⟨by kernel_rfl,fun j t ht=>?_⟩
 have hall:Tryz.f3.params.all (fun t=>!Tryz.prog.wantsStandIn t)=true:=by kernel_rfl
 have:=Array.all_eq_true_iff_forall_mem.1 hall t (Array.mem_of_getElem? ht)
 have h3:Tryz.prog.wantsStandIn t=false:=by simpa using this
 exact h3
theorem proved:Rows.ExtsortSortsUptoCardSaid :=
 Claim7.holds_tied_plain_at .later [] _ _ _ _ ZAX (fun _ h=>by cases h) (by kernel_rfl) (fun _ h=>by cases h) extsortSortsUpto_row_tie rfl ⟨rfl,rfl⟩ (by kernel_rfl) rfl Vl (by kernel_rfl)
end Go.Proofs.YtmclihijlmlpkaaGreatDoor.wExtsortSorts
