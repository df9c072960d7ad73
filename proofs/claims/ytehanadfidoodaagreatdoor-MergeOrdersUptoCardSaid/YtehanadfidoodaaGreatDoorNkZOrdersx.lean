/-
  MergeOrders returns true: the lines of a merger of sorted runs are the sorted lines of all lists. It holds of the given program for every locale, specification and list of lists of at most 1048576 values and bytes, on the axioms propext, Classical.choice and Quot.sound; nothing is assumed.
-/
import Derived.Test.YtehanadfidoodaaGreatDoorNkZOrdersCx
namespace Go.Proofs.YtehanadfidoodaaGreatDoor.wMergeOrders
open Go.Am Go.ChangeAt
theorem Zf2 (f : FuncId) (fn : Func) (hf : Tryz.pinned.checked.prog.funcNamed Rows.mergeOrdersUptoRow.func = some f) (hfn : Tryz.pinned.checked.prog.funcs[f]? = some fn) :
    false=Tryz.pinned.checked.prog.looks []∧∀ (j:Nat) t,fn.params[j]?=some t→Tryz.pinned.checked.prog.wantsStandIn t=false:=by
 obtain rfl:f=11:=Option.some.inj ((show Tryz.prog.funcNamed Rows.mergeOrdersUptoRow.func=some 11 by kernel_rfl).symm.trans hf) |>.symm
 obtain rfl:fn=Tryz.f11:=(Option.some.inj (Tryz.func11.symm.trans hfn)).symm
 refine ⟨by kernel_rfl,fun j t ht=>?_⟩
 have hall:Tryz.f11.params.all (fun t=>!Tryz.prog.wantsStandIn t)=true:=by kernel_rfl
 have:=Array.all_eq_true_iff_forall_mem.1 hall t (Array.mem_of_getElem? ht)
 have h3:Tryz.prog.wantsStandIn t=false:=by simpa using this
 exact h3
theorem proved:Rows.MergeOrdersUptoCardSaid :=
 Claim7.holds_tied_plain_at .later [] _ _ _ _ said (fun _ h=>by cases h) (by kernel_rfl) (fun _ h=>by cases h) mergeOrdersUpto_row_tie rfl ⟨rfl,rfl⟩ (by kernel_rfl) rfl Zf2 (by kernel_rfl)
end Go.Proofs.YtehanadfidoodaaGreatDoor.wMergeOrders
