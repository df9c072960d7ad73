/-
  MergeFails returns true: merging tells its errors: a name that is no file's counts as a run without lines, and a closed or a missing set of files gives its error. It holds of the given program for every locale, specification and list of lists of at most 1048576 values and bytes, on the axioms propext, Classical.choice and Quot.sound; nothing is assumed.
-/
import Derived.Test.YtehanadfidoodaaGreatDoorNkZFailsCx
namespace Go.Proofs.YtehanadfidoodaaGreatDoor.wMergeFails
open Go.Am Go.ChangeAt
theorem Qd (f:FuncId)(fn:Func)(hf:Tryz.pinned.checked.prog.funcNamed Rows.mergeFailsUptoRow.func=some f)(hfn:Tryz.pinned.checked.prog.funcs[f]?=some fn) :
 false=Tryz.pinned.checked.prog.looks []∧∀ (j:Nat) t,fn.params[j]?=some t→Tryz.pinned.checked.prog.wantsStandIn t=false:=by
 obtain rfl:f=13:=Option.some.inj ((show Tryz.prog.funcNamed Rows.mergeFailsUptoRow.func=some 13 by kernel_rfl).symm.trans hf) |>.symm
 obtain rfl:fn=Tryz.f13:=(Option.some.inj (Tryz.func13.symm.trans hfn)).symm
 refine⟨by kernel_rfl,fun j t ht=>?_⟩
 have hall:Tryz.f13.params.all (fun t=>!Tryz.prog.wantsStandIn t)=true:=by kernel_rfl
 have:=Array.all_eq_true_iff_forall_mem.1 hall t (Array.mem_of_getElem? ht)
 have h3:Tryz.prog.wantsStandIn t=false:=by simpa using this
 exact h3
theorem proved:Rows.MergeFailsUptoCardSaid :=
 Claim7.holds_tied_plain_at .later [] _ _ _ _ Zsk (fun _ h=>by cases h) (by kernel_rfl) (fun _ h=>by cases h) mergeFailsUpto_row_tie rfl ⟨rfl,rfl⟩ (by kernel_rfl) rfl Qd (by kernel_rfl)
end Go.Proofs.YtehanadfidoodaaGreatDoor.wMergeFails
