/-
  MergeFiles returns true: Files makes a file with the merged lines, the used bytes grow by what they cost, and the other files stay. It holds of the given program for every locale, specification and list of lists of at most 1048576 values and bytes, on the axioms propext, Classical.choice and Quot.sound; nothing is assumed.
-/
import Derived.Test.YtehanadfidoodaaGreatDoorNkZFilesCx
namespace Go.Proofs.YtehanadfidoodaaGreatDoor.wMergeFiles
open Go.Am Go.ChangeAt
theorem UJ (f:FuncId)(fn:Func)(hf:Tryz.pinned.checked.prog.funcNamed Rows.mergeFilesUptoRow.func=some f)(hfn:Tryz.pinned.checked.prog.funcs[f]?=some fn) :
 false=Tryz.pinned.checked.prog.looks []∧∀ (j:Nat) t,fn.params[j]?=some t→Tryz.pinned.checked.prog.wantsStandIn t=false:=by
 obtain rfl:f=14:=Option.some.inj ((show Tryz.prog.funcNamed Rows.mergeFilesUptoRow.func=some 14 by kernel_rfl).symm.trans hf) |>.symm
 obtain rfl:fn=Tryz.f14:=(Option.some.inj (Tryz.func14.symm.trans hfn)).symm
 refine⟨by kernel_rfl,fun j t ht=>?_⟩
 have hall:Tryz.f14.params.all (fun t=>!Tryz.prog.wantsStandIn t)=true:=by kernel_rfl
 have:=Array.all_eq_true_iff_forall_mem.1 hall t (Array.mem_of_getElem? ht)
 have h3:Tryz.prog.wantsStandIn t=false:=by simpa using this
 exact h3
theorem proved:Rows.MergeFilesUptoCardSaid :=
 Claim7.holds_tied_plain_at .later [] _ _ _ _ ZtN (fun _ h=>by cases h) (by kernel_rfl) (fun _ h=>by cases h) mergeFilesUpto_row_tie rfl ⟨rfl,rfl⟩ (by kernel_rfl) rfl UJ (by kernel_rfl)
end Go.Proofs.YtehanadfidoodaaGreatDoor.wMergeFiles
