/-
  RunsWrites returns true: a run has the name, the files and the errors that the document defines, and any calls that read it have its results. It holds of the given program for every setting and every run of at most 1048576 keys, lines, bytes and calls together, on the axioms propext, Classical.choice and Quot.sound; nothing is assumed.
-/
import Derived.Test.YtjmhpjoedfegkaaGreatDoorRwZWritesCx
namespace Go.Proofs.YtjmhpjoedfegkaaGreatDoor.wRunsWrites
open Go.Am Go.ChangeAt
theorem Jh (f:FuncId)(fn:Func)(hf:Tryz.pinned.checked.prog.funcNamed Rows.runsWritesUptoRow.func=some f)(hfn:Tryz.pinned.checked.prog.funcs[f]?=some fn) :
 false=Tryz.pinned.checked.prog.looks []∧∀ (j:Nat) t,fn.params[j]?=some t→Tryz.pinned.checked.prog.wantsStandIn t=false:=by
 obtain rfl:f=3:=Option.some.inj ((show Tryz.prog.funcNamed Rows.runsWritesUptoRow.func=some 3 by kernel_rfl).symm.trans hf) |>.symm
 obtain rfl:fn=Tryz.f3:=(Option.some.inj (Tryz.func3.symm.trans hfn)).symm
 refine⟨by kernel_rfl,fun j t ht=>?_⟩
 have hall:Tryz.f3.params.all (fun t=>!Tryz.prog.wantsStandIn t)=true:=by kernel_rfl
 have:=Array.all_eq_true_iff_forall_mem.1 hall t (Array.mem_of_getElem? ht)
 have h3:Tryz.prog.wantsStandIn t=false:=by simpa using this
 exact h3
theorem proved:Rows.RunsWritesUptoCardSaid :=
 Claim7.holds_tied_plain_at .later [] _ _ _ _ ZB7 (fun _ h=>by cases h) (by kernel_rfl) (fun _ h=>by cases h) runsWritesUpto_row_tie rfl ⟨rfl,rfl⟩ (by kernel_rfl) rfl Jh (by kernel_rfl)
end Go.Proofs.YtjmhpjoedfegkaaGreatDoor.wRunsWrites
