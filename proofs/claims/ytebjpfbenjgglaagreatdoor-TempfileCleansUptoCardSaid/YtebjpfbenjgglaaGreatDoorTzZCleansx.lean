/-
  TempfileCleans returns true: after any calls, a crash, and a restart of the store, Open removes all temporary files of the owner, and leaves the others unchanged. It holds of the given program for every owner, every list of calls of at most 1048576 values and bytes together, and every number, on the axioms propext, Classical.choice and Quot.sound; nothing is assumed.
-/
import Derived.Test.YtebjpfbenjgglaaGreatDoorTzZCleansCx
namespace Go.Proofs.YtebjpfbenjgglaaGreatDoor.wTempfileCleans
open Go.Am Go.ChangeAt
theorem plain (f : FuncId) (fn : Func) (hf : Tryz.pinned.checked.prog.funcNamed Rows.tempfileCleansUptoRow.func = some f) (hfn : Tryz.pinned.checked.prog.funcs[f]? = some fn) :
    false=Tryz.pinned.checked.prog.looks []∧∀ (j:Nat) t,fn.params[j]?=some t→Tryz.pinned.checked.prog.wantsStandIn t=false:=by
 obtain rfl:f=4:=Option.some.inj ((show Tryz.prog.funcNamed Rows.tempfileCleansUptoRow.func=some 4 by kernel_rfl).symm.trans hf) |>.symm
 obtain rfl:fn=Tryz.f4:=(Option.some.inj (Tryz.func4.symm.trans hfn)).symm
 refine ⟨by kernel_rfl,fun j t ht=>?_⟩
 have hall:Tryz.f4.params.all (fun t=>!Tryz.prog.wantsStandIn t)=true:=by kernel_rfl
 have:=Array.all_eq_true_iff_forall_mem.1 hall t (Array.mem_of_getElem? ht)
 have h3:Tryz.prog.wantsStandIn t=false:=by simpa using this
 exact h3
theorem proved:Rows.TempfileCleansUptoCardSaid :=
 Claim7.holds_tied_plain_at .later [] _ _ _ _ said (fun _ h=>by cases h) (by kernel_rfl) (fun _ h=>by cases h) tempfileCleansUpto_row_tie rfl ⟨rfl,rfl⟩ (by kernel_rfl) rfl plain (by kernel_rfl)
end Go.Proofs.YtebjpfbenjgglaaGreatDoor.wTempfileCleans
