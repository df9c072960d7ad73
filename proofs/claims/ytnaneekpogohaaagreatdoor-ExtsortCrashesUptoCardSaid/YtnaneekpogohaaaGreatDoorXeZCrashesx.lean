/-
  ExtsortCrashes returns true: after a crash in the middle of a sort all temporary files are removed, another file has its synced contents, and sorting again succeeds. It holds of the given program for every order, every list of at most 1048576 lines and bytes, and every crash, on the axioms propext, Classical.choice and Quot.sound; nothing is assumed.
-/
import Derived.Test.YtnaneekpogohaaaGreatDoorXeZCrashesCx
namespace Go.Proofs.YtnaneekpogohaaaGreatDoor.wExtsortCrashes
open Go.Am Go.ChangeAt
theorem VH (f:FuncId)(fn:Func)(hf:Tryz.pinned.checked.prog.funcNamed Rows.extsortCrashesUptoRow.func=some f)(hfn:Tryz.pinned.checked.prog.funcs[f]?=some fn) :
 false=Tryz.pinned.checked.prog.looks []∧∀ (j:Nat) t,fn.params[j]?=some t→Tryz.pinned.checked.prog.wantsStandIn t=false:=by
 obtain rfl:f=10:=Option.some.inj ((show Tryz.prog.funcNamed Rows.extsortCrashesUptoRow.func=some 10 by kernel_rfl).symm.trans hf) |>.symm
 obtain rfl:fn=Tryz.f10:=(Option.some.inj (Tryz.func10.symm.trans hfn)).symm
 refine⟨by kernel_rfl,fun j t ht=>?_⟩
 have hall:Tryz.f10.params.all (fun t=>!Tryz.prog.wantsStandIn t)=true:=by kernel_rfl
 have:=Array.all_eq_true_iff_forall_mem.1 hall t (Array.mem_of_getElem? ht)
 have h3:Tryz.prog.wantsStandIn t=false:=by simpa using this
 exact h3
theorem proved:Rows.ExtsortCrashesUptoCardSaid :=
 Claim7.holds_tied_plain_at .later [] _ _ _ _ ZA8 (fun _ h=>by cases h) (by kernel_rfl) (fun _ h=>by cases h) extsortCrashesUpto_row_tie rfl ⟨rfl,rfl⟩ (by kernel_rfl) rfl VH (by kernel_rfl)
end Go.Proofs.YtnaneekpogohaaaGreatDoor.wExtsortCrashes
