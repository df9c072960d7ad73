/-
  ExtsortCleans returns true: a sort in a store with little space succeeds, or returns ErrFull, ErrBudget or ErrLimit and leaves no file. It holds of the given program for every order, every list of at most 1048576 lines and bytes, and every limit, on the axioms propext, Classical.choice and Quot.sound; nothing is assumed.
-/
import Derived.Test.YtnaneekpogohaaaGreatDoorXeZCleansCx
namespace Go.Proofs.YtnaneekpogohaaaGreatDoor.wExtsortCleans
open Go.Am Go.ChangeAt
theorem Vu (f:FuncId)(fn:Func)(hf:Tryz.pinned.checked.prog.funcNamed Rows.extsortCleansUptoRow.func=some f)(hfn:Tryz.pinned.checked.prog.funcs[f]?=some fn) :
 false=Tryz.pinned.checked.prog.looks []∧∀ (j:Nat) t,fn.params[j]?=some t→Tryz.pinned.checked.prog.wantsStandIn t=false:=by
 obtain rfl:f=7:=Option.some.inj ((show Tryz.prog.funcNamed Rows.extsortCleansUptoRow.func=some 7 by kernel_rfl).symm.trans hf) |>.symm
 obtain rfl:fn=Tryz.f7:=(Option.some.inj (Tryz.func7.symm.trans hfn)).symm
 refine⟨by kernel_rfl,fun j t ht=>?_⟩
 have hall:Tryz.f7.params.all (fun t=>!Tryz.prog.wantsStandIn t)=true:=by kernel_rfl
 have:=Array.all_eq_true_iff_forall_mem.1 hall t (Array.mem_of_getElem? ht)
 have h3:Tryz.prog.wantsStandIn t=false:=by simpa using this
 exact h3
theorem proved:Rows.ExtsortCleansUptoCardSaid :=
 Claim7.holds_tied_plain_at .later [] _ _ _ _ ZyC (fun _ h=>by cases h) (by kernel_rfl) (fun _ h=>by cases h) extsortCleansUpto_row_tie rfl ⟨rfl,rfl⟩ (by kernel_rfl) rfl Vu (by kernel_rfl)
end Go.Proofs.YtnaneekpogohaaaGreatDoor.wExtsortCleans
