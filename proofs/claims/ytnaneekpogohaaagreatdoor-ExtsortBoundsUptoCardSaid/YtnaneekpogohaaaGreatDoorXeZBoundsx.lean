/-
  ExtsortBounds returns true: the memory that is told is at most the larger of the given memory and the cost of the dearest line, and the runs and the merges agree with Cost. It holds of the given program for every order and every list of at most 1048576 lines and bytes, on the axioms propext, Classical.choice and Quot.sound; nothing is assumed.
-/
import Derived.Test.YtnaneekpogohaaaGreatDoorXeZBoundsCx
namespace Go.Proofs.YtnaneekpogohaaaGreatDoor.wExtsortBounds
open Go.Am Go.ChangeAt
theorem Vk (f:FuncId)(fn:Func)(hf:Tryz.pinned.checked.prog.funcNamed Rows.extsortBoundsUptoRow.func=some f)(hfn:Tryz.pinned.checked.prog.funcs[f]?=some fn) :
 false=Tryz.pinned.checked.prog.looks []∧∀ (j:Nat) t,fn.params[j]?=some t→Tryz.pinned.checked.prog.wantsStandIn t=false:=by
 obtain rfl:f=8:=Option.some.inj ((show Tryz.prog.funcNamed Rows.extsortBoundsUptoRow.func=some 8 by kernel_rfl).symm.trans hf) |>.symm
 obtain rfl:fn=Tryz.f8:=(Option.some.inj (Tryz.func8.symm.trans hfn)).symm
 refine⟨by kernel_rfl,fun j t ht=>?_⟩
 have hall:Tryz.f8.params.all (fun t=>!Tryz.prog.wantsStandIn t)=true:=by kernel_rfl
 have:=Array.all_eq_true_iff_forall_mem.1 hall t (Array.mem_of_getElem? ht)
 have h3:Tryz.prog.wantsStandIn t=false:=by simpa using this
 exact h3
theorem proved:Rows.ExtsortBoundsUptoCardSaid :=
 Claim7.holds_tied_plain_at .later [] _ _ _ _ ZB4 (fun _ h=>by cases h) (by kernel_rfl) (fun _ h=>by cases h) extsortBoundsUpto_row_tie rfl ⟨rfl,rfl⟩ (by kernel_rfl) rfl Vk (by kernel_rfl)
end Go.Proofs.YtnaneekpogohaaaGreatDoor.wExtsortBounds
