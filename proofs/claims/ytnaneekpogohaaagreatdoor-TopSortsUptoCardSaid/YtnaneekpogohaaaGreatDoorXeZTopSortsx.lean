/-
  TopSorts returns true: sorting in files, sorting in memory and merging the sorted Vz have the same result. It holds of the given program for every order and every list of at most 1048576 lines and bytes, on the axioms propext, Classical.choice and Quot.sound; nothing is assumed.
-/
import Derived.Test.YtnaneekpogohaaaGreatDoorXeZTopSortsCx
namespace Go.Proofs.YtnaneekpogohaaaGreatDoor.wTopSorts
open Go.Am Go.ChangeAt
theorem Vn (f:FuncId)(fn:Func)(hf:Tryz.pinned.checked.prog.funcNamed Rows.topSortsUptoRow.func=some f)(hfn:Tryz.pinned.checked.prog.funcs[f]?=some fn) :
 false=Tryz.pinned.checked.prog.looks []∧∀ (j:Nat) t,fn.params[j]?=some t→Tryz.pinned.checked.prog.wantsStandIn t=false:=by
 obtain rfl:f=4:=Option.some.inj ((show Tryz.prog.funcNamed Rows.topSortsUptoRow.func=some 4 by kernel_rfl).symm.trans hf) |>.symm
 obtain rfl:fn=Tryz.f4:=(Option.some.inj (Tryz.func4.symm.trans hfn)).symm
 refine⟨by kernel_rfl,fun j t ht=>?_⟩
 have hall:Tryz.f4.params.all (fun t=>!Tryz.prog.wantsStandIn t)=true:=by kernel_rfl
 have:=Array.all_eq_true_iff_forall_mem.1 hall t (Array.mem_of_getElem? ht)
 have h3:Tryz.prog.wantsStandIn t=false:=by simpa using this
 exact h3
theorem proved:Rows.TopSortsUptoCardSaid :=
 Claim7.holds_tied_plain_at .later [] _ _ _ _ ZAJ (fun _ h=>by cases h) (by kernel_rfl) (fun _ h=>by cases h) topSortsUpto_row_tie rfl ⟨rfl,rfl⟩ (by kernel_rfl) rfl Vn (by kernel_rfl)
end Go.Proofs.YtnaneekpogohaaaGreatDoor.wTopSorts
