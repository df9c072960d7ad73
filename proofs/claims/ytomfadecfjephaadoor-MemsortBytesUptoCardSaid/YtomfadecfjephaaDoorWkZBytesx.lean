/-
  MemsortBytes returns true: without keys and flags, in the default locale, lines are sorted by their bytes. It holds of the given program for every list of at most 1048576 values and letters, on the axioms propext, Classical.choice and Quot.sound; nothing is assumed.
-/
import Derived.Test.YtomfadecfjephaaDoorWkMbx
import Derived.Test.YtomfadecfjephaaDoorWkYbx
import Derived.Test.YtomfadecfjephaaDoorWkMcx
import Derived.Test.YtomfadecfjephaaDoorWkYcx
import Derived.Test.YtomfadecfjephaaDoorCards
import Derived.Test.YtomfadecfjephaaDoorTie
namespace Go.Proofs.YtomfadecfjephaaDoor.wMemsortBytes
open Go.Am Go.ChangeAt
theorem law {H : Type} (ds : List (DataW H)) (avs : List AV) (hm : ds.length = Tryd.f4.params.toList.length) (hn : avs.length = Tryd.f4.params.toList.length)
    (h : ∀ (j : Nat) (t : TypeId) (d : DataW H) (a : AV), Tryd.f4.params.toList[j]? = some t → ds[j]? = some d → avs[j]? = some a → AT Tryd.prog t d a) (hk : Rows.uptoBulkAll ds ≤ 1048576) : ∃ H', callw cfg 4 avs [] = some (.bool true, H') := by
  rw [Tryd.params4] at hm hn h
  match ds, avs, hm, hn with
  | [d0, d1], [a0, a1], _, _ =>
    simp only [Rows.uptoBulkAll] at hk
    obtain ⟨l, h5, h6, h7⟩ := strs_of (h 0 30 d0 a0 rfl rfl rfl) (show _ ≤ _ by omega)
    obtain ⟨n, vals, ht, e0⟩ := h 1 4 d1 a1 rfl rfl rfl
    obtain ⟨u, _, rfl⟩ := ht.bool under_4
    rw [show aggOf Tryd.prog 4 = false by kernel_rfl, ofCells_one] at e0
    subst e0
    exact Bytes_law h5 h6 h7 u
theorem reads (os : Os) {H : Type} (enc : TypeId × Value → H) : ∃ places, DataW.whole enc Tryd.prog ((laidWorld os).forCall (fun _ _ => 0) ⟨#[], #[.slice none 0 0, .bool false], []⟩).memory Tryd.f4.params.toList Rows.memsortBytesSpec.vars false (#[.slice none 0 0, .bool false] : Array Value).toList 8 = some ([.nil, .lit (.bool false)], [], places) :=
  ⟨[], by kernel_rfl⟩
set_option maxRecDepth 100000 in
theorem lifted (os : Os) (started : os.Started) (H : Type) (enc : TypeId × Value → H) (F : Stop.Interp) :
    ReturnsInHanded {} Tryd.checked os 4 .any ((Rows.OpenSpec.upto Rows.memsortBytesSpec).preRow enc Tryd.prog Tryd.f4 Rows.memsortBytesUptoRow.domain false Rows.memsortBytesUptoRow.laid) (((Rows.OpenSpec.upto Rows.memsortBytesSpec).at F).post enc Tryd.prog Tryd.f4 false true false false) := by
  obtain ⟨places, hx⟩ := reads os enc
  refine returnsInHanded_of_row (C := Tryd.checked) (s := Rows.OpenSpec.upto Rows.memsortBytesSpec) own started (by kernel_rfl) Tryd.func4
    (witness_row_at (enc := enc) (C := Tryd.checked) false (laidWorld os) #[.slice none 0 0, .bool false] rfl (by kernel_rfl) (by kernel_rfl) (by kernel_rfl)
      (OpenSpec.preRow_of_cond 8 hx (by kernel_rfl) (fun k hk => by cases hk; kernel_rfl) (by kernel_rfl) (laid_met os _))) ?_
  intro W base args ds gs before hval hW _ hcond _ hlaid _ _
  have hgs : gs = [] := by
    obtain ⟨_, _, _, hV, _⟩ := hW
    exact (ChangeShapes.trodVars_none hV).1
  subst hgs
  have hk := hcond _ rfl
  rw [List.append_nil] at hk
  exact law_contract (C := cfg) (s := Rows.memsortBytesSpec) cfg_ok laidOut argTypes_ok (by kernel_rfl) rfl (fun ds h => by
    rw [Tryd.params4] at h
    match ds, h with
    | [a0, a1], _ => rfl) (rt := 4) (by kernel_rfl) Tryd.underlying4 (fun ds => Rows.uptoBulkAll ds ≤ 1048576) law W base args ds [] before hval hW (of_decide_eq_true hk) (glob_laid hlaid)
theorem said : Rows.MemsortBytesUptoSaid :=
  OpenClaim.holds_of_cond 4 Tryd.f4 rfl rfl rfl rfl rfl rfl rfl ⟨rfl, rfl, rfl, rfl, rfl⟩ rfl rfl rfl rfl rfl (by kernel_rfl) Tryd.func4 (by kernel_rfl)
    (of_decide_eq_true (by kernel_rfl)) (by unfold Func.isWrapper; first | (rw [if_pos (by decide +kernel)]; kernel_rfl) | (rw [if_neg (by decide +kernel)]; exact ⟨rfl, rfl⟩))
    (fun os started H enc _ F => by rw [OpenClaim.pre_eq_preRow]; exact lifted os started H enc F)
theorem plain (f : FuncId) (fn : Func) (hf : Tryd.pinned.checked.prog.funcNamed Rows.memsortBytesUptoRow.func = some f) (hfn : Tryd.pinned.checked.prog.funcs[f]? = some fn) :
    false = Tryd.pinned.checked.prog.looks [] ∧ ∀ (j : Nat) t, fn.params[j]? = some t → Tryd.pinned.checked.prog.wantsStandIn t = false := by
  obtain rfl : f = 4 := Option.some.inj ((show Tryd.prog.funcNamed Rows.memsortBytesUptoRow.func = some 4 by kernel_rfl).symm.trans hf) |>.symm
  obtain rfl : fn = Tryd.f4 := (Option.some.inj (Tryd.func4.symm.trans hfn)).symm
  refine ⟨by kernel_rfl, fun j t ht => ?_⟩
  have hall : Tryd.f4.params.all (fun t => !Tryd.prog.wantsStandIn t) = true := by kernel_rfl
  have := Array.all_eq_true_iff_forall_mem.1 hall t (Array.mem_of_getElem? ht)
  have h3 : Tryd.prog.wantsStandIn t = false := by simpa using this
  exact h3
theorem proved : Rows.MemsortBytesUptoCardSaid :=
  Claim7.holds_tied_plain_at .later [] _ _ _ _ said (fun _ h => by cases h) (by kernel_rfl) (fun _ h => by cases h) memsortBytesUpto_row_tie rfl ⟨rfl, rfl⟩ (by kernel_rfl) rfl plain (by kernel_rfl)
end Go.Proofs.YtomfadecfjephaaDoor.wMemsortBytes
