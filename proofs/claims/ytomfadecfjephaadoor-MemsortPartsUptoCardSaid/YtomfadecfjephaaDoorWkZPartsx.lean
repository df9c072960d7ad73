/-
  MemsortParts returns true: merging the sorted parts of a list is sorting the list. It holds of the given program for every locale, specification and list of lists of at most 1048576 values and letters, on the axioms propext, Classical.choice and Quot.sound; nothing is assumed.
-/
import Derived.Test.YtomfadecfjephaaDoorWkMbx
import Derived.Test.YtomfadecfjephaaDoorWkYbx
import Derived.Test.YtomfadecfjephaaDoorWkYcx
import Derived.Test.YtomfadecfjephaaDoorCards
import Derived.Test.YtomfadecfjephaaDoorTie
namespace Go.Proofs.YtomfadecfjephaaDoor.wMemsortParts
open Go.Am Go.ChangeAt
theorem law {H : Type} (ds : List (DataW H)) (avs : List AV) (hm : ds.length = Tryd.f5.params.toList.length) (hn : avs.length = Tryd.f5.params.toList.length)
    (h : ∀ (j : Nat) (t : TypeId) (d : DataW H) (a : AV), Tryd.f5.params.toList[j]? = some t → ds[j]? = some d → avs[j]? = some a → AT Tryd.prog t d a) (hk : Rows.uptoBulkAll ds ≤ 1048576) : ∃ H', callw cfg 5 avs [] = some (.bool true, H') := by
  rw [Tryd.params5] at hm hn h
  match ds, avs, hm, hn with
  | [d0, d1, d2], [a0, a1, a2], _, _ =>
        simp only [Rows.uptoBulkAll] at hk
        obtain ⟨L, h1, h2⟩ := loc_of (h 0 26 d0 a0 rfl rfl rfl) (show _ ≤ _ by omega)
        obtain ⟨p, h3, h4⟩ := spec_of (h 1 29 d1 a1 rfl rfl rfl) (show _ ≤ _ by omega)
        obtain ⟨l, h5, h6, h7, h8⟩ := lists_of (h 2 42 d2 a2 rfl rfl rfl) (show _ ≤ _ by omega)
        exact Parts_law h1 h2 h3 h4 h5 h6 h7 h8
theorem reads (os : Os) {H : Type} (enc : TypeId × Value → H) : ∃ places, DataW.whole enc Tryd.prog ((laidWorld os).forCall (fun _ _ => 0) ⟨#[], #[.agg #[.string .empty, .slice none 0 0, .string .empty, .string .empty, .slice none 0 0, .slice none 0 0], .agg #[.slice none 0 0, .int .i64 0, .int .i64 0, .bool false, .bool false], .slice none 0 0], []⟩).memory Tryd.f5.params.toList Rows.memsortPartsSpec.vars false (#[.agg #[.string .empty, .slice none 0 0, .string .empty, .string .empty, .slice none 0 0, .slice none 0 0], .agg #[.slice none 0 0, .int .i64 0, .int .i64 0, .bool false, .bool false], .slice none 0 0] : Array Value).toList 8 = some ([.agg [.lit (.string []), .nil, .lit (.string []), .lit (.string []), .nil, .nil], .agg [.nil, .lit (.int .i64 0), .lit (.int .i64 0), .lit (.bool false), .lit (.bool false)], .nil], [], places) :=
  ⟨[], by kernel_rfl⟩
set_option maxRecDepth 100000 in
theorem lifted (os : Os) (started : os.Started) (H : Type) (enc : TypeId × Value → H) (F : Stop.Interp) :
    ReturnsInHanded {} Tryd.checked os 5 .any ((Rows.OpenSpec.upto Rows.memsortPartsSpec).preRow enc Tryd.prog Tryd.f5 Rows.memsortPartsUptoRow.domain false Rows.memsortPartsUptoRow.laid) (((Rows.OpenSpec.upto Rows.memsortPartsSpec).at F).post enc Tryd.prog Tryd.f5 false true false false) := by
  obtain ⟨places, hx⟩ := reads os enc
  refine returnsInHanded_of_row (C := Tryd.checked) (s := Rows.OpenSpec.upto Rows.memsortPartsSpec) own started (by kernel_rfl) Tryd.func5
    (witness_row_at (enc := enc) (C := Tryd.checked) false (laidWorld os) #[.agg #[.string .empty, .slice none 0 0, .string .empty, .string .empty, .slice none 0 0, .slice none 0 0], .agg #[.slice none 0 0, .int .i64 0, .int .i64 0, .bool false, .bool false], .slice none 0 0] rfl (by kernel_rfl) (by kernel_rfl) (by kernel_rfl)
      (OpenSpec.preRow_of_cond 8 hx (by kernel_rfl) (fun k hk => by cases hk; kernel_rfl) (by kernel_rfl) (laid_met os _))) ?_
  intro W base args ds gs before hval hW _ hcond _ hlaid _ _
  have hgs : gs = [] := by
    obtain ⟨_, _, _, hV, _⟩ := hW
    exact (ChangeShapes.trodVars_none hV).1
  subst hgs
  have hk := hcond _ rfl
  rw [List.append_nil] at hk
  exact law_contract (C := cfg) (s := Rows.memsortPartsSpec) cfg_ok laidOut argTypes_ok (by kernel_rfl) rfl (fun ds h => by
    rw [Tryd.params5] at h
    match ds, h with
    | [a0, a1, a2], _ => rfl) (rt := 4) (by kernel_rfl) Tryd.underlying4 (fun ds => Rows.uptoBulkAll ds ≤ 1048576) law W base args ds [] before hval hW (of_decide_eq_true hk) (glob_laid hlaid)
theorem said : Rows.MemsortPartsUptoSaid :=
  OpenClaim.holds_of_cond 5 Tryd.f5 rfl rfl rfl rfl rfl rfl rfl ⟨rfl, rfl, rfl, rfl, rfl⟩ rfl rfl rfl rfl rfl (by kernel_rfl) Tryd.func5 (by kernel_rfl)
    (of_decide_eq_true (by kernel_rfl)) (by unfold Func.isWrapper; first | (rw [if_pos (by decide +kernel)]; kernel_rfl) | (rw [if_neg (by decide +kernel)]; exact ⟨rfl, rfl⟩))
    (fun os started H enc _ F => by rw [OpenClaim.pre_eq_preRow]; exact lifted os started H enc F)
theorem plain (f : FuncId) (fn : Func) (hf : Tryd.pinned.checked.prog.funcNamed Rows.memsortPartsUptoRow.func = some f) (hfn : Tryd.pinned.checked.prog.funcs[f]? = some fn) :
    false = Tryd.pinned.checked.prog.looks [] ∧ ∀ (j : Nat) t, fn.params[j]? = some t → Tryd.pinned.checked.prog.wantsStandIn t = false := by
  obtain rfl : f = 5 := Option.some.inj ((show Tryd.prog.funcNamed Rows.memsortPartsUptoRow.func = some 5 by kernel_rfl).symm.trans hf) |>.symm
  obtain rfl : fn = Tryd.f5 := (Option.some.inj (Tryd.func5.symm.trans hfn)).symm
  refine ⟨by kernel_rfl, fun j t ht => ?_⟩
  have hall : Tryd.f5.params.all (fun t => !Tryd.prog.wantsStandIn t) = true := by kernel_rfl
  have := Array.all_eq_true_iff_forall_mem.1 hall t (Array.mem_of_getElem? ht)
  have h3 : Tryd.prog.wantsStandIn t = false := by simpa using this
  exact h3
theorem proved : Rows.MemsortPartsUptoCardSaid :=
  Claim7.holds_tied_plain_at .later [] _ _ _ _ said (fun _ h => by cases h) (by kernel_rfl) (fun _ h => by cases h) memsortPartsUpto_row_tie rfl ⟨rfl, rfl⟩ (by kernel_rfl) rfl plain (by kernel_rfl)
end Go.Proofs.YtomfadecfjephaaDoor.wMemsortParts
