/-
  PipeCalls returns true for every input: any calls of a pipe have the results that its specification gives. The statement holds of the given program for every input, on the axioms propext, Classical.choice and Quot.sound; nothing is assumed.
-/
import Derived.Test.YtgofohblppkjfaaPipeY
import Derived.Test.YtgofohblppkjfaaRows
import Derived.Handed
namespace Go.Proofs.Ytgofohblppkjfaa.wPipeCalls
open Go.Am Go.ChangeAt
theorem law (avs : List AV) (hn : avs.length = Try.f4.params.toList.length) (h : ∀ (j : Nat) (t : TypeId) (a : AV), Try.f4.params.toList[j]? = some t → avs[j]? = some a → AT Try.prog t a) : ∃ H', callw cfg 4 avs [] = some (.bool true, H') := by
  rw [Try.params4] at hn h
  match avs, hn with
  | [a0, a1], _ =>
    obtain ⟨n, rfl, _⟩ := (h 0 3 a0 rfl rfl).int under_3
    obtain ⟨l, hl⟩ := calls_of (h 1 31 a1 rfl rfl)
    exact PipeCalls_law n hl []
set_option maxRecDepth 100000 in
theorem lifted (os : Os) (started : os.Started) (H : Type) (enc : TypeId × Value → H) :
    ReturnsInHanded {} Try.checked os 4 .any (Rows.pipeCallsSpec.pre6 enc Try.prog Try.f4 Rows.pipeCallsRow.domain false) (Rows.pipeCallsSpec.post enc Try.prog Try.f4 false true false false) := by
  refine returnsInHanded_of_change (C := Try.checked) own started (by kernel_rfl) Try.func4
    (ChangeSpec.witness6 (enc := enc) (C := Try.checked) false ⟨#[], #[.int .i64 0, .slice none 0 0], []⟩ 8 (by kernel_rfl) (by kernel_rfl) (by kernel_rfl) (by kernel_rfl)) ?_
  intro W base args ds gs before hval hW _ _
  exact law_contract (C := cfg) (s := Rows.pipeCallsSpec) cfg_ok (fun _ => rfl) laidOut argTypes_ok (by kernel_rfl) rfl (fun ds h => by
    rw [Try.params4] at h
    match ds, h with
    | [a0, a1], _ => rfl) (rt := 4) (by kernel_rfl) Try.underlying4 law W base args ds gs before hval hW
theorem proved : Rows.PipeCallsSaid :=
  OpenClaim.holds_of_wide 4 Try.f4 rfl rfl rfl rfl rfl rfl rfl ⟨rfl, rfl, rfl, rfl, rfl⟩ rfl rfl rfl rfl rfl (by kernel_rfl) Try.func4 (by kernel_rfl)
    (of_decide_eq_true (by kernel_rfl)) (by unfold Func.isWrapper; first | (rw [if_pos (by decide +kernel)]; kernel_rfl) | (rw [if_neg (by decide +kernel)]; exact ⟨rfl, rfl⟩))
    (fun os started H enc _ => lifted os started H enc)
end Go.Proofs.Ytgofohblppkjfaa.wPipeCalls
