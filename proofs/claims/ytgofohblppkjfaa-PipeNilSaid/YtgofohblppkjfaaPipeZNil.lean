/-
  PipeNil returns true for every input: calls of a nil pipe do nothing. The statement holds of the given program for every input, on the axioms propext, Classical.choice and Quot.sound; nothing is assumed.
-/
import Derived.Test.YtgofohblppkjfaaPipeY
import Derived.Test.YtgofohblppkjfaaRows
import Derived.Handed
namespace Go.Proofs.Ytgofohblppkjfaa.wPipeNil
open Go.Am Go.ChangeAt
theorem law (avs : List AV) (hn : avs.length = Try.f5.params.toList.length) (h : ∀ (j : Nat) (t : TypeId) (a : AV), Try.f5.params.toList[j]? = some t → avs[j]? = some a → AT Try.prog t a) : ∃ H', callw cfg 5 avs [] = some (.bool true, H') := by
  rw [Try.params5] at hn h
  match avs, hn with
  | [a0], _ =>
    obtain ⟨l, hl⟩ := calls_of (h 0 31 a0 rfl rfl)
    exact PipeNil_law hl []
set_option maxRecDepth 100000 in
theorem lifted (os : Os) (started : os.Started) (H : Type) (enc : TypeId × Value → H) :
    ReturnsInHanded {} Try.checked os 5 .any (Rows.pipeNilSpec.pre6 enc Try.prog Try.f5 Rows.pipeNilRow.domain false) (Rows.pipeNilSpec.post enc Try.prog Try.f5 false true false false) := by
  refine returnsInHanded_of_change (C := Try.checked) own started (by kernel_rfl) Try.func5
    (ChangeSpec.witness6 (enc := enc) (C := Try.checked) false ⟨#[], #[.slice none 0 0], []⟩ 8 (by kernel_rfl) (by kernel_rfl) (by kernel_rfl) (by kernel_rfl)) ?_
  intro W base args ds gs before hval hW _ _
  exact law_contract (C := cfg) (s := Rows.pipeNilSpec) cfg_ok (fun _ => rfl) laidOut argTypes_ok (by kernel_rfl) rfl (fun ds h => by
    rw [Try.params5] at h
    match ds, h with
    | [a0], _ => rfl) (rt := 4) (by kernel_rfl) Try.underlying4 law W base args ds gs before hval hW
theorem proved : Rows.PipeNilSaid :=
  OpenClaim.holds_of_wide 5 Try.f5 rfl rfl rfl rfl rfl rfl rfl ⟨rfl, rfl, rfl, rfl, rfl⟩ rfl rfl rfl rfl rfl (by kernel_rfl) Try.func5 (by kernel_rfl)
    (of_decide_eq_true (by kernel_rfl)) (by unfold Func.isWrapper; first | (rw [if_pos (by decide +kernel)]; kernel_rfl) | (rw [if_neg (by decide +kernel)]; exact ⟨rfl, rfl⟩))
    (fun os started H enc _ => lifted os started H enc)
end Go.Proofs.Ytgofohblppkjfaa.wPipeNil
