/-
  PipeFlows returns true for every input: a string that is written and read in parts comes through unchanged. The statement holds of the given program for every input, on the axioms propext, Classical.choice and Quot.sound; nothing is assumed.
-/
import Derived.Test.YtgofohblppkjfaaPipeY
import Derived.Test.YtgofohblppkjfaaPipeXF
import Derived.Test.YtgofohblppkjfaaRows
import Derived.Handed
namespace Go.Proofs.Ytgofohblppkjfaa.wPipeFlows
open Go.Am Go.ChangeAt
theorem law (avs : List AV) (hn : avs.length = Try.f3.params.toList.length) (h : ∀ (j : Nat) (t : TypeId) (a : AV), Try.f3.params.toList[j]? = some t → avs[j]? = some a → AT Try.prog t a) : ∃ H', callw cfg 3 avs [] = some (.bool true, H') := by
  rw [Try.params3] at hn h
  match avs, hn with
  | [a0, a1, a2], _ =>
    obtain ⟨n, rfl, hn⟩ := (h 0 5 a0 rfl rfl).int under_5
    obtain ⟨m, rfl, hm⟩ := (h 1 5 a1 rfl rfl).int under_5
    obtain ⟨s, rfl, _⟩ := (h 2 9 a2 rfl rfl).str under_9
    have hn' : 0 ≤ n ∧ n ≤ 255 := by simpa [Lit.wf, IntKind.min, IntKind.max, IntKind.signed, IntKind.bits] using hn
    have hm' : 0 ≤ m ∧ m ≤ 255 := by simpa [Lit.wf, IntKind.min, IntKind.max, IntKind.signed, IntKind.bits] using hm
    exact PipeFlows_law hn'.1 hn'.2 hm'.1 hm'.2 s []
set_option maxRecDepth 100000 in
theorem lifted (os : Os) (started : os.Started) (H : Type) (enc : TypeId × Value → H) :
    ReturnsInHanded {} Try.checked os 3 .any (Rows.pipeFlowsSpec.pre6 enc Try.prog Try.f3 Rows.pipeFlowsRow.domain false) (Rows.pipeFlowsSpec.post enc Try.prog Try.f3 false true false false) := by
  refine returnsInHanded_of_change (C := Try.checked) own started (by kernel_rfl) Try.func3
    (ChangeSpec.witness6 (enc := enc) (C := Try.checked) false ⟨#[], #[.int .u8 0, .int .u8 0, .string .empty], []⟩ 8 (by kernel_rfl) (by kernel_rfl) (by kernel_rfl) (by kernel_rfl)) ?_
  intro W base args ds gs before hval hW _ _
  exact law_contract (C := cfg) (s := Rows.pipeFlowsSpec) cfg_ok (fun _ => rfl) laidOut argTypes_ok (by kernel_rfl) rfl (fun ds h => by
    rw [Try.params3] at h
    match ds, h with
    | [a0, a1, a2], _ => rfl) (rt := 4) (by kernel_rfl) Try.underlying4 law W base args ds gs before hval hW
theorem proved : Rows.PipeFlowsSaid :=
  OpenClaim.holds_of_wide 3 Try.f3 rfl rfl rfl rfl rfl rfl rfl ⟨rfl, rfl, rfl, rfl, rfl⟩ rfl rfl rfl rfl rfl (by kernel_rfl) Try.func3 (by kernel_rfl)
    (of_decide_eq_true (by kernel_rfl)) (by unfold Func.isWrapper; first | (rw [if_pos (by decide +kernel)]; kernel_rfl) | (rw [if_neg (by decide +kernel)]; exact ⟨rfl, rfl⟩))
    (fun os started H enc _ => lifted os started H enc)
end Go.Proofs.Ytgofohblppkjfaa.wPipeFlows
