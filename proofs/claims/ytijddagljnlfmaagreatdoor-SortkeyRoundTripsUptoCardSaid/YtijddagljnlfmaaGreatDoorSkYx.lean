/-
  The arguments of the statements about sort keys.
-/
import Derived.Test.YtijddagljnlfmaaGreatDoorSkSx
import Derived.Test.YtijddagljnlfmaaGreatDoorBmXx
namespace Go.Am
open Go.Proofs
theorem laidOut : laidOutB Tryz.prog = true := by kernel_rfl
theorem own : ownKnob Tryz.prog.godebug = none := by kernel_rfl
def argTypes : List Nat := [3, 4, 9, 22, 23, 25, 34, 37, 38, 39, 41, 119, 152, 153, 155, 157]
theorem argTypes_ok : argTypes.all (plainIn Tryz.prog argTypes) = true := by kernel_rfl
theorem under_3 : Tryz.prog.underlying 3 = some (.int .i64) := by kernel_rfl
theorem under_9 : Tryz.prog.underlying 9 = some .string := by kernel_rfl
theorem fields_34 : fieldTypes Tryz.prog 34 = some [3, 3, 3, 3, 3] := by kernel_rfl
theorem agg_34 : aggOf Tryz.prog 34 = true := by kernel_rfl
section
variable {H : Type}
theorem wf64 {n : Int} (h : (Lit.int .i64 n).wf = true) : -9223372036854775808 ≤ n ∧ n ≤ 9223372036854775807 := by
  have e1 : IntKind.i64.min = -9223372036854775808 := by decide
  have e2 : IntKind.i64.max = 9223372036854775807 := by decide
  simp only [Lit.wf, e1, e2, Bool.and_eq_true, decide_eq_true_eq] at h
  exact h
theorem key_tv {n : Nat} {d : DataW H} {cs : List AV} (h : TV Tryz.prog n 34 d cs) : ∃ k : Ke, KeOk k ∧ cs = k.cells := by
  obtain ⟨ds, parts, m, rfl, rfl, h1, h2, h3⟩ := h.fields fields_34
  obtain ⟨a, b, c, d, e, rfl⟩ := five h1
  obtain ⟨a', b', c', d', e', rfl⟩ := five h2
  obtain ⟨x, _, rfl, hx⟩ := (h3 0 3 a a' rfl rfl rfl).int under_3
  obtain ⟨y, _, rfl, hy⟩ := (h3 1 3 b b' rfl rfl rfl).int under_3
  obtain ⟨z, _, rfl, hz⟩ := (h3 2 3 c c' rfl rfl rfl).int under_3
  obtain ⟨u, _, rfl, hu⟩ := (h3 3 3 d d' rfl rfl rfl).int under_3
  obtain ⟨v, _, rfl, hv⟩ := (h3 4 3 e e' rfl rfl rfl).int under_3
  exact ⟨⟨x, y, z, u, v⟩, ⟨wf64 hx, wf64 hy, wf64 hz, wf64 hu⟩, rfl⟩
theorem key_of {d : DataW H} {a : AV} (h : AT Tryz.prog 34 d a) : ∃ k : Ke, KeOk k ∧ a = .agg k.cells := by
  obtain ⟨n, cs, h, e⟩ := h.agg agg_34
  obtain ⟨k, hk, e2⟩ := key_tv h
  exact ⟨k, hk, by rw [e, e2]⟩
end
end Go.Am
