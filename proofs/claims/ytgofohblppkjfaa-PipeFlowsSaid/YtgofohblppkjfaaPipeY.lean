/-
  The arguments of the statements about pipes.
-/
import Derived.Test.YtgofohblppkjfaaPipeX
import Derived.Test.YtgofohblppkjfaaAmV
import Derived.Test.YtgofohblppkjfaaRows
import Derived.Handed
namespace Go.Am
open Go.Proofs Go.Proofs.Ytgofohblppkjfaa
theorem laidOut : laidOutB Try.prog = true := by kernel_rfl
theorem own : ownKnob Try.prog.godebug = none := by kernel_rfl
/-- The types of the arguments. -/
def argTypes : List Nat := [3, 5, 9, 31, 40]
theorem argTypes_ok : argTypes.all (plainIn Try.prog argTypes) = true := by kernel_rfl
theorem fields_40 : fieldTypes Try.prog 40 = some [3, 9, 3] := by kernel_rfl
theorem under_31 : Try.prog.underlying 31 = some (.slice 40) := by kernel_rfl
theorem under_3 : Try.prog.underlying 3 = some (.int .i64) := by kernel_rfl
theorem under_5 : Try.prog.underlying 5 = some (.int .u8) := by kernel_rfl
theorem under_9 : Try.prog.underlying 9 = some .string := by kernel_rfl
theorem cells_40 : Try.prog.cellsOf 40 = 3 := by kernel_rfl
theorem agg_40 : aggOf Try.prog 40 = true := by kernel_rfl
theorem agg_31 : aggOf Try.prog 31 = false := by kernel_rfl
theorem agg_3 : aggOf Try.prog 3 = false := by kernel_rfl
theorem agg_5 : aggOf Try.prog 5 = false := by kernel_rfl
theorem agg_9 : aggOf Try.prog 9 = false := by kernel_rfl

theorem call_of {n : Nat} {cs : List AV} (h : TV Try.prog n 40 cs) : ∃ c : Ca, AV.agg cs = c.av := by
  obtain ⟨parts, m, rfl, h1, h2⟩ := h.fields fields_40
  obtain ⟨a, b, c, rfl⟩ := three h1
  obtain ⟨x, rfl, _⟩ := (h2 0 3 a rfl rfl).int under_3
  obtain ⟨y, rfl, _⟩ := (h2 1 9 b rfl rfl).str under_9
  obtain ⟨z, rfl, _⟩ := (h2 2 3 c rfl rfl).int under_3
  exact ⟨⟨x, y, z⟩, rfl⟩
theorem calls_of {a : AV} (h : AT Try.prog 31 a) : ∃ l, CArg a l := by
  rcases h.slice under_31 with rfl | ⟨l, m, rfl, _, h2⟩
  · exact ⟨[], .inl ⟨rfl, rfl⟩⟩
  · obtain ⟨vals, rfl⟩ := choose_map Ca.av l fun x hx => by
      obtain ⟨cs, rfl, h⟩ := h2 x hx
      rw [agg_40]
      exact call_of h
    exact ⟨vals, .inr ⟨.no, by rw [cells_40]⟩⟩
end Go.Am

