/-
  Reading a replacement, the program's way.
-/
import Derived.Test.YtcllemkfpjaooaaGreatPtWx
namespace Go.Am
set_option linter.unusedSimpArgs false
set_option linter.unusedVariables false
set_option maxRecDepth 100000

theorem PS.out {H H':Hp} {out:List Pt} (h:PS H out H'):∃ v,aload false 1 (.ptr H.length 0) H'=some v∧RowAt H' v out∧(∀ a ∈ rowA v,H.length < a)∧Kpt [] H H':=by
 obtain ⟨v,h1,h2,h3,h4,_⟩:=h
 exact ⟨v,by rw [aload_of h1];rfl,h2,h3,h4⟩
end Go.Am
