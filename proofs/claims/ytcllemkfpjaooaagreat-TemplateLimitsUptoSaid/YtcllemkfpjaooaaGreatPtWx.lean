/-
  Reading a replacement: what is read; the program's way.
-/
import Derived.Test.YtcllemkfpjaooaaGreatPtVx
namespace Go.Am
set_option linter.unusedSimpArgs false
set_option linter.unusedVariables false
set_option maxRecDepth 100000

def PS (H:Hp) (out:List Pt) (H':Hp):Prop:=∃ v,H'[H.length]?=some (.cells [v])∧RowAt H' v out∧(∀ a ∈ rowA v,H.length < a)∧Kpt [] H H'∧v.cells=[v]∧v.known=true
theorem RowAt.kept {H H':Hp} {x:AV} {L:List Pt} {W:List Nat} (h:RowAt H x L) (hk:Kpt W H H') (hn:∀ a ∈ rowA x,a ∉ W):RowAt H' x L :=
 h.imp id fun ⟨o,e,h1,h2⟩=>⟨o,e,h1,hk.get h2 (hn o (by rw [h1];simp [rowA]))⟩
end Go.Am
