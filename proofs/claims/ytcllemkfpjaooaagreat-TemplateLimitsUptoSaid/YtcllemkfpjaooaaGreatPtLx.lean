/-
  The statements about replacements: reading, printing, and both.
-/
import Derived.Test.YtcllemkfpjaooaaGreatPtYx
import Derived.Test.YtcllemkfpjaooaaGreatPtVx
namespace Go.Am
set_option linter.unusedSimpArgs false
set_option linter.unusedVariables false
set_option maxRecDepth 100000

theorem RdAt.sl {x:AV} {L:List Pt} (h:x=.nils∧L=[] ∨ ∃ t,x=.vs 3 t (L.map ptV)) (H:Hp):RdAt H x L:=h.imp id Or.inl
end Go.Am
