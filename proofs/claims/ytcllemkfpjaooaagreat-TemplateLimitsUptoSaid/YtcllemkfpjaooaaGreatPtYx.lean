/-
  Reading a replacement, the document's way.
-/
import Derived.Test.YtcllemkfpjaooaaGreatPtXx
namespace Go.Am
set_option linter.unusedSimpArgs false
set_option linter.unusedVariables false
set_option maxRecDepth 100000

def RPS (H:Hp) (out:List Pt) (v:AV) (H':Hp):Prop:=RowAt H' v out∧(∀ a ∈ rowA v,H.length≤a)∧Kpt [] H H'
theorem RPS.next {H H' H2:Hp} {out out':List Pt} {v v2:AV} (h:RPS H out v H') (h1:RowAt H2 v2 out') (h2:Kpt (rowA v) H' H2) (h3:∀ a ∈ rowA v2,a ∈ rowA v ∨ H'.length≤a):RPS H out' v2 H2:=by
 obtain ⟨p1,p2,p3⟩:=h
 refine ⟨h1,fun a ha=>?_,⟨Nat.le_trans p3.1 h2.1,fun i hi hn=>?_⟩⟩
 ·rcases h3 a ha with h | h
  ·exact p2 a h
  ·have:=p3.1;omega
 ·rw [h2.2 i (by have:=p3.1;omega) (fun hc=>by have:=p2 i hc;omega)]
  exact p3.2 i hi hn
end Go.Am
