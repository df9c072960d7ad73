/-
  What a replacement stands for, both ways.
-/
import Derived.Test.YtcllemkfpjaooaaGreatPtTx
namespace Go.Am
set_option linter.unusedSimpArgs false
set_option linter.unusedVariables false
set_option maxRecDepth 100000

def spV (p:Int × Int):AV:=.agg [.int .i64 p.1,.int .i64 p.2]
def SpAt (y:AV) (M:List (Int × Int)):Prop:=y=.nils∧M=[] ∨ ∃ t,y=.vs 2 t (M.map spV)
theorem SpAt.len {y:AV} {M:List (Int × Int)} (h:SpAt y M) (t:Nat):alenD (.slice t) y=some (.int .i64 (M.length:Int)):=by
 rcases h with ⟨rfl,rfl⟩ | ⟨tk,rfl⟩
 ·rfl
 ·rw [alen_vs,List.length_map]
theorem SpAt.idx {y:AV} {M:List (Int × Int)} (h:SpAt y M) {i:Nat} {p:Int × Int} (hi:M[i]?=some p):aindexS 2 y (.int .i64 (i:Int))=some (.vp [.int .i64 p.1,.int .i64 p.2]):=by
 rcases h with ⟨rfl,rfl⟩ | ⟨tk,rfl⟩
 ·simp at hi
 ·unfold aindexS
  dsimp only
  rw [if_pos ⟨rfl,by omega⟩,Int.toNat_natCast,List.getElem?_map,hi]
  rfl
end Go.Am
