/-
  THE ABSTRACT MACHINE, part X: rows that list what package-level variables hold.
-/
import Derived.Test.YtnaneekpogohaaaGreatDoorHmVx
import Derived.Deep.DeepHandedRow
import Derived.Deep.DeepLaidRun
namespace Go.Am
open Go.WideShapes Go.ChangeShapes Go.ChangeAt RowKit

def cellsD:Nat→DataW Unit→List Value
 | _+1,.lit l=>[l.value]
 | n+1,.agg ds=>ds.flatMap (cellsD n)
 | _,_=>[]
def setG (h:Array Obj) (g:Nat) (cs:List Value):Array Obj:=h.modify g fun
 | .cells _ t frozen=>.cells cs.toArray t frozen
 | o=>o
theorem AT.agg {H:Type} {P:Program} {t:TypeId} {d:DataW H} {a:AV} (hg:aggOf P t=true) (h:AT P t d a):∃ n cs,TV P n t d cs∧a=.agg cs:=by
 obtain ⟨n,cs,h,rfl⟩:=h
 exact ⟨n,cs,h,by rw [hg];rfl⟩
end Go.Am
