/- THE ABSTRACT MACHINE -/
import Derived.Test.YtnaneekpogohaaaGreatDoorHmVx
import Derived.Deep.DeepHandedRow
import Derived.Deep.DeepLaidRun
namespace Go.Am
open Go.WideShapes Go.ChangeShapes Go.ChangeAt RowKit
def SA:Nat->DataW Unit->List Value
 |_+1,.lit l=>[l.value]
 |n+1,.agg ds=>ds.flatMap (SA n)
 |_,_=>[]
def ZjR (h:Array Obj)(g:Nat)(j:List Value):Array Obj:=h.modify g fun
 |.cells _ t frozen=>.cells j.toArray t frozen
 |o=>o
theorem AT.agg {H:Type}{P:Program}{t:TypeId}{d:DataW H}{a:AV}(j:WB P t=true)(h:AT P t d a):∃ n g,TV P n t d g/\a=.agg g:=by
 obtain⟨n,g,h,rfl⟩:=h;exact⟨n,g,h,by rw[j];rfl⟩
end Go.Am
