/- THE ABSTRACT MACHINE -/
import Derived.Test.YtmclihijlmlpkaaGreatDoorHmVx
import Derived.Deep.DeepHandedRow
import Derived.Deep.DeepLaidRun
namespace Go.Am
open Go.WideShapes Go.ChangeShapes Go.ChangeAt RowKit
def CC:Nat->DataW Unit->List Value
 |_+1,.lit l=>[l.value]
 |n+1,.agg ds=>ds.flatMap (CC n)
 |_,_=>[]
def ZkM (h:Array Obj)(g:Nat)(j:List Value):Array Obj:=h.modify g λ
 |.cells _ t frozen=>.cells j.toArray t frozen
 |o=>o
theorem AT.agg {H:Type}{P:Program}{t:TypeId}{d:DataW H}{a:AV}(j:WP P t=true)(h:AT P t d a):∃ n g,TV P n t d g/\a=.agg g:=by
 obtain⟨n,g,h,rfl⟩:=h;exact⟨n,g,h,by rw[j];rfl⟩
end Go.Am
