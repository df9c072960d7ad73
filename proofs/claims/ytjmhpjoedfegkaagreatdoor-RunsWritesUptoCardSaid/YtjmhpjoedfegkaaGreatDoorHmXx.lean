/- THE ABSTRACT MACHINE -/
import Derived.Test.YtjmhpjoedfegkaaGreatDoorHmVx
import Derived.Deep.DeepHandedRow
import Derived.Deep.DeepLaidRun
namespace Go.Am
open Go.WideShapes Go.ChangeShapes Go.ChangeAt RowKit
def HN:Nat->DataW Unit->List Value
 |_+1,.lit l=>[l.value]
 |n+1,.agg ds=>ds.flatMap (HN n)
 |_,_=>[]
def Zk6 (h:Array Obj)(g:Nat)(j:List Value):Array Obj:=h.modify g λ
 |.cells _ t frozen=>.cells j.toArray t frozen
 |o=>o
theorem AT.agg {H:Type}{P:Program}{t:TypeId}{d:DataW H}{a:AV}(u:WD P t=true)(h:AT P t d a):∃ n j,TV P n t d j/\a=.agg j:=by
 obtain⟨n,j,h,rfl⟩:=h;exact⟨n,j,h,by rw[u];rfl⟩
end Go.Am
