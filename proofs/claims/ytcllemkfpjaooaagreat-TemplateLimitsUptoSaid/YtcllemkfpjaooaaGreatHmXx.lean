/-
  THE ABSTRACT MACHINE, part X: rows that list what package-level variables hold.
-/
import Derived.Test.YtcllemkfpjaooaaGreatHmVx
import Derived.Deep.DeepHandedRow
import Derived.Deep.DeepLaidRun
namespace Go.Am
open Go.WideShapes Go.ChangeShapes Go.ChangeAt RowKit

theorem AT.agg {H:Type} {P:Program} {t:TypeId} {d:DataW H} {a:AV} (hg:aggOf P t=true) (h:AT P t d a):∃ n cs,TV P n t d cs∧a=.agg cs:=by
 obtain ⟨n,cs,h,rfl⟩:=h
 exact ⟨n,cs,h,by rw [hg];rfl⟩
end Go.Am
