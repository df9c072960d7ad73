/-
  Closed facts of the row of ExtsortSorts.
-/
import Derived.Test.YtmclihijlmlpkaaGreatDoorRows
import Derived.JoinedOf
namespace Go.Proofs.YtmclihijlmlpkaaGreatDoor.wExtsortSorts
theorem k12:(Rows.extsortSortsUptoRow.recurses==Tryz.pinned.checked.prog.recurses 3)=true:=by kernel_rfl
theorem k13:(Rows.extsortSortsUptoRow.named==Tryz.pinned.checked.prog.varsNamed 3)=true:=by kernel_rfl
end Go.Proofs.YtmclihijlmlpkaaGreatDoor.wExtsortSorts
