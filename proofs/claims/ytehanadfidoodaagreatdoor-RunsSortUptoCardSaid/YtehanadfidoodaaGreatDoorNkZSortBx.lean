/-
  Closed facts of the row of RunsSort.
-/
import Derived.Test.YtehanadfidoodaaGreatDoorRows
import Derived.JoinedOf
namespace Go.Proofs.YtehanadfidoodaaGreatDoor.wRunsSort
theorem k12:(Rows.runsSortUptoRow.recurses == Tryz.pinned.checked.prog.recurses 6) = true:=by kernel_rfl
theorem k13:(Rows.runsSortUptoRow.named == Tryz.pinned.checked.prog.varsNamed 6) = true:=by kernel_rfl
end Go.Proofs.YtehanadfidoodaaGreatDoor.wRunsSort
