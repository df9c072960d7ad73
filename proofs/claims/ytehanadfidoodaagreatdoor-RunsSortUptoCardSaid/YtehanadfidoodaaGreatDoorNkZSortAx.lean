/-
  Closed facts of the row of RunsSort.
-/
import Derived.Test.YtehanadfidoodaaGreatDoorRows
import Derived.JoinedOf
namespace Go.Proofs.YtehanadfidoodaaGreatDoor.wRunsSort
theorem k10:(Rows.runsSortUptoRow.inPlace == Tryz.pinned.checked.prog.inPlace 6) = true:=by kernel_rfl
theorem k11:(Rows.runsSortUptoRow.unfollowed == Tryz.pinned.checked.prog.unfollowed 6) = true:=by kernel_rfl
end Go.Proofs.YtehanadfidoodaaGreatDoor.wRunsSort
