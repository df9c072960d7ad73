/-
  Closed facts of the row of MergeGroups.
-/
import Derived.Test.YtehanadfidoodaaGreatDoorRows
import Derived.JoinedOf
namespace Go.Proofs.YtehanadfidoodaaGreatDoor.wMergeGroups
theorem k10 : (Rows.mergeGroupsUptoRow.inPlace == Tryz.pinned.checked.prog.inPlace 9) = true := by kernel_rfl
theorem k11 : (Rows.mergeGroupsUptoRow.unfollowed == Tryz.pinned.checked.prog.unfollowed 9) = true := by kernel_rfl
end Go.Proofs.YtehanadfidoodaaGreatDoor.wMergeGroups
