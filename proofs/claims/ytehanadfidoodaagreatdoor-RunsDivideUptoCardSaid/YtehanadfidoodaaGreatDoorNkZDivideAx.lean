/-
  Closed facts of the row of RunsDivide.
-/
import Derived.Test.YtehanadfidoodaaGreatDoorRows
import Derived.JoinedOf
namespace Go.Proofs.YtehanadfidoodaaGreatDoor.wRunsDivide
theorem k10 : (Rows.runsDivideUptoRow.inPlace == Tryz.pinned.checked.prog.inPlace 5) = true := by kernel_rfl
theorem k11 : (Rows.runsDivideUptoRow.unfollowed == Tryz.pinned.checked.prog.unfollowed 5) = true := by kernel_rfl
end Go.Proofs.YtehanadfidoodaaGreatDoor.wRunsDivide
