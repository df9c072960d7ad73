/-
  Closed facts of the row of RunsPeeks.
-/
import Derived.Test.YtehanadfidoodaaGreatDoorRows
import Derived.JoinedOf
namespace Go.Proofs.YtehanadfidoodaaGreatDoor.wRunsPeeks
theorem k10:(Rows.runsPeeksUptoRow.inPlace == Tryz.pinned.checked.prog.inPlace 7) = true:=by kernel_rfl
theorem k11:(Rows.runsPeeksUptoRow.unfollowed == Tryz.pinned.checked.prog.unfollowed 7) = true:=by kernel_rfl
end Go.Proofs.YtehanadfidoodaaGreatDoor.wRunsPeeks
