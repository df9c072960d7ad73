/-
  Closed facts of the row of RunsPeeks.
-/
import Derived.Test.YtehanadfidoodaaGreatDoorRows
import Derived.JoinedOf
namespace Go.Proofs.YtehanadfidoodaaGreatDoor.wRunsPeeks
theorem k12:(Rows.runsPeeksUptoRow.recurses == Tryz.pinned.checked.prog.recurses 7) = true:=by kernel_rfl
theorem k13:(Rows.runsPeeksUptoRow.named == Tryz.pinned.checked.prog.varsNamed 7) = true:=by kernel_rfl
end Go.Proofs.YtehanadfidoodaaGreatDoor.wRunsPeeks
