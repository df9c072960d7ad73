/-
  Closed facts of the row of MergePlans.
-/
import Derived.Test.YtehanadfidoodaaGreatDoorRows
import Derived.JoinedOf
namespace Go.Proofs.YtehanadfidoodaaGreatDoor.wMergePlans
theorem k12 : (Rows.mergePlansUptoRow.recurses == Tryz.pinned.checked.prog.recurses 8) = true := by kernel_rfl
theorem k13 : (Rows.mergePlansUptoRow.named == Tryz.pinned.checked.prog.varsNamed 8) = true := by kernel_rfl
end Go.Proofs.YtehanadfidoodaaGreatDoor.wMergePlans
