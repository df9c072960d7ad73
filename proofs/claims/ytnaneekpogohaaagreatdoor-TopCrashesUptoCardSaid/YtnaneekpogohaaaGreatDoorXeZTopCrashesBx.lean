/-
  Closed facts of the row of TopCrashes.
-/
import Derived.Test.YtnaneekpogohaaaGreatDoorRows
import Derived.JoinedOf
namespace Go.Proofs.YtnaneekpogohaaaGreatDoor.wTopCrashes
theorem k12:(Rows.topCrashesUptoRow.recurses==Tryz.pinned.checked.prog.recurses 3)=true:=by kernel_rfl
theorem k13:(Rows.topCrashesUptoRow.named==Tryz.pinned.checked.prog.varsNamed 3)=true:=by kernel_rfl
end Go.Proofs.YtnaneekpogohaaaGreatDoor.wTopCrashes
