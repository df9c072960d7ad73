/-
  Closed facts of the row of ExtsortCrashes.
-/
import Derived.Test.YtnaneekpogohaaaGreatDoorRows
import Derived.JoinedOf
namespace Go.Proofs.YtnaneekpogohaaaGreatDoor.wExtsortCrashes
theorem k12:(Rows.extsortCrashesUptoRow.recurses==Tryz.pinned.checked.prog.recurses 10)=true:=by kernel_rfl
theorem k13:(Rows.extsortCrashesUptoRow.named==Tryz.pinned.checked.prog.varsNamed 10)=true:=by kernel_rfl
end Go.Proofs.YtnaneekpogohaaaGreatDoor.wExtsortCrashes
