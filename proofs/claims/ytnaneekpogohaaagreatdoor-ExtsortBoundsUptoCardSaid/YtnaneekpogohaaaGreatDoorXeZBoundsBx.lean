/-
  Closed facts of the row of ExtsortBounds.
-/
import Derived.Test.YtnaneekpogohaaaGreatDoorRows
import Derived.JoinedOf
namespace Go.Proofs.YtnaneekpogohaaaGreatDoor.wExtsortBounds
theorem k12:(Rows.extsortBoundsUptoRow.recurses==Tryz.pinned.checked.prog.recurses 8)=true:=by kernel_rfl
theorem k13:(Rows.extsortBoundsUptoRow.named==Tryz.pinned.checked.prog.varsNamed 8)=true:=by kernel_rfl
end Go.Proofs.YtnaneekpogohaaaGreatDoor.wExtsortBounds
