/-
  Closed facts of the row of ExtsortCleans.
-/
import Derived.Test.YtnaneekpogohaaaGreatDoorRows
import Derived.JoinedOf
namespace Go.Proofs.YtnaneekpogohaaaGreatDoor.wExtsortCleans
theorem k12:(Rows.extsortCleansUptoRow.recurses==Tryz.pinned.checked.prog.recurses 7)=true:=by kernel_rfl
theorem k13:(Rows.extsortCleansUptoRow.named==Tryz.pinned.checked.prog.varsNamed 7)=true:=by kernel_rfl
end Go.Proofs.YtnaneekpogohaaaGreatDoor.wExtsortCleans
