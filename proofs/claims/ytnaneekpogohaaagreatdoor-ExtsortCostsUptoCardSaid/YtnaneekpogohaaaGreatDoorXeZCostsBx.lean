/-
  Closed facts of the row of ExtsortCosts.
-/
import Derived.Test.YtnaneekpogohaaaGreatDoorRows
import Derived.JoinedOf
namespace Go.Proofs.YtnaneekpogohaaaGreatDoor.wExtsortCosts
theorem k12:(Rows.extsortCostsUptoRow.recurses == Tryz.pinned.checked.prog.recurses 9)=true:=by kernel_rfl
theorem k13:(Rows.extsortCostsUptoRow.named == Tryz.pinned.checked.prog.varsNamed 9)=true:=by kernel_rfl
end Go.Proofs.YtnaneekpogohaaaGreatDoor.wExtsortCosts
