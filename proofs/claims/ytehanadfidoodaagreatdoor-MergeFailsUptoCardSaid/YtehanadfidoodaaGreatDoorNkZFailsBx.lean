/-
  Closed facts of the row of MergeFails.
-/
import Derived.Test.YtehanadfidoodaaGreatDoorRows
import Derived.JoinedOf
namespace Go.Proofs.YtehanadfidoodaaGreatDoor.wMergeFails
theorem k12:(Rows.mergeFailsUptoRow.recurses==Tryz.pinned.checked.prog.recurses 13)=true:=by kernel_rfl
theorem k13:(Rows.mergeFailsUptoRow.named==Tryz.pinned.checked.prog.varsNamed 13)=true:=by kernel_rfl
end Go.Proofs.YtehanadfidoodaaGreatDoor.wMergeFails
