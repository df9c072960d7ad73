/-
  Closed facts of the row of MergeNexts.
-/
import Derived.Test.YtehanadfidoodaaGreatDoorRows
import Derived.JoinedOf
namespace Go.Proofs.YtehanadfidoodaaGreatDoor.wMergeNexts
theorem k12:(Rows.mergeNextsUptoRow.recurses==Tryz.pinned.checked.prog.recurses 10)=true:=by kernel_rfl
theorem k13:(Rows.mergeNextsUptoRow.named==Tryz.pinned.checked.prog.varsNamed 10)=true:=by kernel_rfl
end Go.Proofs.YtehanadfidoodaaGreatDoor.wMergeNexts
