/-
  Closed facts of the row of MergeFiles.
-/
import Derived.Test.YtehanadfidoodaaGreatDoorRows
import Derived.JoinedOf
namespace Go.Proofs.YtehanadfidoodaaGreatDoor.wMergeFiles
theorem k12:(Rows.mergeFilesUptoRow.recurses==Tryz.pinned.checked.prog.recurses 14)=true:=by kernel_rfl
theorem k13:(Rows.mergeFilesUptoRow.named==Tryz.pinned.checked.prog.varsNamed 14)=true:=by kernel_rfl
end Go.Proofs.YtehanadfidoodaaGreatDoor.wMergeFiles
