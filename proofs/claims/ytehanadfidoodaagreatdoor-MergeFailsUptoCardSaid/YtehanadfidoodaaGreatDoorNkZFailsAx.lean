/-
  Closed facts of the row of MergeFails.
-/
import Derived.Test.YtehanadfidoodaaGreatDoorRows
import Derived.JoinedOf
namespace Go.Proofs.YtehanadfidoodaaGreatDoor.wMergeFails
theorem k10:(Rows.mergeFailsUptoRow.inPlace==Tryz.pinned.checked.prog.inPlace 13)=true:=by kernel_rfl
theorem k11:(Rows.mergeFailsUptoRow.unfollowed==Tryz.pinned.checked.prog.unfollowed 13)=true:=by kernel_rfl
end Go.Proofs.YtehanadfidoodaaGreatDoor.wMergeFails
