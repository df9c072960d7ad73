/-
  Zkv facts of the row of MergeOrders.
-/
import Derived.Test.YtehanadfidoodaaGreatDoorRows
import Derived.JoinedOf
namespace Go.Proofs.YtehanadfidoodaaGreatDoor.wMergeOrders
theorem k12:(Rows.mergeOrdersUptoRow.recurses == Tryz.pinned.checked.prog.recurses 11)=true:=by kernel_rfl
theorem k13:(Rows.mergeOrdersUptoRow.named == Tryz.pinned.checked.prog.varsNamed 11)=true:=by kernel_rfl
end Go.Proofs.YtehanadfidoodaaGreatDoor.wMergeOrders
