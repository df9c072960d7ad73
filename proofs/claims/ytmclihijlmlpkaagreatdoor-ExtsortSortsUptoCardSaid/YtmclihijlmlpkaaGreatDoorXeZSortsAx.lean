/-
  Closed facts of the row of ExtsortSorts.
-/
import Derived.Test.YtmclihijlmlpkaaGreatDoorRows
import Derived.JoinedOf
namespace Go.Proofs.YtmclihijlmlpkaaGreatDoor.wExtsortSorts
theorem k10:(Rows.extsortSortsUptoRow.inPlace==Tryz.pinned.checked.prog.inPlace 3)=true:=by kernel_rfl
theorem k11:(Rows.extsortSortsUptoRow.unfollowed==Tryz.pinned.checked.prog.unfollowed 3)=true:=by kernel_rfl
end Go.Proofs.YtmclihijlmlpkaaGreatDoor.wExtsortSorts
