/-
  Closed facts of the row of TopSorts.
-/
import Derived.Test.YtnaneekpogohaaaGreatDoorRows
import Derived.JoinedOf
namespace Go.Proofs.YtnaneekpogohaaaGreatDoor.wTopSorts
theorem k10:(Rows.topSortsUptoRow.inPlace==Tryz.pinned.checked.prog.inPlace 4)=true:=by kernel_rfl
theorem k11:(Rows.topSortsUptoRow.unfollowed==Tryz.pinned.checked.prog.unfollowed 4)=true:=by kernel_rfl
end Go.Proofs.YtnaneekpogohaaaGreatDoor.wTopSorts
