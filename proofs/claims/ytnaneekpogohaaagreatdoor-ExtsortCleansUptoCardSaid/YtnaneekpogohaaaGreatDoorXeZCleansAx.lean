/-
  Closed facts of the row of ExtsortCleans.
-/
import Derived.Test.YtnaneekpogohaaaGreatDoorRows
import Derived.JoinedOf
namespace Go.Proofs.YtnaneekpogohaaaGreatDoor.wExtsortCleans
theorem k10:(Rows.extsortCleansUptoRow.inPlace==Tryz.pinned.checked.prog.inPlace 7)=true:=by kernel_rfl
theorem k11:(Rows.extsortCleansUptoRow.unfollowed==Tryz.pinned.checked.prog.unfollowed 7)=true:=by kernel_rfl
end Go.Proofs.YtnaneekpogohaaaGreatDoor.wExtsortCleans
