/-
  Closed facts of the row of ExtsortEquals.
-/
import Derived.Test.YtnaneekpogohaaaGreatDoorRows
import Derived.JoinedOf
namespace Go.Proofs.YtnaneekpogohaaaGreatDoor.wExtsortEquals
theorem k10:(Rows.extsortEqualsUptoRow.inPlace==Tryz.pinned.checked.prog.inPlace 6)=true:=by kernel_rfl
theorem k11:(Rows.extsortEqualsUptoRow.unfollowed==Tryz.pinned.checked.prog.unfollowed 6)=true:=by kernel_rfl
end Go.Proofs.YtnaneekpogohaaaGreatDoor.wExtsortEquals
