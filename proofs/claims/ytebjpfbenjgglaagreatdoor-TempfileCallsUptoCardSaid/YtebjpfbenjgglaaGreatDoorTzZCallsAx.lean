/-
  Closed facts of the row of TempfileCalls.
-/
import Derived.Test.YtebjpfbenjgglaaGreatDoorRows
import Derived.JoinedOf
namespace Go.Proofs.YtebjpfbenjgglaaGreatDoor.wTempfileCalls
theorem k10:(Rows.tempfileCallsUptoRow.inPlace == Tryz.pinned.checked.prog.inPlace 3)=true:=by kernel_rfl
theorem k11:(Rows.tempfileCallsUptoRow.unfollowed == Tryz.pinned.checked.prog.unfollowed 3)=true:=by kernel_rfl
end Go.Proofs.YtebjpfbenjgglaaGreatDoor.wTempfileCalls
