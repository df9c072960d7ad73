/-
  Closed facts of the row of TempfileCalls.
-/
import Derived.Test.YtebjpfbenjgglaaGreatDoorRows
import Derived.JoinedOf
namespace Go.Proofs.YtebjpfbenjgglaaGreatDoor.wTempfileCalls
theorem k12:(Rows.tempfileCallsUptoRow.recurses == Tryz.pinned.checked.prog.recurses 3)=true:=by kernel_rfl
theorem k13:(Rows.tempfileCallsUptoRow.named == Tryz.pinned.checked.prog.varsNamed 3)=true:=by kernel_rfl
end Go.Proofs.YtebjpfbenjgglaaGreatDoor.wTempfileCalls
