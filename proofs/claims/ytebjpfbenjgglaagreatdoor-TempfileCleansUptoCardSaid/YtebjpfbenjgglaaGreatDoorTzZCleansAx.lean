/-
  Closed facts of the row of TempfileCleans.
-/
import Derived.Test.YtebjpfbenjgglaaGreatDoorRows
import Derived.JoinedOf
namespace Go.Proofs.YtebjpfbenjgglaaGreatDoor.wTempfileCleans
theorem k10:(Rows.tempfileCleansUptoRow.inPlace == Tryz.pinned.checked.prog.inPlace 4)=true:=by kernel_rfl
theorem k11:(Rows.tempfileCleansUptoRow.unfollowed == Tryz.pinned.checked.prog.unfollowed 4)=true:=by kernel_rfl
end Go.Proofs.YtebjpfbenjgglaaGreatDoor.wTempfileCleans
