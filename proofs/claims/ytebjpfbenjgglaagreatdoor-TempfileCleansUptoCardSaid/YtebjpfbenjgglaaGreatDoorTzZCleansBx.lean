/-
  Closed facts of the row of TempfileCleans.
-/
import Derived.Test.YtebjpfbenjgglaaGreatDoorRows
import Derived.JoinedOf
namespace Go.Proofs.YtebjpfbenjgglaaGreatDoor.wTempfileCleans
theorem k12:(Rows.tempfileCleansUptoRow.recurses == Tryz.pinned.checked.prog.recurses 4)=true:=by kernel_rfl
theorem k13:(Rows.tempfileCleansUptoRow.named == Tryz.pinned.checked.prog.varsNamed 4)=true:=by kernel_rfl
end Go.Proofs.YtebjpfbenjgglaaGreatDoor.wTempfileCleans
