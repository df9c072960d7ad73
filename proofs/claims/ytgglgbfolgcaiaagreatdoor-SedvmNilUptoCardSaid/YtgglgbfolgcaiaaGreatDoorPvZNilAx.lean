/-
  Closed facts of the row of SedvmNil.
-/
import Derived.Test.YtgglgbfolgcaiaaGreatDoorRows
import Derived.JoinedOf
namespace Go.Proofs.YtgglgbfolgcaiaaGreatDoor.wSedvmNil
theorem k10:(Rows.sedvmNilUptoRow.inPlace == Tryz.pinned.checked.prog.inPlace 3)=true:=by kernel_rfl
theorem k11:(Rows.sedvmNilUptoRow.unfollowed == Tryz.pinned.checked.prog.unfollowed 3)=true:=by kernel_rfl
end Go.Proofs.YtgglgbfolgcaiaaGreatDoor.wSedvmNil
