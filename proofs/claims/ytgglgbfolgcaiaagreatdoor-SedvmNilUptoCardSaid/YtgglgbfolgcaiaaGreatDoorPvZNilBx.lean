/-
  Closed facts of the row of SedvmNil.
-/
import Derived.Test.YtgglgbfolgcaiaaGreatDoorRows
import Derived.JoinedOf
namespace Go.Proofs.YtgglgbfolgcaiaaGreatDoor.wSedvmNil
theorem k12:(Rows.sedvmNilUptoRow.recurses == Tryz.pinned.checked.prog.recurses 3)=true:=by kernel_rfl
theorem k13:(Rows.sedvmNilUptoRow.named == Tryz.pinned.checked.prog.varsNamed 3)=true:=by kernel_rfl
end Go.Proofs.YtgglgbfolgcaiaaGreatDoor.wSedvmNil
