/-
  Closed facts of the row of TempfileNil.
-/
import Derived.Test.YtebjpfbenjgglaaDoorRows
import Derived.JoinedOf
namespace Go.Proofs.YtebjpfbenjgglaaDoor.wTempfileNil
theorem k12:(Rows.tempfileNilUptoRow.recurses == Tryd.pinned.checked.prog.recurses 5)=true:=by kernel_rfl
theorem k13:(Rows.tempfileNilUptoRow.named == Tryd.pinned.checked.prog.varsNamed 5)=true:=by kernel_rfl
end Go.Proofs.YtebjpfbenjgglaaDoor.wTempfileNil
