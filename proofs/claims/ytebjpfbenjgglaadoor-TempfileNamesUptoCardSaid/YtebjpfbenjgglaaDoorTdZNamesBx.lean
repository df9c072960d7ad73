/-
  Closed facts of the row of TempfileNames.
-/
import Derived.Test.YtebjpfbenjgglaaDoorRows
import Derived.JoinedOf
namespace Go.Proofs.YtebjpfbenjgglaaDoor.wTempfileNames
theorem k12:(Rows.tempfileNamesUptoRow.recurses == Tryd.pinned.checked.prog.recurses 3)=true:=by kernel_rfl
theorem k13:(Rows.tempfileNamesUptoRow.named == Tryd.pinned.checked.prog.varsNamed 3)=true:=by kernel_rfl
end Go.Proofs.YtebjpfbenjgglaaDoor.wTempfileNames
