/-
  Closed facts of the row of TempfileNames.
-/
import Derived.Test.YtebjpfbenjgglaaDoorRows
import Derived.JoinedOf
namespace Go.Proofs.YtebjpfbenjgglaaDoor.wTempfileNames
theorem k10:(Rows.tempfileNamesUptoRow.inPlace == Tryd.pinned.checked.prog.inPlace 3)=true:=by kernel_rfl
theorem k11:(Rows.tempfileNamesUptoRow.unfollowed == Tryd.pinned.checked.prog.unfollowed 3)=true:=by kernel_rfl
end Go.Proofs.YtebjpfbenjgglaaDoor.wTempfileNames
