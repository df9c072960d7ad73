/-
  Closed facts of the row of TempfileNil.
-/
import Derived.Test.YtebjpfbenjgglaaDoorRows
import Derived.JoinedOf
namespace Go.Proofs.YtebjpfbenjgglaaDoor.wTempfileNil
theorem k10:(Rows.tempfileNilUptoRow.inPlace == Tryd.pinned.checked.prog.inPlace 5)=true:=by kernel_rfl
theorem k11:(Rows.tempfileNilUptoRow.unfollowed == Tryd.pinned.checked.prog.unfollowed 5)=true:=by kernel_rfl
end Go.Proofs.YtebjpfbenjgglaaDoor.wTempfileNil
