/-
  Closed facts of the row of TempfileReads.
-/
import Derived.Test.YtebjpfbenjgglaaDoorRows
import Derived.JoinedOf
namespace Go.Proofs.YtebjpfbenjgglaaDoor.wTempfileReads
theorem k10:(Rows.tempfileReadsUptoRow.inPlace == Tryd.pinned.checked.prog.inPlace 4)=true:=by kernel_rfl
theorem k11:(Rows.tempfileReadsUptoRow.unfollowed == Tryd.pinned.checked.prog.unfollowed 4)=true:=by kernel_rfl
end Go.Proofs.YtebjpfbenjgglaaDoor.wTempfileReads
