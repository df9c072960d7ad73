/-
  Closed facts of the row of TempfileBounds.
-/
import Derived.Test.YtebjpfbenjgglaaDoorRows
import Derived.JoinedOf
namespace Go.Proofs.YtebjpfbenjgglaaDoor.wTempfileBounds
theorem k10:(Rows.tempfileBoundsUptoRow.inPlace == Tryd.pinned.checked.prog.inPlace 6)=true:=by kernel_rfl
theorem k11:(Rows.tempfileBoundsUptoRow.unfollowed == Tryd.pinned.checked.prog.unfollowed 6)=true:=by kernel_rfl
end Go.Proofs.YtebjpfbenjgglaaDoor.wTempfileBounds
