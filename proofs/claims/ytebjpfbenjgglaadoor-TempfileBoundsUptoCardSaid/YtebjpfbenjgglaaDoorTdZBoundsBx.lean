/-
  Closed facts of the row of TempfileBounds.
-/
import Derived.Test.YtebjpfbenjgglaaDoorRows
import Derived.JoinedOf
namespace Go.Proofs.YtebjpfbenjgglaaDoor.wTempfileBounds
theorem k12:(Rows.tempfileBoundsUptoRow.recurses == Tryd.pinned.checked.prog.recurses 6)=true:=by kernel_rfl
theorem k13:(Rows.tempfileBoundsUptoRow.named == Tryd.pinned.checked.prog.varsNamed 6)=true:=by kernel_rfl
end Go.Proofs.YtebjpfbenjgglaaDoor.wTempfileBounds
