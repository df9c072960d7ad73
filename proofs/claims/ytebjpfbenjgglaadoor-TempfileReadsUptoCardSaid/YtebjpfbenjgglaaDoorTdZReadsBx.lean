/-
  Closed facts of the row of TempfileReads.
-/
import Derived.Test.YtebjpfbenjgglaaDoorRows
import Derived.JoinedOf
namespace Go.Proofs.YtebjpfbenjgglaaDoor.wTempfileReads
theorem k12:(Rows.tempfileReadsUptoRow.recurses == Tryd.pinned.checked.prog.recurses 4)=true:=by kernel_rfl
theorem k13:(Rows.tempfileReadsUptoRow.named == Tryd.pinned.checked.prog.varsNamed 4)=true:=by kernel_rfl
end Go.Proofs.YtebjpfbenjgglaaDoor.wTempfileReads
