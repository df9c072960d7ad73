/-
  Closed facts of the row of RunsWrites.
-/
import Derived.Test.YtjmhpjoedfegkaaGreatDoorRows
import Derived.JoinedOf
namespace Go.Proofs.YtjmhpjoedfegkaaGreatDoor.wRunsWrites
theorem k12:(Rows.runsWritesUptoRow.recurses==Tryz.pinned.checked.prog.recurses 3)=true:=by kernel_rfl
theorem k13:(Rows.runsWritesUptoRow.named==Tryz.pinned.checked.prog.varsNamed 3)=true:=by kernel_rfl
end Go.Proofs.YtjmhpjoedfegkaaGreatDoor.wRunsWrites
