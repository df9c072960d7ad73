/-
  Closed facts of the row of RunsWrites.
-/
import Derived.Test.YtjmhpjoedfegkaaGreatDoorRows
import Derived.JoinedOf
namespace Go.Proofs.YtjmhpjoedfegkaaGreatDoor.wRunsWrites
theorem k10:(Rows.runsWritesUptoRow.inPlace==Tryz.pinned.checked.prog.inPlace 3)=true:=by kernel_rfl
theorem k11:(Rows.runsWritesUptoRow.unfollowed==Tryz.pinned.checked.prog.unfollowed 3)=true:=by kernel_rfl
end Go.Proofs.YtjmhpjoedfegkaaGreatDoor.wRunsWrites
