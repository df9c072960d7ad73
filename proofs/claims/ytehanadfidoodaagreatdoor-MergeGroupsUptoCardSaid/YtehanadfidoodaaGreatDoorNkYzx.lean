/-
  The arguments of the statements about orders of lines.
-/
import Derived.Test.YtehanadfidoodaaGreatDoorNkMzx
import Derived.Test.YtehanadfidoodaaGreatDoorEmXx
import Derived.Test.YtehanadfidoodaaGreatDoorRows
namespace Go.Am
open Go.Proofs Go.Proofs.YtehanadfidoodaaGreatDoor
set_option linter.unusedVariables false
set_option maxRecDepth 100000
theorem laidOut : laidOutB Tryz.prog = true := by kernel_rfl
theorem own : ownKnob Tryz.prog.godebug = none := by kernel_rfl
def argTypes : List Nat := [3, 4, 9, 22, 23, 24, 26, 27, 29, 32, 30, 149, 210, 61, 260, 262, 264]
theorem argTypes_ok : argTypes.all (plainIn Tryz.prog argTypes) = true := by kernel_rfl
theorem under_3 : Tryz.prog.underlying 3 = some (.int .i64) := by kernel_rfl
section
variable {H : Type}
end
end Go.Am
