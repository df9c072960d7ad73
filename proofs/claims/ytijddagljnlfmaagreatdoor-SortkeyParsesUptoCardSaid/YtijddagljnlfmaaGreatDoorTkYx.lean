/-
  The arguments of the statements about sort keys.
-/
import Derived.Test.YtijddagljnlfmaaGreatDoorTkSx
import Derived.Test.YtijddagljnlfmaaGreatDoorDmXx
namespace Go.Am
open Go.Proofs
theorem laidOut : laidOutB Tryz.prog = true := by kernel_rfl
theorem own : ownKnob Tryz.prog.godebug = none := by kernel_rfl
def argTypes : List Nat := [3, 4, 9, 22, 23, 25, 34, 37, 38, 39, 41, 119, 152, 153, 155, 157]
theorem argTypes_ok : argTypes.all (plainIn Tryz.prog argTypes) = true := by kernel_rfl
theorem under_9 : Tryz.prog.underlying 9 = some .string := by kernel_rfl
section
variable {H : Type}
end
end Go.Am
