/-
  The arguments of the statements about replacements.
-/
import Derived.Test.YtcllemkfpjaooaaGreatPtLx
import Derived.Test.YtcllemkfpjaooaaGreatHmXx
import Derived.Test.YtcllemkfpjaooaaGreatRows
namespace Go.Am
open Go.Proofs Go.Proofs.YtcllemkfpjaooaaGreat
set_option linter.unusedVariables false
set_option maxRecDepth 100000
theorem laidOut:laidOutB Tryz.prog=true:=by kernel_rfl
theorem own:ownKnob Tryz.prog.godebug=none:=by kernel_rfl
def argTypes:List Nat:=[3,9,22,29,31,56,63]
theorem argTypes_ok:argTypes.all (plainIn Tryz.prog argTypes)=true:=by kernel_rfl
theorem under_3:Tryz.prog.underlying 3=some (.int .i64):=by kernel_rfl
section
variable {H:Type}
end
end Go.Am
