/-
  Searches of the letter a in a string of them, worked out by the kernel.
-/
import Derived.Test.YtcllemkfpjaooaaGreatPtMx
namespace Go.Am
open Go.Proofs
set_option maxRecDepth 1000000
theorem okA_5:okA 5=true:=by kernel_rfl
theorem okA_6:okA 6=true:=by kernel_rfl
end Go.Am
