/-
  Searches of the letter a in a string of them, worked out by the kernel.
-/
import Derived.Test.YtcllemkfpjaooaaGreatPtMx
namespace Go.Am
open Go.Proofs
set_option maxRecDepth 1000000
theorem okA_8:okA 8=true:=by kernel_rfl
end Go.Am
