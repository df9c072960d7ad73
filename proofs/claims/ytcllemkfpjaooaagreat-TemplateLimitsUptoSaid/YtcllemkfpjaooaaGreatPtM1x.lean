/-
  Searches of the letter a in a string of them, worked out by the kernel.
-/
import Derived.Test.YtcllemkfpjaooaaGreatPtMx
namespace Go.Am
open Go.Proofs
set_option maxRecDepth 1000000
theorem okA_1:okA 1=true:=by kernel_rfl
theorem okA_2:okA 2=true:=by kernel_rfl
theorem okA_3:okA 3=true:=by kernel_rfl
theorem okA_4:okA 4=true:=by kernel_rfl
end Go.Am
