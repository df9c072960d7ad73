/-
  The example of the chapter, worked out.
-/
import Derived.Test.YtcllemkfpjaooaaGreatPtGx
import Derived.Test.YtcllemkfpjaooaaGreatHmYbx
namespace Go.Am
open Go.Proofs
set_option maxRecDepth 1000000
theorem awake_run:okY (callR cfg 10000 60 10 [] [])=true:=by kernel_rfl
theorem awake_ok (H:Hp):flatC C_L16_awake [] H=some (.bool true,H):=okY_flat awake_run H
end Go.Am
