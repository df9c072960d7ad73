/-
  Some calls of the example, worked out: written by program (wip/sv/pva.py).
-/
import Derived.Test.YtgglgbfolgcaiaaGreatDoorPvVx
namespace Go.Am
open Go.Proofs
set_option maxRecDepth 1000000
theorem ev_r:okV (flatC (callR k0 cfg 100000 100 15) [vD,vI] []) vR=true:=by kernel_rfl
end Go.Am
