/-
  Some calls of the example, worked out: written by program (wip/sv/pva.py).
-/
import Derived.Test.YtgglgbfolgcaiaaGreatDoorPvVx
namespace Go.Am
open Go.Proofs
set_option maxRecDepth 1000000
theorem ev_p:okV (flatC (callR k0 cfg 100000 100 12) aP []) tP=true:=by kernel_rfl
theorem ev_c:okV (flatC (callR k0 cfg 100000 100 14) [vP] []) vC=true:=by kernel_rfl
end Go.Am
