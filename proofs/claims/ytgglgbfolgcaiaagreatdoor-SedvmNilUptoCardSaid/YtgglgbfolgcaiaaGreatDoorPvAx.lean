/-
  The example of the chapter, worked out: written by program (wip/sv/pva.py).
-/
import Derived.Test.YtgglgbfolgcaiaaGreatDoorPvV1x
import Derived.Test.YtgglgbfolgcaiaaGreatDoorPvV2x
import Derived.Test.YtgglgbfolgcaiaaGreatDoorPvV3x
namespace Go.Am
open Go.Proofs
set_option maxRecDepth 1000000
def tabA:List (Nat × List AV × AV):=[(12,aP,tP),(14,[vP],vC),(12,aQ,tQ),(14,[vQ],vD),(15,[vD,vI],vR)]
theorem tabA_ok:KOk cfg (tabK tabA):=tabK_cons k0_ok ev_p (tabK_cons k0_ok ev_c (tabK_cons k0_ok ev_q (tabK_cons k0_ok ev_d (tabK_cons k0_ok ev_r tabK_nil))))
theorem awake_run:okY (callR (tabK tabA) cfg 100000 100 8 [] [])=true:=by kernel_rfl
theorem awake_ok (H:Hp):flatC C_L38_awake [] H=some (.bool true,H):=okY_flat tabA_ok awake_run H
end Go.Am
