/-
  The example of the chapter, worked out.
-/
import Derived.Test.YtcllemkfpjaooaaGreatPtGF3x
namespace Go.Am
open Go.Proofs
set_option maxRecDepth 1000000
def okR (r:Res):Bool:=match r with
 | some (.bool true,_)=>true
 | _=>false
theorem okR_flat {f:List AV→Hp→Res} {x:Res} (hx:okR x=true) (hg:Gr x (f [] [])) (H:Hp):flatC f [] H=some (.bool true,H):=by
 unfold okR at hx
 split at hx
 ·exact flatC_of (args':=[]) (by simp) (hg _ rfl) (by simp [flatV])
 ·cases hx
theorem awake_run:okR (rc10 (rV 40) [])=true:=by kernel_rfl
theorem awake_ok (H:Hp):flatC C_L16_awake [] H=some (.bool true,H):=okR_flat awake_run (sc10 (sV 40) []) H
end Go.Am
