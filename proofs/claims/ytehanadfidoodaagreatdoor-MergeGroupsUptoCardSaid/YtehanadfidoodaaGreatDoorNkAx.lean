/-
  The examples of chapters 21 to 23 are answered as they should be.
-/
import Derived.Test.YtehanadfidoodaaGreatDoorNkGF3x
namespace Go.Am
set_option maxRecDepth 100000
def okR (r : Res) : Bool := match r with
  | some (.bool true, _) => true
  | _ => false
theorem okR_flat {f : List AV → Hp → Res} {x : Res} (hx : okR x = true) (hg : Gr x (f [] [])) (H : Hp) : flatC f [] H = some (.bool true, H) := by
  unfold okR at hx
  split at hx
  · exact flatC_of (args' := []) (by simp) (hg _ rfl) (by simp [flatV])
  · cases hx
theorem awake23_run : okR (rc38 (rV 20) []) = true := by kernel_rfl
theorem awake23_ok (H : Hp) : flatC C_L23_awake [] H = some (.bool true, H) := okR_flat awake23_run (sc38 (sV 20) []) H
end Go.Am
