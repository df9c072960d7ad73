/-
  The example of chapter 20 is answered as it should be.
-/
import Derived.Test.YtomfadecfjephaaGreatDoorUkGF2x
namespace Go.Am
set_option maxRecDepth 100000
def okR (r : Res) : Bool := match r with
  | some (.bool true, _) => true
  | _ => false
theorem awake_run : okR (rc21 (rV 20) []) = true := by kernel_rfl
theorem okR_flat {f : List AV → Hp → Res} {x : Res} (hx : okR x = true) (hg : Gr x (f [] [])) (H : Hp) : flatC f [] H = some (.bool true, H) := by
  unfold okR at hx
  split at hx
  · exact flatC_of (args' := []) (by simp) (hg _ rfl) (by simp [flatV])
  · cases hx
theorem awake_ok (H : Hp) : flatC C_L20_awake [] H = some (.bool true, H) := okR_flat awake_run (sc21 (sV 20) []) H
end Go.Am
