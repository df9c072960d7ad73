/-
  A world in which the listed package-level variables hold what their initialisers lay.
-/
import Derived.Test.YtebjpfbenjgglaaGreatDoorEmXx
import Derived.Test.YtebjpfbenjgglaaGreatDoorRows
namespace Go.Am
open Go.Proofs Go.Proofs.YtebjpfbenjgglaaGreatDoor
noncomputable def laidWorld (os:Os):World :=
 {World.holding Tryz.prog os ⟨#[],#[],[]⟩ with
  heap:=setG (setG (setG (setG ((World.holding Tryz.prog os ⟨#[],#[],[]⟩).heap)
   2 (cellsD 5 Rows.laid_math_bits_deBruijn32tab))
   3 (cellsD 5 Rows.laid_math_bits_deBruijn64tab))
   1 (cellsD 5 Rows.laid_internal_strconv_uint64pow10))
   0 (cellsD 5 Rows.laid_texttools_frame_table) }
theorem laid_met (os:Os) (args:Array Value):laidMet Tryz.prog Rows.tempfileCleansUptoRow.laid ((laidWorld os).forCall (fun _ _=>0) ⟨#[],args,[]⟩).memory :=
 laidMet_of_run3 8 (by kernel_rfl) (by kernel_rfl) (by kernel_rfl)
end Go.Am
