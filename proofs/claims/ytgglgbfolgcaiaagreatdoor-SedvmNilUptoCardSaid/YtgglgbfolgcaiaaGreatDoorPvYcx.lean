/-
  A world in which the listed package-level variables hold what their initialisers lay.
-/
import Derived.Test.YtgglgbfolgcaiaaGreatDoorPvGx
import Derived.Test.YtgglgbfolgcaiaaGreatDoorHmXx
import Derived.Test.YtgglgbfolgcaiaaGreatDoorRows
namespace Go.Am
open Go.Proofs Go.Proofs.YtgglgbfolgcaiaaGreatDoor
noncomputable def laidWorld (os:Os):World :=
 {World.holding Tryz.prog os ⟨#[],#[],[]⟩ with
  heap:=setG (setG (setG (setG (setG ((World.holding Tryz.prog os ⟨#[],#[],[]⟩).heap)
   4 (cellsD 5 Rows.laid_math_bits_deBruijn32tab))
   5 (cellsD 5 Rows.laid_math_bits_deBruijn64tab))
   3 (cellsD 5 Rows.laid_internal_strconv_uint64pow10))
   2 (cellsD 5 Rows.laid_unicode_utf8_acceptRanges))
   1 (cellsD 5 Rows.laid_unicode_utf8_first) }
theorem laid_met (os:Os) (args:Array Value):laidMet Tryz.prog Rows.sedvmNilUptoRow.laid ((laidWorld os).forCall (fun _ _=>0) ⟨#[],args,[]⟩).memory :=
 laidMet_of_run3 8 (by kernel_rfl) (by kernel_rfl) (by kernel_rfl)
theorem glob_laid {W:World} (_:laidMet Tryz.prog Rows.sedvmNilUptoRow.laid W):GlobOk cfg (start W):=glob_start fun g cs hg=>by cases hg
end Go.Am
