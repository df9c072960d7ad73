/-
  A world in which the listed package-level variables hold what their initialisers lay.
-/
import Derived.Test.YtnaneekpogohaaaGreatDoorHmXx
import Derived.Test.YtnaneekpogohaaaGreatDoorRows
namespace Go.Am
open Go.Proofs Go.Proofs.YtnaneekpogohaaaGreatDoor
noncomputable def laidWorld (os:Os):World :=
 {World.holding Tryz.prog os ⟨#[],#[],[]⟩ with
  heap:=setG (setG (setG (setG (setG (setG ((World.holding Tryz.prog os ⟨#[],#[],[]⟩).heap)
   5 (cellsD 5 Rows.laid_math_bits_deBruijn32tab))
   6 (cellsD 5 Rows.laid_math_bits_deBruijn64tab))
   4 (cellsD 5 Rows.laid_internal_strconv_uint64pow10))
   2 (cellsD 5 Rows.laid_unicode_utf8_acceptRanges))
   3 (cellsD 5 Rows.laid_texttools_frame_table))
   1 (cellsD 5 Rows.laid_unicode_utf8_first) }
theorem laid_met (os:Os) (args:Array Value):laidMet Tryz.prog Rows.extsortCostsUptoRow.laid ((laidWorld os).forCall (fun _ _=>0) ⟨#[],args,[]⟩).memory :=
 laidMet_of_run3 8 (by kernel_rfl) (by kernel_rfl) (by kernel_rfl)
end Go.Am
