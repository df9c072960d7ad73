/-
  A world in which the listed package-level variables hold what their initialisers lay.
-/
import Derived.Test.YtehanadfidoodaaGreatDoorEmXx
import Derived.Test.YtehanadfidoodaaGreatDoorRows
namespace Go.Am
open Go.Proofs Go.Proofs.YtehanadfidoodaaGreatDoor
noncomputable def Aw (os:Os):World :=
 {World.holding Tryz.prog os ⟨#[],#[],[]⟩ with
  heap:=ZcO (ZcO (ZcO (ZcO (ZcO (ZcO ((World.holding Tryz.prog os ⟨#[],#[],[]⟩).heap)
   5 (Pi 5 Rows.laid_math_bits_deBruijn32tab))
   6 (Pi 5 Rows.laid_math_bits_deBruijn64tab))
   4 (Pi 5 Rows.laid_internal_strconv_uint64pow10))
   3 (Pi 5 Rows.laid_unicode_utf8_acceptRanges))
   1 (Pi 5 Rows.laid_texttools_frame_table))
   2 (Pi 5 Rows.laid_unicode_utf8_first) }
theorem Zo2 (os:Os)(args:Array Value):laidMet Tryz.prog Rows.runsSplitsRow.laid ((Aw os).forCall (fun _ _=>0) ⟨#[],args,[]⟩).memory :=
 laidMet_of_run3 8 (by kernel_rfl) (by kernel_rfl) (by kernel_rfl)
end Go.Am
