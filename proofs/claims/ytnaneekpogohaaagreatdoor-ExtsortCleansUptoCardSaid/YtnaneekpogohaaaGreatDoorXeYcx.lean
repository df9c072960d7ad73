/- A world in which the listed package-level variables hold what their in -/
import Derived.Test.YtnaneekpogohaaaGreatDoorHmXx
import Derived.Test.YtnaneekpogohaaaGreatDoorRows
namespace Go.Am
open Go.Proofs Go.Proofs.YtnaneekpogohaaaGreatDoor
noncomputable def ZcZ (g:Os):World :=
 {World.holding Tryz.prog g ⟨#[],#[],[]⟩ with
  heap:=ZiP (ZiP (ZiP (ZiP (ZiP (ZiP ((World.holding Tryz.prog g ⟨#[],#[],[]⟩).heap)
   5 (E1 5 Rows.laid_math_bits_deBruijn32tab))
   6 (E1 5 Rows.laid_math_bits_deBruijn64tab))
   4 (E1 5 Rows.laid_internal_strconv_uint64pow10))
   2 (E1 5 Rows.laid_unicode_utf8_acceptRanges))
   3 (E1 5 Rows.laid_texttools_frame_table))
   1 (E1 5 Rows.laid_unicode_utf8_first) }
theorem ZuN (g:Os)(args:Array Value):laidMet Tryz.prog Rows.extsortCostsUptoRow.laid ((ZcZ g).forCall (fun _ _=>0) ⟨#[],args,[]⟩).memory :=
 laidMet_of_run3 8 (by kernel_rfl) (by kernel_rfl) (by kernel_rfl)
end Go.Am
