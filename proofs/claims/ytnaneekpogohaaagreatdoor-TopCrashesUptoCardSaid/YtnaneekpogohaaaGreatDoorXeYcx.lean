/- A world in which the listed package-level variables hold what their in -/
import Derived.Test.YtnaneekpogohaaaGreatDoorHmXx
import Derived.Test.YtnaneekpogohaaaGreatDoorRows
namespace Go.Am
open Go.Proofs Go.Proofs.YtnaneekpogohaaaGreatDoor
noncomputable def Zee (g:Os):World :=
 {World.holding Tryz.prog g ⟨#[],#[],[]⟩ with
  heap:=ZjR (ZjR (ZjR (ZjR (ZjR (ZjR ((World.holding Tryz.prog g ⟨#[],#[],[]⟩).heap)
   5 (SA 5 Rows.laid_math_bits_deBruijn32tab))
   6 (SA 5 Rows.laid_math_bits_deBruijn64tab))
   4 (SA 5 Rows.laid_internal_strconv_uint64pow10))
   2 (SA 5 Rows.laid_unicode_utf8_acceptRanges))
   3 (SA 5 Rows.laid_texttools_frame_table))
   1 (SA 5 Rows.laid_unicode_utf8_first) }
theorem ZvU (g:Os)(args:Array Value):laidMet Tryz.prog Rows.extsortCostsUptoRow.laid ((Zee g).forCall (fun _ _=>0) ⟨#[],args,[]⟩).memory :=
 laidMet_of_run3 8 (by kernel_rfl) (by kernel_rfl) (by kernel_rfl)
end Go.Am
