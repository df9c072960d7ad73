/- A world in which the listed package-level variables hold what their in -/
import Derived.Test.YtmclihijlmlpkaaGreatDoorHmXx
import Derived.Test.YtmclihijlmlpkaaGreatDoorRows
namespace Go.Am
open Go.Proofs Go.Proofs.YtmclihijlmlpkaaGreatDoor
noncomputable def Zbk (g:Os):World :=
 {World.holding Tryz.prog g ⟨#[],#[],[]⟩ with
  heap:=ZkM (ZkM (ZkM (ZkM (ZkM (ZkM ((World.holding Tryz.prog g ⟨#[],#[],[]⟩).heap)
   5 (CC 5 Rows.laid_math_bits_deBruijn32tab))
   6 (CC 5 Rows.laid_math_bits_deBruijn64tab))
   2 (CC 5 Rows.laid_internal_strconv_uint64pow10))
   4 (CC 5 Rows.laid_unicode_utf8_acceptRanges))
   0 (CC 5 Rows.laid_texttools_frame_table))
   3 (CC 5 Rows.laid_unicode_utf8_first) }
theorem Zxo (g:Os)(args:Array Value):laidMet Tryz.prog Rows.extsortSortsUptoRow.laid ((Zbk g).forCall (λ_ _=>0) ⟨#[],args,[]⟩).memory :=
 laidMet_of_run3 8 df df df
end Go.Am
