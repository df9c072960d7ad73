/- A world in which the listed package-level variables hold what their in -/
import Derived.Test.YtjmhpjoedfegkaaGreatDoorHmXx
import Derived.Test.YtjmhpjoedfegkaaGreatDoorRows
namespace Go.Am
open Go.Proofs Go.Proofs.YtjmhpjoedfegkaaGreatDoor
noncomputable def ZbU (h:Os):World :=
 {World.holding Tryz.prog h ⟨#[],#[],[]⟩ with
  heap:=Zk6 (Zk6 (Zk6 (Zk6 (Zk6 (Zk6 ((World.holding Tryz.prog h ⟨#[],#[],[]⟩).heap)
   5 (HN 5 Rows.laid_math_bits_deBruijn32tab))
   6 (HN 5 Rows.laid_math_bits_deBruijn64tab))
   2 (HN 5 Rows.laid_internal_strconv_uint64pow10))
   4 (HN 5 Rows.laid_unicode_utf8_acceptRanges))
   0 (HN 5 Rows.laid_texttools_frame_table))
   3 (HN 5 Rows.laid_unicode_utf8_first) }
theorem ZwW (h:Os)(args:Array Value):laidMet Tryz.prog Rows.runsWritesUptoRow.laid ((ZbU h).forCall (λ_ _=>0) ⟨#[],args,[]⟩).memory :=
 laidMet_of_run3 8 dz dz dz
end Go.Am
