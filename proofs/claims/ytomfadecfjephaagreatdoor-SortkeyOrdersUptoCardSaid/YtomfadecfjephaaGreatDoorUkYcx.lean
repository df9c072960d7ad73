/-
  A world in which the listed package-level variables hold what their initialisers lay.
-/
import Derived.Test.YtomfadecfjephaaGreatDoorEmXx
import Derived.Test.YtomfadecfjephaaGreatDoorRows
namespace Go.Am
open Go.Proofs Go.Proofs.YtomfadecfjephaaGreatDoor
noncomputable def low : Nat := (World.holding Tryz.prog default ⟨#[], #[], []⟩).heap.size
def textRange : ByteArray := ⟨#[118, 97, 108, 117, 101, 32, 111, 117, 116, 32, 111, 102, 32, 114, 97, 110, 103, 101]⟩
def textSyntax : ByteArray := ⟨#[105, 110, 118, 97, 108, 105, 100, 32, 115, 121, 110, 116, 97, 120]⟩
noncomputable def laidWorld (os : Os) : World :=
  { World.holding Tryz.prog os ⟨#[.cells #[.string textRange] 179, .cells #[.string textSyntax] 179], #[], []⟩ with
    heap := setG (setG (setG (setG (setG (setG (setG (World.holding Tryz.prog os ⟨#[.cells #[.string textRange] 179, .cells #[.string textSyntax] 179], #[], []⟩).heap
      6 (cellsD 5 Rows.laid_math_bits_deBruijn32tab)) 7 (cellsD 5 Rows.laid_math_bits_deBruijn64tab)) 5 (cellsD 5 Rows.laid_internal_strconv_uint64pow10)) 2 (cellsD 5 Rows.laid_unicode_utf8_acceptRanges))
      4 [.iface 177 (.pointer (some ⟨low, 0, none⟩))]) 3 [.iface 177 (.pointer (some ⟨low + 1, 0, none⟩))]) 1 (cellsD 5 Rows.laid_unicode_utf8_first) }
theorem laid_met (os : Os) (args : Array Value) : laidMet Tryz.prog Rows.sortkeyComparesRow.laid ((laidWorld os).forCall (fun _ _ => 0) ⟨#[], args, []⟩).memory :=
  laidMet_of_run3 8 (by kernel_rfl) (by kernel_rfl) (by kernel_rfl)
end Go.Am
