/-
  What the rows' listed variables give to the machine: nothing is asked.
-/
import Derived.Test.YtomfadecfjephaaDoorWkGx
import Derived.Test.YtomfadecfjephaaDoorEmVx
import Derived.Test.YtomfadecfjephaaDoorRows
namespace Go.Am
open Go.Proofs
abbrev lvTwo : List (String × DataW Unit) := [("unicode/utf8.acceptRanges", YtomfadecfjephaaDoor.Rows.laid_unicode_utf8_acceptRanges), ("unicode/utf8.first", YtomfadecfjephaaDoor.Rows.laid_unicode_utf8_first)]
theorem glob_laid {W : World} (_ : laidMet Tryd.prog lvTwo W) : GlobOk cfg (start W) := by
  refine glob_start fun g cs hg => ?_
  have hg : globF g = some cs := hg
  cases hg
end Go.Am
