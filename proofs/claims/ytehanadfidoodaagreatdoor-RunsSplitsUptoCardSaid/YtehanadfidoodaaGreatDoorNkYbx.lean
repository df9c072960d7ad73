/-
  What the rows' listed variables give to the machine: nothing is asked.
-/
import Derived.Test.YtehanadfidoodaaGreatDoorNkGx
import Derived.Test.YtehanadfidoodaaGreatDoorEmVx
import Derived.Test.YtehanadfidoodaaGreatDoorRows
namespace Go.Am
open Go.Proofs
abbrev lvTwo : List (String × DataW Unit) := [("unicode/utf8.acceptRanges", YtehanadfidoodaaGreatDoor.Rows.laid_unicode_utf8_acceptRanges), ("unicode/utf8.first", YtehanadfidoodaaGreatDoor.Rows.laid_unicode_utf8_first)]
theorem glob_laid {W : World} (_ : laidMet Tryz.prog lvTwo W) : GlobOk cfg (start W) := by
  refine glob_start fun g cs hg => ?_
  have hg : globF g = some cs := hg
  cases hg
end Go.Am
