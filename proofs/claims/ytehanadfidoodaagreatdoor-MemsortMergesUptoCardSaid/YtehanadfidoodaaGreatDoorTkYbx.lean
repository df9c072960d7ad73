/-
  What the rows' listed variables give to the machine: nothing is asked.
-/
import Derived.Test.YtehanadfidoodaaGreatDoorTkGx
import Derived.Test.YtehanadfidoodaaGreatDoorEmVx
import Derived.Test.YtehanadfidoodaaGreatDoorRows
namespace Go.Am
open Go.Proofs
abbrev ZK4 : List (String × DataW Unit) := [("unicode/utf8.acceptRanges", YtehanadfidoodaaGreatDoor.Rows.laid_unicode_utf8_acceptRanges), ("unicode/utf8.first", YtehanadfidoodaaGreatDoor.Rows.laid_unicode_utf8_first)]
theorem ZFb {W:World} (_:laidMet Tryz.prog ZK4 W):GlobOk cfg (ZgI W):=by
 refine ZDm fun g cs hg=>?_
 have hg:ZsO g=some cs:=hg
 cases hg
end Go.Am
