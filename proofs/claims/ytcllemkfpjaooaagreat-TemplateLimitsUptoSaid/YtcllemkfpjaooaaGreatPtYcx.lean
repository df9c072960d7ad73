/-
  The world in which the statements are called: no package-level variable is listed.
-/
import Derived.Test.YtcllemkfpjaooaaGreatPtGx
import Derived.Test.YtcllemkfpjaooaaGreatHmXx
import Derived.Stop.Joined
import Derived.Test.YtcllemkfpjaooaaGreatRows
namespace Go.Am
open Go.Proofs Go.Proofs.YtcllemkfpjaooaaGreat
noncomputable def laidWorld (os:Os):World:=World.holding Tryz.prog os ⟨#[],#[],[]⟩
theorem laid_met (os:Os) (args:Array Value):laidMet Tryz.prog Rows.templateParsesUptoRow.laid ((laidWorld os).forCall (fun _ _=>0) ⟨#[],args,[]⟩).memory:=laidMet_nil _ _
theorem glob_laid {W:World} (_:laidMet Tryz.prog Rows.templateParsesUptoRow.laid W):GlobOk cfg (start W):=glob_start fun g cs hg=>by cases hg
end Go.Am
