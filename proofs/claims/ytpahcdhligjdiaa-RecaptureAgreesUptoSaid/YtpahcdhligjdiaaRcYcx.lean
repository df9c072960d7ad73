/-
  The world in which the statements are called: no package-level variable is listed.
-/
import Derived.Test.YtpahcdhligjdiaaRcGx
import Derived.Test.YtpahcdhligjdiaaKmVx
import Derived.Deep.DeepHandedRow
import Derived.Deep.DeepLaidRun
import Derived.Stop.Joined
import Derived.Test.YtpahcdhligjdiaaRows
namespace Go.Am
open Go.Proofs Go.Proofs.Ytpahcdhligjdiaa
noncomputable def laidWorld (os:Os):World:=World.holding Try.prog os ⟨#[],#[],[]⟩
theorem laid_met (os:Os) (args:Array Value):laidMet Try.prog Rows.recaptureNestsUptoRow.laid ((laidWorld os).forCall (fun _ _=>0) ⟨#[],args,[]⟩).memory:=laidMet_nil _ _
theorem glob_laid {W:World} (_:laidMet Try.prog Rows.recaptureNestsUptoRow.laid W):GlobOk cfg (start W):=glob_start fun g cs hg=>by cases hg
end Go.Am
