/-
  A world in which the listed package-level variables hold what their initialisers lay.
-/
import Derived.Test.YtehanadfidoodaaGreatDoorEmXx
import Derived.Test.YtehanadfidoodaaGreatDoorRows
namespace Go.Am
open Go.Proofs Go.Proofs.YtehanadfidoodaaGreatDoor
noncomputable def Zsg (os:Os):World :=
 {World.holding Tryz.prog os ⟨#[],#[],[]⟩ with
  heap:=setG (setG (World.holding Tryz.prog os ⟨#[],#[],[]⟩).heap
   3 (ZzY 5 Rows.laid_unicode_utf8_acceptRanges)) 2 (ZzY 5 Rows.laid_unicode_utf8_first) }
theorem ZHd (os:Os) (args:Array Value):laidMet Tryz.prog Rows.memsortMergesRow.laid ((Zsg os).forCall (fun _ _=>0) ⟨#[],args,[]⟩).memory :=
 laidMet_of_run3 8 (by kernel_rfl) (by kernel_rfl) (by kernel_rfl)
end Go.Am
