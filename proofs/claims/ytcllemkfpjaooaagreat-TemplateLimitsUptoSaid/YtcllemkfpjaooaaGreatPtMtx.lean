/-
  The matches of the letter a in a string of them, and its compiled form.
-/
import Derived.Test.YtcllemkfpjaooaaGreatPtM1x
import Derived.Test.YtcllemkfpjaooaaGreatPtM2x
import Derived.Test.YtcllemkfpjaooaaGreatPtM3x
import Derived.Test.YtcllemkfpjaooaaGreatPtM4x
namespace Go.Am
open Go.Proofs
set_option maxRecDepth 1000000
set_option linter.unusedVariables false
theorem okA_all:∀ n:Nat,1≤n→n≤8→okA n=true
 | 1,_,_=>okA_1
 | 2,_,_=>okA_2
 | 3,_,_=>okA_3
 | 4,_,_=>okA_4
 | 5,_,_=>okA_5
 | 6,_,_=>okA_6
 | 7,_,_=>okA_7
 | 8,_,_=>okA_8
 | 0,h,_=>by omega
 | n+9,_,h=>by omega
theorem all_a {n:Nat} (h1:1≤n) (h2:n≤8) (H:Hp):flatC C_regex_All [x0,.str (aS n)] H=some (.tuple [.vs 1 .no (mL n),.int .i64 0],H):=okV_flat (okA_all n h1 h2) H
noncomputable def okC:Bool:=match flatC (callR cfg 10000 60 16) [] [] with
 | some (dl,_)=>okV (flatC (callR cfg 10000 60 15) [.str [97],.int .i64 0,dl] []) (.tuple [x0,.int .i64 0,.int .i64 0])
 | none=>false
theorem okC_run:okC=true:=by kernel_rfl
theorem compile_a (H:Hp):∃ dl,flatC C_R05_Default [] H=some (dl,H)∧flatC C_R15_Compile [.str [97],.int .i64 0,dl] H=some (.tuple [x0,.int .i64 0,.int .i64 0],H):=by
 have h:=okC_run
 unfold okC at h
 split at h
 ·rename_i dl Hd hd
  have:=flat_le (fun l H r hr=>callR_le 10000 60 16 l H r hr) [] [] _ hd
  exact ⟨dl,flatC_move this,okV_flat h H⟩
 ·cases h
end Go.Am
