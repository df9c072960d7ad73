/-
  Printing replacements, both ways.
-/
import Derived.Test.YtcllemkfpjaooaaGreatPtSx
namespace Go.Am
set_option linter.unusedSimpArgs false
set_option linter.unusedVariables false
set_option maxRecDepth 100000

theorem text_run {H:Hp} {o:Nat} {b s:List UInt8} (h:H[o]?=some (.bld 66 5 b)) (hl:b.length+s.length≤maxB):textE.run [.ptr o 0,.str s] H=some (.tuple [.int .i64 s.length,.nili],H.set o (.bld 66 5 (b++s))):=by
 show bldRun bldT bldU textM [.ptr o 0,.str s] H=_
 simp [bldRun,textM,h,bldF,bldT,bldU,hl]
theorem string_run {H:Hp} {o:Nat} {b:List UInt8} (h:H[o]?=some (.bld 66 5 b)):stringE.run [.ptr o 0] H=some (.str b,H.set o (.bld 66 5 b)):=by
 show bldRun bldT bldU stringM [.ptr o 0] H=_
 simp [bldRun,stringM,h,bldF,bldT,bldU]
theorem set_same {H:Hp} {o:Nat} {x:AObj} (h:H[o]?=some x):H.set o x=H:=by
 apply List.ext_getElem?
 intro i
 by_cases hi:i=o
 ·subst hi;rw [get_set_eq x h,h]
 ·rw [List.getElem?_set_ne (Ne.symm hi)]
theorem new_part (Hc:Hp) (f:Pt):astoreU 3 (.ptr Hc.length 0) (.agg (ptC f)) (Hc++[AObj.cells [(.int .i64 0),(.int .i64 0),(.str [])]])=some (.tuple [],Hc++[.cells (ptC f)]):=by
 rw [astore_of (sz:=3) (v:=.agg (ptC f)) (l:=[(.int .i64 0),(.int .i64 0),(.str [])]) (by simp) rfl rfl (by simp)]
 simp [splice,AV.cells,ptC]
theorem ld0 {H:Hp} {q:Nat} {f:Pt} (h:H[q]?=some (.cells (ptC f))):aload false 1 (.ptr q (0+0)) H=some (.int .i64 f.kind):=by rw [aload_of h];rfl
theorem ld1 {H:Hp} {q:Nat} {f:Pt} (h:H[q]?=some (.cells (ptC f))):aload false 1 (.ptr q (0+1)) H=some (.int .i64 f.group):=by rw [aload_of h];rfl
theorem ld2 {H:Hp} {q:Nat} {f:Pt} (h:H[q]?=some (.cells (ptC f))):aload false 1 (.ptr q (0+2)) H=some (.str f.text):=by rw [aload_of h];rfl
end Go.Am
