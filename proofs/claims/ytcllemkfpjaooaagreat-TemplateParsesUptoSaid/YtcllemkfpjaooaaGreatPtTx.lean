/-
  Printing replacements, both ways.
-/
import Derived.Test.YtcllemkfpjaooaaGreatPtSx
namespace Go.Am
set_option linter.unusedSimpArgs false
set_option linter.unusedVariables false
set_option maxRecDepth 100000

theorem one_byte (c:Int):((setElems 1 [(0,.int .u8 c)] [(.int .u8 0)]).map (AV.vs 1 .clip))=some (.vs 1 .clip [.int .u8 c]):=rfl
theorem rd_one (c:UInt8) (t:Tok) (H:Hp):cvRd (.vs 1 t [.int .u8 (c.toNat:Int)]) H=some (.str [c]):=by
 have h:cvOfBytes (.vs 1 t [.int .u8 (c.toNat:Int)])=some (.str [c]):=cvOf_map t [c]
 unfold cvRd
 rw [h]
theorem new_part (Hc:Hp) (f:Pt):astoreU 3 (.ptr Hc.length 0) (.agg (ptC f)) (Hc++[AObj.cells [(.int .i64 0),(.int .i64 0),(.str [])]])=some (.tuple [],Hc++[.cells (ptC f)]):=by
 rw [astore_of (sz:=3) (v:=.agg (ptC f)) (l:=[(.int .i64 0),(.int .i64 0),(.str [])]) (by simp) rfl rfl (by simp)]
 simp [splice,AV.cells,ptC]
theorem ld2 {H:Hp} {q:Nat} {f:Pt} (h:H[q]?=some (.cells (ptC f))):aload false 1 (.ptr q (0+2)) H=some (.str f.text):=by rw [aload_of h];rfl
theorem u8ne (c:UInt8):((c.toNat:Int) != 92)=!(c == 92):=by
 have:=u8eq c 92 (by decide)
 unfold bne
 exact congrArg _ this
end Go.Am
