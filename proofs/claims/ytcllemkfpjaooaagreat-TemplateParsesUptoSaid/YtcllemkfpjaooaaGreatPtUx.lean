/-
  The document's way to print.
-/
import Derived.Test.YtcllemkfpjaooaaGreatPtTx
namespace Go.Am
set_option linter.unusedSimpArgs false
set_option linter.unusedVariables false
set_option maxRecDepth 100000

theorem take_drop1 {s:List UInt8} {j:Nat} (h:j < s.length):(s.take (((j+1:Nat):Int)).toNat).drop ((j:Int)).toNat=[s[j]]:=by
 rw [Int.toNat_natCast,Int.toNat_natCast,List.drop_take,show j+1 - j=1 by omega,List.drop_eq_getElem_cons h]
 rfl
theorem slice1 {s:List UInt8} {j:Nat} (h:j < s.length):asliceS (.str s) (some (.int .i64 (j:Int))) (some (.int .i64 ((j+1:Nat):Int))) none=some (.str [s[j]]):=by
 rw [asliceS_lh .i64 .i64 (by omega) (by omega) (by omega),take_drop1 h]
end Go.Am
