/-
  Searches of the letter a in a string of them, worked out by the kernel.
-/
import Derived.Test.YtcllemkfpjaooaaGreatPtGx
import Derived.Test.YtcllemkfpjaooaaGreatHmYbx
namespace Go.Am
open Go.Proofs
set_option maxRecDepth 1000000
def x0:AV:=(.agg [(.str [97]),(.int .i64 0),(.int .i64 0),(.int .i64 2),(.int .u64 0),(.int .u64 8589934592),(.int .u64 0),(.int .u64 0),(.int .i64 0),(.int .i64 0),(.int .i64 0),.nils])
def aS (n:Nat):List UInt8:=List.replicate n 97
def mL (n:Nat):List AV:=(List.range n).map fun (i:Nat)=>.agg [.vs 2 .clip [.agg [.int .i64 (i:Int),.int .i64 ((i+1:Nat):Int)]]]
noncomputable def okA (n:Nat):Bool:=okV (flatC (callR cfg 10000 60 29) [x0,.str (aS n)] []) (.tuple [.vs 1 .no (mL n),.int .i64 0])
end Go.Am
