/-
  No cell of these rows narrows 'for every input' (looked for: loops, veiled, ifaces, maps, wideKeys, modest, calm, conditions, laid).
  DERIVED. THE GIVEN ROWS OF THIS SEAT. 5 by the template 'for every input the law returns true; each argument reads behind the call as it read before'; 0 by the template 'total and deterministic' (their statements: YtgofohblppkjfaaTotals.lean).
  GIVEN WITH THE SEED: the statements are not yours to turn. If you find one false, say at which input.
  Laid BY PROGRAM, IN A SANDBOX (cutbox-rows.mjs): the forced cells as the released guide's own fill.sh prints them over the translation adbb7fe11f9e488d… (all of the seat's roots in one cut). By AI agents, Wed Nov 11 2026. No macro, syntax, notation, axiom, sorry.
-/
import Derived.Test.YtgofohblppkjfaaChecked
import GoSem.Claim
import GoSem.ClaimJoined
import GoSem.ClaimMapViews
import Derived.JoinedTies
import Derived.KernelRfl
namespace Go.Proofs.Ytgofohblppkjfaa
/- THE CELL 'sum', in the pinned program and in every row, IS THE sha256 OF THE DUMP (.gsa) THAT YtgofohblppkjfaaProg.lean LOADS. Nothing in Lean hashes anything: it is a label: what it is worth is what the hold of that sum in a sandbox is worth. -/
noncomputable def Try.pinned : Pinned := { name := "ytgofohblppkjfaa", sum := "adbb7fe11f9e488d3fec7c7f95b5addc1c29fab468cff7159299632cceb31123", checked := Try.checked }
namespace Rows
def none {H : Type} : Left H := { results := [], args := [] }

/-- 'texttoolslaw51.PipeFlows': WHATEVER THE INPUT: true; the input reads as it did. -/
def pipeFlowsSpec : ChangeSpec := { name := "pipeFlows", fn := fun _ => fun
  | [d1, d2, d3] => { results := [.lit (.bool true)], args := [d1, d2, d3] }
  | _ => none }
def pipeFlowsRow : OpenClaim := { program := "ytgofohblppkjfaa", sum := "adbb7fe11f9e488d3fec7c7f95b5addc1c29fab468cff7159299632cceb31123", func := "texttools/texttoolslaw51.PipeFlows", spec := "pipeFlows", apart := false }
def PipeFlowsSaid : Prop := pipeFlowsRow.holds Try.pinned (OpenSpec.ofChange pipeFlowsSpec)

/-- ITS FALSE NEIGHBOUR: 'it returns false'. Refute it at one input. -/
def pipeFlowsWrong : ChangeSpec := { name := "pipeFlows", fn := fun _ => fun
  | [d1, d2, d3] => { results := [.lit (.bool false)], args := [d1, d2, d3] }
  | _ => none }
def PipeFlowsWrongFalsely : Prop := pipeFlowsRow.holds Try.pinned (OpenSpec.ofChange pipeFlowsWrong)

/-- 'texttoolslaw51.PipeCalls': WHATEVER THE INPUT: true; the input reads as it did. -/
def pipeCallsSpec : ChangeSpec := { name := "pipeCalls", fn := fun _ => fun
  | [d1, d2] => { results := [.lit (.bool true)], args := [d1, d2] }
  | _ => none }
def pipeCallsRow : OpenClaim := { program := "ytgofohblppkjfaa", sum := "adbb7fe11f9e488d3fec7c7f95b5addc1c29fab468cff7159299632cceb31123", func := "texttools/texttoolslaw51.PipeCalls", spec := "pipeCalls", apart := false }
def PipeCallsSaid : Prop := pipeCallsRow.holds Try.pinned (OpenSpec.ofChange pipeCallsSpec)

/-- ITS FALSE NEIGHBOUR: 'it returns false'. Refute it at one input. -/
def pipeCallsWrong : ChangeSpec := { name := "pipeCalls", fn := fun _ => fun
  | [d1, d2] => { results := [.lit (.bool false)], args := [d1, d2] }
  | _ => none }
def PipeCallsWrongFalsely : Prop := pipeCallsRow.holds Try.pinned (OpenSpec.ofChange pipeCallsWrong)

/-- 'texttoolslaw51.PipeNil': WHATEVER THE INPUT: true; the input reads as it did. -/
def pipeNilSpec : ChangeSpec := { name := "pipeNil", fn := fun _ => fun
  | [d] => { results := [.lit (.bool true)], args := [d] }
  | _ => none }
def pipeNilRow : OpenClaim := { program := "ytgofohblppkjfaa", sum := "adbb7fe11f9e488d3fec7c7f95b5addc1c29fab468cff7159299632cceb31123", func := "texttools/texttoolslaw51.PipeNil", spec := "pipeNil", apart := false }
def PipeNilSaid : Prop := pipeNilRow.holds Try.pinned (OpenSpec.ofChange pipeNilSpec)

/-- ITS FALSE NEIGHBOUR: 'it returns false'. Refute it at one input. -/
def pipeNilWrong : ChangeSpec := { name := "pipeNil", fn := fun _ => fun
  | [d] => { results := [.lit (.bool false)], args := [d] }
  | _ => none }
def PipeNilWrongFalsely : Prop := pipeNilRow.holds Try.pinned (OpenSpec.ofChange pipeNilWrong)

/-- 'texttoolslaw51.PipeOrders': WHATEVER THE INPUT: true; the input reads as it did. -/
def pipeOrdersSpec : ChangeSpec := { name := "pipeOrders", fn := fun _ => fun
  | [d1, d2] => { results := [.lit (.bool true)], args := [d1, d2] }
  | _ => none }
def pipeOrdersRow : OpenClaim := { program := "ytgofohblppkjfaa", sum := "adbb7fe11f9e488d3fec7c7f95b5addc1c29fab468cff7159299632cceb31123", func := "texttools/texttoolslaw51.PipeOrders", spec := "pipeOrders", apart := false }
def PipeOrdersSaid : Prop := pipeOrdersRow.holds Try.pinned (OpenSpec.ofChange pipeOrdersSpec)

/-- ITS FALSE NEIGHBOUR: 'it returns false'. Refute it at one input. -/
def pipeOrdersWrong : ChangeSpec := { name := "pipeOrders", fn := fun _ => fun
  | [d1, d2] => { results := [.lit (.bool false)], args := [d1, d2] }
  | _ => none }
def PipeOrdersWrongFalsely : Prop := pipeOrdersRow.holds Try.pinned (OpenSpec.ofChange pipeOrdersWrong)

/-- 'texttoolslaw51.PipeBreaks': WHATEVER THE INPUT: true; the input reads as it did. -/
def pipeBreaksSpec : ChangeSpec := { name := "pipeBreaks", fn := fun _ => fun
  | [d1, d2, d3] => { results := [.lit (.bool true)], args := [d1, d2, d3] }
  | _ => none }
def pipeBreaksRow : OpenClaim := { program := "ytgofohblppkjfaa", sum := "adbb7fe11f9e488d3fec7c7f95b5addc1c29fab468cff7159299632cceb31123", func := "texttools/texttoolslaw51.PipeBreaks", spec := "pipeBreaks", apart := false }
def PipeBreaksSaid : Prop := pipeBreaksRow.holds Try.pinned (OpenSpec.ofChange pipeBreaksSpec)

/-- ITS FALSE NEIGHBOUR: 'it returns false'. Refute it at one input. -/
def pipeBreaksWrong : ChangeSpec := { name := "pipeBreaks", fn := fun _ => fun
  | [d1, d2, d3] => { results := [.lit (.bool false)], args := [d1, d2, d3] }
  | _ => none }
def PipeBreaksWrongFalsely : Prop := pipeBreaksRow.holds Try.pinned (OpenSpec.ofChange pipeBreaksWrong)

/- THE SECOND FORM. 'bulk': how many values and letters a reading holds, each counted each time it is reached (what is shared counts as often as it is met; a slice's spare places count too). A statement '..UptoSaid' is the law's where the arguments, and the package variables that the reading takes, are together of bulk at most 1048576: NARROWER than '..Said'. Prove '..Said' where nothing that the law and all that it calls make is longer than what came in: it says more and counts as full. Else prove '..UptoSaid'. A law counts once. -/
mutual
def uptoBulk {H : Type} : DataW H → Nat
  | .lit (.string bytes) => bytes.length + 1
  | .lit _ => 1
  | .nil => 1
  | .ptr d => uptoBulk d + 1
  | .slice elems spare => uptoBulkAll elems + uptoBulkAll spare + 1
  | .agg parts => uptoBulkAll parts + 1
  | .iface _ d => uptoBulk d + 1
  | .map entries => uptoBulkEntries entries + 1
  | .held _ => 1
def uptoBulkAll {H : Type} : List (DataW H) → Nat
  | [] => 0
  | d :: r => uptoBulk d + uptoBulkAll r
def uptoBulkEntries {H : Type} : List (Lit × DataW H) → Nat
  | [] => 0
  | x :: r => uptoBulkEntry x + uptoBulkEntries r
def uptoBulkEntry {H : Type} : Lit × DataW H → Nat
  | (.string bytes, d) => bytes.length + uptoBulk d + 1
  | (_, d) => uptoBulk d + 1
 end
def uptoSmall : (H : Type) → List (DataW H) → Bool := fun _ ds => decide (uptoBulkAll ds ≤ 1048576)
def OpenSpec.upto (s : _root_.Go.ChangeSpec) : _root_.Go.OpenSpec := { _root_.Go.OpenSpec.ofChange s with cond := some uptoSmall }

/-- 'texttoolslaw51.PipeFlows', WHERE WHAT IT READS IS OF BULK AT MOST 1048576: true; the input reads as it did. -/
def pipeFlowsUptoRow : OpenClaim := { program := "ytgofohblppkjfaa", sum := "adbb7fe11f9e488d3fec7c7f95b5addc1c29fab468cff7159299632cceb31123", func := "texttools/texttoolslaw51.PipeFlows", spec := "pipeFlows", apart := false, narrowed := true }
def PipeFlowsUptoSaid : Prop := pipeFlowsUptoRow.holds Try.pinned (OpenSpec.upto pipeFlowsSpec)

/-- 'texttoolslaw51.PipeCalls', WHERE WHAT IT READS IS OF BULK AT MOST 1048576: true; the input reads as it did. -/
def pipeCallsUptoRow : OpenClaim := { program := "ytgofohblppkjfaa", sum := "adbb7fe11f9e488d3fec7c7f95b5addc1c29fab468cff7159299632cceb31123", func := "texttools/texttoolslaw51.PipeCalls", spec := "pipeCalls", apart := false, narrowed := true }
def PipeCallsUptoSaid : Prop := pipeCallsUptoRow.holds Try.pinned (OpenSpec.upto pipeCallsSpec)

/-- 'texttoolslaw51.PipeNil', WHERE WHAT IT READS IS OF BULK AT MOST 1048576: true; the input reads as it did. -/
def pipeNilUptoRow : OpenClaim := { program := "ytgofohblppkjfaa", sum := "adbb7fe11f9e488d3fec7c7f95b5addc1c29fab468cff7159299632cceb31123", func := "texttools/texttoolslaw51.PipeNil", spec := "pipeNil", apart := false, narrowed := true }
def PipeNilUptoSaid : Prop := pipeNilUptoRow.holds Try.pinned (OpenSpec.upto pipeNilSpec)

/-- 'texttoolslaw51.PipeOrders', WHERE WHAT IT READS IS OF BULK AT MOST 1048576: true; the input reads as it did. -/
def pipeOrdersUptoRow : OpenClaim := { program := "ytgofohblppkjfaa", sum := "adbb7fe11f9e488d3fec7c7f95b5addc1c29fab468cff7159299632cceb31123", func := "texttools/texttoolslaw51.PipeOrders", spec := "pipeOrders", apart := false, narrowed := true }
def PipeOrdersUptoSaid : Prop := pipeOrdersUptoRow.holds Try.pinned (OpenSpec.upto pipeOrdersSpec)

/-- 'texttoolslaw51.PipeBreaks', WHERE WHAT IT READS IS OF BULK AT MOST 1048576: true; the input reads as it did. -/
def pipeBreaksUptoRow : OpenClaim := { program := "ytgofohblppkjfaa", sum := "adbb7fe11f9e488d3fec7c7f95b5addc1c29fab468cff7159299632cceb31123", func := "texttools/texttoolslaw51.PipeBreaks", spec := "pipeBreaks", apart := false, narrowed := true }
def PipeBreaksUptoSaid : Prop := pipeBreaksUptoRow.holds Try.pinned (OpenSpec.upto pipeBreaksSpec)

end Rows
end Go.Proofs.Ytgofohblppkjfaa
