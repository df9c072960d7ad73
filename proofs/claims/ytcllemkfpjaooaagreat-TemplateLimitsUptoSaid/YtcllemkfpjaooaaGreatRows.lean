/-
  No cell of these rows narrows 'for every input' (looked for: loops, veiled, ifaces, maps, wideKeys, modest, calm, conditions, laid).
  DERIVED. THE GIVEN ROWS OF THIS SEAT. 4 by the template 'for every input the law returns true; each argument reads behind the call as it read before'; 0 by the template 'total and deterministic' (their statements: YtcllemkfpjaooaaGreatTotals.lean).
  GIVEN WITH THE SEED: the statements are not yours to turn. If you find one false, say at which input.
  Laid BY PROGRAM, IN A SANDBOX (cutbox-rows.mjs): the forced cells as the released guide's own fill.sh prints them over the translation 3867ff0054a1f491… (all of the seat's roots in one cut). By AI agents, Wed Nov 11 2026. No macro, syntax, notation, axiom, sorry.
-/
import Derived.Test.YtcllemkfpjaooaaGreatChecked
import GoSem.Claim
import GoSem.ClaimJoined
import GoSem.ClaimMapViews
import Derived.JoinedTies
import Derived.KernelRfl
namespace Go.Proofs.YtcllemkfpjaooaaGreat
/- THE CELL 'sum', in the pinned program and in every row, IS THE sha256 OF THE DUMP (.gsa) THAT YtcllemkfpjaooaaGreatProg.lean LOADS. Nothing in Lean hashes anything: it is a label: what it is worth is what the hold of that sum in a sandbox is worth. -/
noncomputable def Tryz.pinned : Pinned := { name := "ytcllemkfpjaooaagreat", sum := "3867ff0054a1f4913f63d0bf4dedfc7e60693c5ed6e69528025e204848a5e94d", checked := Tryz.checked }
namespace Rows
def none {H : Type} : Left H := { results := [], args := [] }

/-- 'texttoolslaw16.TemplateParses': WHATEVER THE INPUT: true; the input reads as it did. -/
def templateParsesSpec : ChangeSpec := { name := "templateParses", fn := fun _ => fun
  | [d1, d2] => { results := [.lit (.bool true)], args := [d1, d2] }
  | _ => none }
def templateParsesRow : OpenClaim := { program := "ytcllemkfpjaooaagreat", sum := "3867ff0054a1f4913f63d0bf4dedfc7e60693c5ed6e69528025e204848a5e94d", func := "texttools/texttoolslaw16.TemplateParses", spec := "templateParses", inPlace := ["internal/abi.NoEscape"], unfollowed := true, recurses := true, apart := false }
def TemplateParsesSaid : Prop := templateParsesRow.holds Tryz.pinned (OpenSpec.ofChange templateParsesSpec)

/-- ITS FALSE NEIGHBOUR: 'it returns false'. Refute it at one input. -/
def templateParsesWrong : ChangeSpec := { name := "templateParses", fn := fun _ => fun
  | [d1, d2] => { results := [.lit (.bool false)], args := [d1, d2] }
  | _ => none }
def TemplateParsesWrongFalsely : Prop := templateParsesRow.holds Tryz.pinned (OpenSpec.ofChange templateParsesWrong)

/-- 'texttoolslaw16.TemplatePrints': WHATEVER THE INPUT: true; the input reads as it did. -/
def templatePrintsSpec : ChangeSpec := { name := "templatePrints", fn := fun _ => fun
  | [d1, d2, d3] => { results := [.lit (.bool true)], args := [d1, d2, d3] }
  | _ => none }
def templatePrintsRow : OpenClaim := { program := "ytcllemkfpjaooaagreat", sum := "3867ff0054a1f4913f63d0bf4dedfc7e60693c5ed6e69528025e204848a5e94d", func := "texttools/texttoolslaw16.TemplatePrints", spec := "templatePrints", inPlace := ["internal/abi.NoEscape"], unfollowed := true, recurses := true, apart := false }
def TemplatePrintsSaid : Prop := templatePrintsRow.holds Tryz.pinned (OpenSpec.ofChange templatePrintsSpec)

/-- ITS FALSE NEIGHBOUR: 'it returns false'. Refute it at one input. -/
def templatePrintsWrong : ChangeSpec := { name := "templatePrints", fn := fun _ => fun
  | [d1, d2, d3] => { results := [.lit (.bool false)], args := [d1, d2, d3] }
  | _ => none }
def TemplatePrintsWrongFalsely : Prop := templatePrintsRow.holds Tryz.pinned (OpenSpec.ofChange templatePrintsWrong)

/-- 'texttoolslaw16.TemplateLimits': WHATEVER THE INPUT: true; the input reads as it did. -/
def templateLimitsSpec : ChangeSpec := { name := "templateLimits", fn := fun _ => fun
  | [d1, d2] => { results := [.lit (.bool true)], args := [d1, d2] }
  | _ => none }
def templateLimitsRow : OpenClaim := { program := "ytcllemkfpjaooaagreat", sum := "3867ff0054a1f4913f63d0bf4dedfc7e60693c5ed6e69528025e204848a5e94d", func := "texttools/texttoolslaw16.TemplateLimits", spec := "templateLimits", inPlace := ["internal/abi.NoEscape"], unfollowed := true, recurses := true, apart := false }
def TemplateLimitsSaid : Prop := templateLimitsRow.holds Tryz.pinned (OpenSpec.ofChange templateLimitsSpec)

/-- ITS FALSE NEIGHBOUR: 'it returns false'. Refute it at one input. -/
def templateLimitsWrong : ChangeSpec := { name := "templateLimits", fn := fun _ => fun
  | [d1, d2] => { results := [.lit (.bool false)], args := [d1, d2] }
  | _ => none }
def TemplateLimitsWrongFalsely : Prop := templateLimitsRow.holds Tryz.pinned (OpenSpec.ofChange templateLimitsWrong)

/-- 'texttoolslaw16.TemplateRoundTrips': WHATEVER THE INPUT: true; the input reads as it did. -/
def templateRoundTripsSpec : ChangeSpec := { name := "templateRoundTrips", fn := fun _ => fun
  | [d1, d2, d3] => { results := [.lit (.bool true)], args := [d1, d2, d3] }
  | _ => none }
def templateRoundTripsRow : OpenClaim := { program := "ytcllemkfpjaooaagreat", sum := "3867ff0054a1f4913f63d0bf4dedfc7e60693c5ed6e69528025e204848a5e94d", func := "texttools/texttoolslaw16.TemplateRoundTrips", spec := "templateRoundTrips", inPlace := ["internal/abi.NoEscape"], unfollowed := true, recurses := true, apart := false }
def TemplateRoundTripsSaid : Prop := templateRoundTripsRow.holds Tryz.pinned (OpenSpec.ofChange templateRoundTripsSpec)

/-- ITS FALSE NEIGHBOUR: 'it returns false'. Refute it at one input. -/
def templateRoundTripsWrong : ChangeSpec := { name := "templateRoundTrips", fn := fun _ => fun
  | [d1, d2, d3] => { results := [.lit (.bool false)], args := [d1, d2, d3] }
  | _ => none }
def TemplateRoundTripsWrongFalsely : Prop := templateRoundTripsRow.holds Tryz.pinned (OpenSpec.ofChange templateRoundTripsWrong)

/- THE SECOND FORM. 'bulk': how many values and letters a reading holds, each counted each time it is reached (what is shared counts as often as it is met; a slice's spare places count too). A statement '..UptoSaid' is the law's where the arguments, and the package variables that the reading takes, are together of bulk at most 1048576: NARROWER than '..Said'. Prove '..Said' where nothing that the law and all that it calls make is longer than what came in: it says more and counts as full. Else prove '..UptoSaid'. A law counts once. -/
mutual
def uptoBulk {H : Type} : DataW H → Nat
  | .lit (.string bytes) => bytes.length + 1
  | .lit _ => 1
  | .nil => 1
  | .ptr d => uptoBulk d + 1
  | .slice elems spare => uptoBulkAll elems + uptoBulkAll spare + 1
  | .agg parts => uptoBulkAll parts + 1
  | .iface _ d => uptoBulk d + 1
  | .map entries => uptoBulkEntries entries + 1
  | .held _ => 1
def uptoBulkAll {H : Type} : List (DataW H) → Nat
  | [] => 0
  | d :: r => uptoBulk d + uptoBulkAll r
def uptoBulkEntries {H : Type} : List (Lit × DataW H) → Nat
  | [] => 0
  | x :: r => uptoBulkEntry x + uptoBulkEntries r
def uptoBulkEntry {H : Type} : Lit × DataW H → Nat
  | (.string bytes, d) => bytes.length + uptoBulk d + 1
  | (_, d) => uptoBulk d + 1
 end
def uptoSmall : (H : Type) → List (DataW H) → Bool := fun _ ds => decide (uptoBulkAll ds ≤ 1048576)
def OpenSpec.upto (s : _root_.Go.ChangeSpec) : _root_.Go.OpenSpec := { _root_.Go.OpenSpec.ofChange s with cond := some uptoSmall }

/-- 'texttoolslaw16.TemplateParses', WHERE WHAT IT READS IS OF BULK AT MOST 1048576: true; the input reads as it did. -/
def templateParsesUptoRow : OpenClaim := { program := "ytcllemkfpjaooaagreat", sum := "3867ff0054a1f4913f63d0bf4dedfc7e60693c5ed6e69528025e204848a5e94d", func := "texttools/texttoolslaw16.TemplateParses", spec := "templateParses", inPlace := ["internal/abi.NoEscape"], unfollowed := true, recurses := true, apart := false, narrowed := true }
def TemplateParsesUptoSaid : Prop := templateParsesUptoRow.holds Tryz.pinned (OpenSpec.upto templateParsesSpec)

/-- 'texttoolslaw16.TemplatePrints', WHERE WHAT IT READS IS OF BULK AT MOST 1048576: true; the input reads as it did. -/
def templatePrintsUptoRow : OpenClaim := { program := "ytcllemkfpjaooaagreat", sum := "3867ff0054a1f4913f63d0bf4dedfc7e60693c5ed6e69528025e204848a5e94d", func := "texttools/texttoolslaw16.TemplatePrints", spec := "templatePrints", inPlace := ["internal/abi.NoEscape"], unfollowed := true, recurses := true, apart := false, narrowed := true }
def TemplatePrintsUptoSaid : Prop := templatePrintsUptoRow.holds Tryz.pinned (OpenSpec.upto templatePrintsSpec)

/-- 'texttoolslaw16.TemplateLimits', WHERE WHAT IT READS IS OF BULK AT MOST 1048576: true; the input reads as it did. -/
def templateLimitsUptoRow : OpenClaim := { program := "ytcllemkfpjaooaagreat", sum := "3867ff0054a1f4913f63d0bf4dedfc7e60693c5ed6e69528025e204848a5e94d", func := "texttools/texttoolslaw16.TemplateLimits", spec := "templateLimits", inPlace := ["internal/abi.NoEscape"], unfollowed := true, recurses := true, apart := false, narrowed := true }
def TemplateLimitsUptoSaid : Prop := templateLimitsUptoRow.holds Tryz.pinned (OpenSpec.upto templateLimitsSpec)

/-- 'texttoolslaw16.TemplateRoundTrips', WHERE WHAT IT READS IS OF BULK AT MOST 1048576: true; the input reads as it did. -/
def templateRoundTripsUptoRow : OpenClaim := { program := "ytcllemkfpjaooaagreat", sum := "3867ff0054a1f4913f63d0bf4dedfc7e60693c5ed6e69528025e204848a5e94d", func := "texttools/texttoolslaw16.TemplateRoundTrips", spec := "templateRoundTrips", inPlace := ["internal/abi.NoEscape"], unfollowed := true, recurses := true, apart := false, narrowed := true }
def TemplateRoundTripsUptoSaid : Prop := templateRoundTripsUptoRow.holds Tryz.pinned (OpenSpec.upto templateRoundTripsSpec)

end Rows
end Go.Proofs.YtcllemkfpjaooaaGreat
