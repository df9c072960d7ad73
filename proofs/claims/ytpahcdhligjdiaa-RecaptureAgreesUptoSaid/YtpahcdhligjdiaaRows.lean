/-
  NARROWER THAN 'FOR EVERY INPUT', by the rows' own cells (each row's printed sentence says how): RecaptureMoves: loops · RecaptureNests: loops · RecaptureAgrees: loops.
  DERIVED. THE GIVEN ROWS OF THIS SEAT. 3 by the template 'for every input the law returns true; each argument reads behind the call as it read before'; 0 by the template 'total and deterministic' (their statements: YtpahcdhligjdiaaTotals.lean).
  GIVEN WITH THE SEED: the statements are not yours to turn. If you find one false, say at which input.
  Laid BY PROGRAM, IN A SANDBOX (cutbox-rows.mjs): the forced cells as the released guide's own fill.sh prints them over the translation ca9c932c0e0a4b85… (all of the seat's roots in one cut). By AI agents, Wed Nov 11 2026. No macro, syntax, notation, axiom, sorry.
-/
import Derived.Test.YtpahcdhligjdiaaChecked
import GoSem.Claim
import GoSem.ClaimJoined
import GoSem.ClaimMapViews
import Derived.JoinedTies
import Derived.KernelRfl
namespace Go.Proofs.Ytpahcdhligjdiaa
/- THE CELL 'sum', in the pinned program and in every row, IS THE sha256 OF THE DUMP (.gsa) THAT YtpahcdhligjdiaaProg.lean LOADS. Nothing in Lean hashes anything: it is a label: what it is worth is what the hold of that sum in a sandbox is worth. -/
noncomputable def Try.pinned : Pinned := { name := "ytpahcdhligjdiaa", sum := "ca9c932c0e0a4b853ab847d6a1a1ddadc0b3e032cc86ba6fed6a0611f44d9d6e", checked := Try.checked }
namespace Rows
def none {H : Type} : Left H := { results := [], args := [] }

/-- 'texttoolslaw13.RecaptureMoves': WHATEVER THE INPUT: true; the input reads as it did. -/
def recaptureMovesSpec : ChangeSpec := { name := "recaptureMoves", fn := fun _ => fun
  | [d1, d2, d3, d4] => { results := [.lit (.bool true)], args := [d1, d2, d3, d4] }
  | _ => none }
def recaptureMovesRow : OpenClaim := { program := "ytpahcdhligjdiaa", sum := "ca9c932c0e0a4b853ab847d6a1a1ddadc0b3e032cc86ba6fed6a0611f44d9d6e", func := "texttools/texttoolslaw13.RecaptureMoves", spec := "recaptureMoves", unfollowed := true, recurses := true, loops := true, apart := false }
def RecaptureMovesSaid : Prop := recaptureMovesRow.holds Try.pinned (OpenSpec.ofChange recaptureMovesSpec)

/-- ITS FALSE NEIGHBOUR: 'it returns false'. Refute it at one input. -/
def recaptureMovesWrong : ChangeSpec := { name := "recaptureMoves", fn := fun _ => fun
  | [d1, d2, d3, d4] => { results := [.lit (.bool false)], args := [d1, d2, d3, d4] }
  | _ => none }
def RecaptureMovesWrongFalsely : Prop := recaptureMovesRow.holds Try.pinned (OpenSpec.ofChange recaptureMovesWrong)

/-- 'texttoolslaw13.RecaptureNests': WHATEVER THE INPUT: true; the input reads as it did. -/
def recaptureNestsSpec : ChangeSpec := { name := "recaptureNests", fn := fun _ => fun
  | [d1, d2] => { results := [.lit (.bool true)], args := [d1, d2] }
  | _ => none }
def recaptureNestsRow : OpenClaim := { program := "ytpahcdhligjdiaa", sum := "ca9c932c0e0a4b853ab847d6a1a1ddadc0b3e032cc86ba6fed6a0611f44d9d6e", func := "texttools/texttoolslaw13.RecaptureNests", spec := "recaptureNests", unfollowed := true, recurses := true, loops := true, apart := false }
def RecaptureNestsSaid : Prop := recaptureNestsRow.holds Try.pinned (OpenSpec.ofChange recaptureNestsSpec)

/-- ITS FALSE NEIGHBOUR: 'it returns false'. Refute it at one input. -/
def recaptureNestsWrong : ChangeSpec := { name := "recaptureNests", fn := fun _ => fun
  | [d1, d2] => { results := [.lit (.bool false)], args := [d1, d2] }
  | _ => none }
def RecaptureNestsWrongFalsely : Prop := recaptureNestsRow.holds Try.pinned (OpenSpec.ofChange recaptureNestsWrong)

/-- 'texttoolslaw13.RecaptureAgrees': WHATEVER THE INPUT: true; the input reads as it did. -/
def recaptureAgreesSpec : ChangeSpec := { name := "recaptureAgrees", fn := fun _ => fun
  | [d1, d2] => { results := [.lit (.bool true)], args := [d1, d2] }
  | _ => none }
def recaptureAgreesRow : OpenClaim := { program := "ytpahcdhligjdiaa", sum := "ca9c932c0e0a4b853ab847d6a1a1ddadc0b3e032cc86ba6fed6a0611f44d9d6e", func := "texttools/texttoolslaw13.RecaptureAgrees", spec := "recaptureAgrees", unfollowed := true, recurses := true, loops := true, apart := false }
def RecaptureAgreesSaid : Prop := recaptureAgreesRow.holds Try.pinned (OpenSpec.ofChange recaptureAgreesSpec)

/-- ITS FALSE NEIGHBOUR: 'it returns false'. Refute it at one input. -/
def recaptureAgreesWrong : ChangeSpec := { name := "recaptureAgrees", fn := fun _ => fun
  | [d1, d2] => { results := [.lit (.bool false)], args := [d1, d2] }
  | _ => none }
def RecaptureAgreesWrongFalsely : Prop := recaptureAgreesRow.holds Try.pinned (OpenSpec.ofChange recaptureAgreesWrong)

/- THE SECOND FORM. 'bulk': how many values and letters a reading holds, each counted each time it is reached (what is shared counts as often as it is met; a slice's spare places count too). A statement '..UptoSaid' is the law's where the arguments, and the package variables that the reading takes, are together of bulk at most 1048576: NARROWER than '..Said'. Prove '..Said' where nothing that the law and all that it calls make is longer than what came in: it says more and counts as full. Else prove '..UptoSaid'. A law counts once. -/
mutual
def uptoBulk {H : Type} : DataW H → Nat
  | .lit (.string bytes) => bytes.length + 1
  | .lit _ => 1
  | .nil => 1
  | .ptr d => uptoBulk d + 1
  | .slice elems spare => uptoBulkAll elems + uptoBulkAll spare + 1
  | .agg parts => uptoBulkAll parts + 1
  | .iface _ d => uptoBulk d + 1
  | .map entries => uptoBulkEntries entries + 1
  | .held _ => 1
def uptoBulkAll {H : Type} : List (DataW H) → Nat
  | [] => 0
  | d :: r => uptoBulk d + uptoBulkAll r
def uptoBulkEntries {H : Type} : List (Lit × DataW H) → Nat
  | [] => 0
  | x :: r => uptoBulkEntry x + uptoBulkEntries r
def uptoBulkEntry {H : Type} : Lit × DataW H → Nat
  | (.string bytes, d) => bytes.length + uptoBulk d + 1
  | (_, d) => uptoBulk d + 1
 end
def uptoSmall : (H : Type) → List (DataW H) → Bool := fun _ ds => decide (uptoBulkAll ds ≤ 1048576)
def OpenSpec.upto (s : _root_.Go.ChangeSpec) : _root_.Go.OpenSpec := { _root_.Go.OpenSpec.ofChange s with cond := some uptoSmall }

/-- 'texttoolslaw13.RecaptureMoves', WHERE WHAT IT READS IS OF BULK AT MOST 1048576: true; the input reads as it did. -/
def recaptureMovesUptoRow : OpenClaim := { program := "ytpahcdhligjdiaa", sum := "ca9c932c0e0a4b853ab847d6a1a1ddadc0b3e032cc86ba6fed6a0611f44d9d6e", func := "texttools/texttoolslaw13.RecaptureMoves", spec := "recaptureMoves", unfollowed := true, recurses := true, loops := true, apart := false, narrowed := true }
def RecaptureMovesUptoSaid : Prop := recaptureMovesUptoRow.holds Try.pinned (OpenSpec.upto recaptureMovesSpec)

/-- 'texttoolslaw13.RecaptureNests', WHERE WHAT IT READS IS OF BULK AT MOST 1048576: true; the input reads as it did. -/
def recaptureNestsUptoRow : OpenClaim := { program := "ytpahcdhligjdiaa", sum := "ca9c932c0e0a4b853ab847d6a1a1ddadc0b3e032cc86ba6fed6a0611f44d9d6e", func := "texttools/texttoolslaw13.RecaptureNests", spec := "recaptureNests", unfollowed := true, recurses := true, loops := true, apart := false, narrowed := true }
def RecaptureNestsUptoSaid : Prop := recaptureNestsUptoRow.holds Try.pinned (OpenSpec.upto recaptureNestsSpec)

/-- 'texttoolslaw13.RecaptureAgrees', WHERE WHAT IT READS IS OF BULK AT MOST 1048576: true; the input reads as it did. -/
def recaptureAgreesUptoRow : OpenClaim := { program := "ytpahcdhligjdiaa", sum := "ca9c932c0e0a4b853ab847d6a1a1ddadc0b3e032cc86ba6fed6a0611f44d9d6e", func := "texttools/texttoolslaw13.RecaptureAgrees", spec := "recaptureAgrees", unfollowed := true, recurses := true, loops := true, apart := false, narrowed := true }
def RecaptureAgreesUptoSaid : Prop := recaptureAgreesUptoRow.holds Try.pinned (OpenSpec.upto recaptureAgreesSpec)

end Rows
end Go.Proofs.Ytpahcdhligjdiaa
