/-
  DERIVED. GIVEN WITH THE SEED: THE CARDS: each row of YtgglgbfolgcaiaaGreatDoorRows.lean that lists a variable, with what it lists TIED to the program's text (the seventh form; the later family's looks); each row that meets fmt, with fmt's text TOLD by the authors' own Lean function (tested against real Go, not proved from fmt's source: count such statements apart). THE CARD IS WHAT COUNTS. Prove the row's statement (the work); the ties are given (YtgglgbfolgcaiaaGreatDoorTie.lean); close each card by the builder's one call (the guide's Derived/Test/ToyasCard.lean, 'card_holds'). Laid BY PROGRAM, IN A SANDBOX (cutbox-door.mjs). By AI agents, Wed Nov 11 2026. No macro, syntax, notation, axiom, sorry.
-/
import Derived.Test.YtgglgbfolgcaiaaGreatDoorRows
import GoSem.ClaimSeven
namespace Go.Proofs.YtgglgbfolgcaiaaGreatDoor
namespace Rows

/-- THE TIED CARD OF 'texttoolslaw38.SedvmNil'. -/
def sedvmNilCard : Claim7 := { stood := { row := sedvmNilRow, standIns := [], harness := (true, "61e041b6454c0800f5deda7650d10afec6272ff368525961941ec3b4a26d5bd9"), looks := true }, kinds := [], alts := [], laidByText := true, laidKinds := [.data, .data, .data, .data, .pinned], laidTests := true, laidLooks := .later }
def SedvmNilCardSaid : Prop := Claim7.holds Tryz.pinned (.plain (OpenSpec.ofChange sedvmNilSpec)) sedvmNilCard

/-- THE SECOND FORM's CARD OF 'texttoolslaw38.SedvmNil'. -/
def sedvmNilUptoCard : Claim7 := { stood := { row := sedvmNilUptoRow, standIns := [], harness := (true, "61e041b6454c0800f5deda7650d10afec6272ff368525961941ec3b4a26d5bd9"), looks := true }, kinds := [], alts := [], laidByText := true, laidKinds := [.data, .data, .data, .data, .pinned], laidTests := true, laidLooks := .later }
def SedvmNilUptoCardSaid : Prop := Claim7.holds Tryz.pinned (.plain (OpenSpec.upto sedvmNilSpec)) sedvmNilUptoCard
end Rows
end Go.Proofs.YtgglgbfolgcaiaaGreatDoor
