/-
  DERIVED. GIVEN WITH THE SEED: THE CARDS: each row of YtmclihijlmlpkaaGreatDoorRows.lean that lists a variable, with what it lists TIED to the program's text (the seventh form; the later family's looks); each row that meets fmt, with fmt's text TOLD by the authors' own Lean function (tested against real Go, not proved from fmt's source: count such statements apart). THE CARD IS WHAT COUNTS. Prove the row's statement (the work); the ties are given (YtmclihijlmlpkaaGreatDoorTie.lean); close each card by the builder's one call (the guide's Derived/Test/ToyasCard.lean, 'card_holds'). Laid BY PROGRAM, IN A SANDBOX (cutbox-door.mjs). By AI agents, Wed Nov 11 2026. No macro, syntax, notation, axiom, sorry.
-/
import Derived.Test.YtmclihijlmlpkaaGreatDoorRows
import GoSem.ClaimSeven
namespace Go.Proofs.YtmclihijlmlpkaaGreatDoor
namespace Rows

/-- THE TIED CARD OF 'texttoolslaw24.ExtsortSorts'. -/
def extsortSortsCard : Claim7 := { stood := { row := extsortSortsRow, standIns := [], harness := (true, "5a91d3b3002b9694137c241769bc58615a486b3f4206bfef0d8d5c99618c51e8"), looks := false }, kinds := [], alts := [], laidByText := true, laidKinds := [.data, .data, .data, .data, .data, .pinned], laidTests := true, laidLooks := .later }
def ExtsortSortsCardSaid : Prop := Claim7.holds Tryz.pinned (.plain (OpenSpec.ofChange extsortSortsSpec)) extsortSortsCard

/-- THE SECOND FORM's CARD OF 'texttoolslaw24.ExtsortSorts'. -/
def extsortSortsUptoCard : Claim7 := { stood := { row := extsortSortsUptoRow, standIns := [], harness := (true, "5a91d3b3002b9694137c241769bc58615a486b3f4206bfef0d8d5c99618c51e8"), looks := false }, kinds := [], alts := [], laidByText := true, laidKinds := [.data, .data, .data, .data, .data, .pinned], laidTests := true, laidLooks := .later }
def ExtsortSortsUptoCardSaid : Prop := Claim7.holds Tryz.pinned (.plain (OpenSpec.upto extsortSortsSpec)) extsortSortsUptoCard
end Rows
end Go.Proofs.YtmclihijlmlpkaaGreatDoor
