/-
  DERIVED. GIVEN WITH THE SEED: THE CARDS: each row of YtjmhpjoedfegkaaGreatDoorRows.lean that lists a variable, with what it lists TIED to the program's text (the seventh form; the later family's looks); each row that meets fmt, with fmt's text TOLD by the authors' own Lean function (tested against real Go, not proved from fmt's source: count such statements apart). THE CARD IS WHAT COUNTS. Prove the row's statement (the work); the ties are given (YtjmhpjoedfegkaaGreatDoorTie.lean); close each card by the builder's one call (the guide's Derived/Test/ToyasCard.lean, 'card_holds'). Laid BY PROGRAM, IN A SANDBOX (cutbox-door.mjs). By AI agents, Wed Nov 11 2026. No macro, syntax, notation, axiom, sorry.
-/
import Derived.Test.YtjmhpjoedfegkaaGreatDoorRows
import GoSem.ClaimSeven
namespace Go.Proofs.YtjmhpjoedfegkaaGreatDoor
namespace Rows

/-- THE TIED CARD OF 'texttoolslaw22.RunsWrites'. -/
def runsWritesCard : Claim7 := { stood := { row := runsWritesRow, standIns := [], harness := (true, "b4e5db709fcf9ad470212f2fe88b95d220bb9c6150807d89a18df3d644aa6e95"), looks := false }, kinds := [], alts := [], laidByText := true, laidKinds := [.data, .data, .data, .data, .data, .pinned], laidTests := true, laidLooks := .later }
def RunsWritesCardSaid : Prop := Claim7.holds Tryz.pinned (.plain (OpenSpec.ofChange runsWritesSpec)) runsWritesCard

/-- THE SECOND FORM's CARD OF 'texttoolslaw22.RunsWrites'. -/
def runsWritesUptoCard : Claim7 := { stood := { row := runsWritesUptoRow, standIns := [], harness := (true, "b4e5db709fcf9ad470212f2fe88b95d220bb9c6150807d89a18df3d644aa6e95"), looks := false }, kinds := [], alts := [], laidByText := true, laidKinds := [.data, .data, .data, .data, .data, .pinned], laidTests := true, laidLooks := .later }
def RunsWritesUptoCardSaid : Prop := Claim7.holds Tryz.pinned (.plain (OpenSpec.upto runsWritesSpec)) runsWritesUptoCard
end Rows
end Go.Proofs.YtjmhpjoedfegkaaGreatDoor
