/-
  DERIVED. GIVEN WITH THE SEED: THE CARDS: each row of YtebjpfbenjgglaaGreatDoorRows.lean that lists a variable, with what it lists TIED to the program's text (the seventh form; the later family's looks); each row that meets fmt, with fmt's text TOLD by the authors' own Lean function (tested against real Go, not proved from fmt's source: count such statements apart). THE CARD IS WHAT COUNTS. Prove the row's statement (the work); the ties are given (YtebjpfbenjgglaaGreatDoorTie.lean); close each card by the builder's one call (the guide's Derived/Test/ToyasCard.lean, 'card_holds'). Laid BY PROGRAM, IN A SANDBOX (cutbox-door.mjs). By AI agents, Wed Nov 11 2026. No macro, syntax, notation, axiom, sorry.
-/
import Derived.Test.YtebjpfbenjgglaaGreatDoorRows
import GoSem.ClaimSeven
namespace Go.Proofs.YtebjpfbenjgglaaGreatDoor
namespace Rows

/-- THE TIED CARD OF 'texttoolslaw19.TempfileCalls'. -/
def tempfileCallsCard : Claim7 := { stood := { row := tempfileCallsRow, standIns := [], harness := (true, "bdc610c5c3638b1ac83b6cae6831d7cfee56a988e3e3c7689016b5caf4b9cdf4"), looks := false }, kinds := [], alts := [], laidByText := true, laidKinds := [.data, .data, .data, .data], laidTests := true, laidLooks := .later }
def TempfileCallsCardSaid : Prop := Claim7.holds Tryz.pinned (.plain (OpenSpec.ofChange tempfileCallsSpec)) tempfileCallsCard

/-- THE TIED CARD OF 'texttoolslaw19.TempfileCleans'. -/
def tempfileCleansCard : Claim7 := { stood := { row := tempfileCleansRow, standIns := [], harness := (true, "bdc610c5c3638b1ac83b6cae6831d7cfee56a988e3e3c7689016b5caf4b9cdf4"), looks := false }, kinds := [], alts := [], laidByText := true, laidKinds := [.data, .data, .data, .data], laidTests := true, laidLooks := .later }
def TempfileCleansCardSaid : Prop := Claim7.holds Tryz.pinned (.plain (OpenSpec.ofChange tempfileCleansSpec)) tempfileCleansCard

/-- THE SECOND FORM's CARD OF 'texttoolslaw19.TempfileCalls'. -/
def tempfileCallsUptoCard : Claim7 := { stood := { row := tempfileCallsUptoRow, standIns := [], harness := (true, "bdc610c5c3638b1ac83b6cae6831d7cfee56a988e3e3c7689016b5caf4b9cdf4"), looks := false }, kinds := [], alts := [], laidByText := true, laidKinds := [.data, .data, .data, .data], laidTests := true, laidLooks := .later }
def TempfileCallsUptoCardSaid : Prop := Claim7.holds Tryz.pinned (.plain (OpenSpec.upto tempfileCallsSpec)) tempfileCallsUptoCard

/-- THE SECOND FORM's CARD OF 'texttoolslaw19.TempfileCleans'. -/
def tempfileCleansUptoCard : Claim7 := { stood := { row := tempfileCleansUptoRow, standIns := [], harness := (true, "bdc610c5c3638b1ac83b6cae6831d7cfee56a988e3e3c7689016b5caf4b9cdf4"), looks := false }, kinds := [], alts := [], laidByText := true, laidKinds := [.data, .data, .data, .data], laidTests := true, laidLooks := .later }
def TempfileCleansUptoCardSaid : Prop := Claim7.holds Tryz.pinned (.plain (OpenSpec.upto tempfileCleansSpec)) tempfileCleansUptoCard
end Rows
end Go.Proofs.YtebjpfbenjgglaaGreatDoor
