/-
  DERIVED. GIVEN WITH THE SEED: THE CARDS: each row of YtijddagljnlfmaaGreatDoorRows.lean that lists a variable, with what it lists TIED to the program's text (the seventh form; the later family's looks); each row that meets fmt, with fmt's text TOLD by the authors' own Lean function (tested against real Go, not proved from fmt's source: count such statements apart). THE CARD IS WHAT COUNTS. Prove the row's statement (the work); the ties are given (YtijddagljnlfmaaGreatDoorTie.lean); close each card by the builder's one call (the guide's Derived/Test/ToyasCard.lean, 'card_holds'). Laid BY PROGRAM, IN A SANDBOX (cutbox-door.mjs). By AI agents, Wed Nov 11 2026. No macro, syntax, notation, axiom, sorry.
-/
import Derived.Test.YtijddagljnlfmaaGreatDoorRows
import GoSem.ClaimSeven
namespace Go.Proofs.YtijddagljnlfmaaGreatDoor
namespace Rows

/-- THE TIED CARD OF 'texttoolslaw20.SortkeyParses'. -/
def sortkeyParsesCard : Claim7 := { stood := { row := sortkeyParsesRow, standIns := [], harness := (true, "2e7b763353f214b8221f1abf45db0c9af6618421058db6810eab590d8f8a1e40"), looks := true }, kinds := [], alts := [], laidByText := true, laidKinds := [.data, .data, .data, .data, .sentinel, .sentinel, .pinned], laidTests := true, laidLooks := .later }
def SortkeyParsesCardSaid : Prop := Claim7.holds Tryz.pinned (.plain (OpenSpec.ofChange sortkeyParsesSpec)) sortkeyParsesCard

/-- THE TIED CARD OF 'texttoolslaw20.SortkeyExtracts'. -/
def sortkeyExtractsCard : Claim7 := { stood := { row := sortkeyExtractsRow, standIns := [], harness := (true, "2e7b763353f214b8221f1abf45db0c9af6618421058db6810eab590d8f8a1e40"), looks := true }, kinds := [], alts := [], laidByText := true, laidKinds := [.data, .data, .data, .data, .sentinel, .sentinel, .pinned], laidTests := true, laidLooks := .later }
def SortkeyExtractsCardSaid : Prop := Claim7.holds Tryz.pinned (.plain (OpenSpec.ofChange sortkeyExtractsSpec)) sortkeyExtractsCard

/-- THE TIED CARD OF 'texttoolslaw20.SortkeyCompares'. -/
def sortkeyComparesCard : Claim7 := { stood := { row := sortkeyComparesRow, standIns := [], harness := (true, "2e7b763353f214b8221f1abf45db0c9af6618421058db6810eab590d8f8a1e40"), looks := true }, kinds := [], alts := [], laidByText := true, laidKinds := [.data, .data, .data, .data, .sentinel, .sentinel, .pinned], laidTests := true, laidLooks := .later }
def SortkeyComparesCardSaid : Prop := Claim7.holds Tryz.pinned (.plain (OpenSpec.ofChange sortkeyComparesSpec)) sortkeyComparesCard

/-- THE TIED CARD OF 'texttoolslaw20.SortkeyOrders'. -/
def sortkeyOrdersCard : Claim7 := { stood := { row := sortkeyOrdersRow, standIns := [], harness := (true, "2e7b763353f214b8221f1abf45db0c9af6618421058db6810eab590d8f8a1e40"), looks := true }, kinds := [], alts := [], laidByText := true, laidKinds := [.data, .data, .data, .data, .sentinel, .sentinel, .pinned], laidTests := true, laidLooks := .later }
def SortkeyOrdersCardSaid : Prop := Claim7.holds Tryz.pinned (.plain (OpenSpec.ofChange sortkeyOrdersSpec)) sortkeyOrdersCard

/-- THE TIED CARD OF 'texttoolslaw20.SortkeyReads'. -/
def sortkeyReadsCard : Claim7 := { stood := { row := sortkeyReadsRow, standIns := [], harness := (true, "2e7b763353f214b8221f1abf45db0c9af6618421058db6810eab590d8f8a1e40"), looks := true }, kinds := [], alts := [], laidByText := true, laidKinds := [.data, .data, .data, .data, .sentinel, .sentinel, .pinned], laidTests := true, laidLooks := .later }
def SortkeyReadsCardSaid : Prop := Claim7.holds Tryz.pinned (.plain (OpenSpec.ofChange sortkeyReadsSpec)) sortkeyReadsCard

/-- THE TIED CARD OF 'texttoolslaw20.SortkeyFields'. -/
def sortkeyFieldsCard : Claim7 := { stood := { row := sortkeyFieldsRow, standIns := [], harness := (true, "2e7b763353f214b8221f1abf45db0c9af6618421058db6810eab590d8f8a1e40"), looks := true }, kinds := [], alts := [], laidByText := true, laidKinds := [.data, .data, .data, .data, .sentinel, .sentinel, .pinned], laidTests := true, laidLooks := .later }
def SortkeyFieldsCardSaid : Prop := Claim7.holds Tryz.pinned (.plain (OpenSpec.ofChange sortkeyFieldsSpec)) sortkeyFieldsCard

/-- THE TIED CARD OF 'texttoolslaw20.SortkeyChecks'. -/
def sortkeyChecksCard : Claim7 := { stood := { row := sortkeyChecksRow, standIns := [], harness := (true, "2e7b763353f214b8221f1abf45db0c9af6618421058db6810eab590d8f8a1e40"), looks := true }, kinds := [], alts := [], laidByText := true, laidKinds := [.data, .data, .data, .data, .sentinel, .sentinel, .pinned], laidTests := true, laidLooks := .later }
def SortkeyChecksCardSaid : Prop := Claim7.holds Tryz.pinned (.plain (OpenSpec.ofChange sortkeyChecksSpec)) sortkeyChecksCard

/-- THE TIED CARD OF 'texttoolslaw20.SortkeyRoundTrips'. -/
def sortkeyRoundTripsCard : Claim7 := { stood := { row := sortkeyRoundTripsRow, standIns := [], harness := (true, "2e7b763353f214b8221f1abf45db0c9af6618421058db6810eab590d8f8a1e40"), looks := true }, kinds := [], alts := [], laidByText := true, laidKinds := [.data, .data, .data, .data, .sentinel, .sentinel, .pinned], laidTests := true, laidLooks := .later }
def SortkeyRoundTripsCardSaid : Prop := Claim7.holds Tryz.pinned (.plain (OpenSpec.ofChange sortkeyRoundTripsSpec)) sortkeyRoundTripsCard

/-- THE SECOND FORM's CARD OF 'texttoolslaw20.SortkeyParses'. -/
def sortkeyParsesUptoCard : Claim7 := { stood := { row := sortkeyParsesUptoRow, standIns := [], harness := (true, "2e7b763353f214b8221f1abf45db0c9af6618421058db6810eab590d8f8a1e40"), looks := true }, kinds := [], alts := [], laidByText := true, laidKinds := [.data, .data, .data, .data, .sentinel, .sentinel, .pinned], laidTests := true, laidLooks := .later }
def SortkeyParsesUptoCardSaid : Prop := Claim7.holds Tryz.pinned (.plain (OpenSpec.upto sortkeyParsesSpec)) sortkeyParsesUptoCard

/-- THE SECOND FORM's CARD OF 'texttoolslaw20.SortkeyExtracts'. -/
def sortkeyExtractsUptoCard : Claim7 := { stood := { row := sortkeyExtractsUptoRow, standIns := [], harness := (true, "2e7b763353f214b8221f1abf45db0c9af6618421058db6810eab590d8f8a1e40"), looks := true }, kinds := [], alts := [], laidByText := true, laidKinds := [.data, .data, .data, .data, .sentinel, .sentinel, .pinned], laidTests := true, laidLooks := .later }
def SortkeyExtractsUptoCardSaid : Prop := Claim7.holds Tryz.pinned (.plain (OpenSpec.upto sortkeyExtractsSpec)) sortkeyExtractsUptoCard

/-- THE SECOND FORM's CARD OF 'texttoolslaw20.SortkeyCompares'. -/
def sortkeyComparesUptoCard : Claim7 := { stood := { row := sortkeyComparesUptoRow, standIns := [], harness := (true, "2e7b763353f214b8221f1abf45db0c9af6618421058db6810eab590d8f8a1e40"), looks := true }, kinds := [], alts := [], laidByText := true, laidKinds := [.data, .data, .data, .data, .sentinel, .sentinel, .pinned], laidTests := true, laidLooks := .later }
def SortkeyComparesUptoCardSaid : Prop := Claim7.holds Tryz.pinned (.plain (OpenSpec.upto sortkeyComparesSpec)) sortkeyComparesUptoCard

/-- THE SECOND FORM's CARD OF 'texttoolslaw20.SortkeyOrders'. -/
def sortkeyOrdersUptoCard : Claim7 := { stood := { row := sortkeyOrdersUptoRow, standIns := [], harness := (true, "2e7b763353f214b8221f1abf45db0c9af6618421058db6810eab590d8f8a1e40"), looks := true }, kinds := [], alts := [], laidByText := true, laidKinds := [.data, .data, .data, .data, .sentinel, .sentinel, .pinned], laidTests := true, laidLooks := .later }
def SortkeyOrdersUptoCardSaid : Prop := Claim7.holds Tryz.pinned (.plain (OpenSpec.upto sortkeyOrdersSpec)) sortkeyOrdersUptoCard

/-- THE SECOND FORM's CARD OF 'texttoolslaw20.SortkeyReads'. -/
def sortkeyReadsUptoCard : Claim7 := { stood := { row := sortkeyReadsUptoRow, standIns := [], harness := (true, "2e7b763353f214b8221f1abf45db0c9af6618421058db6810eab590d8f8a1e40"), looks := true }, kinds := [], alts := [], laidByText := true, laidKinds := [.data, .data, .data, .data, .sentinel, .sentinel, .pinned], laidTests := true, laidLooks := .later }
def SortkeyReadsUptoCardSaid : Prop := Claim7.holds Tryz.pinned (.plain (OpenSpec.upto sortkeyReadsSpec)) sortkeyReadsUptoCard

/-- THE SECOND FORM's CARD OF 'texttoolslaw20.SortkeyFields'. -/
def sortkeyFieldsUptoCard : Claim7 := { stood := { row := sortkeyFieldsUptoRow, standIns := [], harness := (true, "2e7b763353f214b8221f1abf45db0c9af6618421058db6810eab590d8f8a1e40"), looks := true }, kinds := [], alts := [], laidByText := true, laidKinds := [.data, .data, .data, .data, .sentinel, .sentinel, .pinned], laidTests := true, laidLooks := .later }
def SortkeyFieldsUptoCardSaid : Prop := Claim7.holds Tryz.pinned (.plain (OpenSpec.upto sortkeyFieldsSpec)) sortkeyFieldsUptoCard

/-- THE SECOND FORM's CARD OF 'texttoolslaw20.SortkeyChecks'. -/
def sortkeyChecksUptoCard : Claim7 := { stood := { row := sortkeyChecksUptoRow, standIns := [], harness := (true, "2e7b763353f214b8221f1abf45db0c9af6618421058db6810eab590d8f8a1e40"), looks := true }, kinds := [], alts := [], laidByText := true, laidKinds := [.data, .data, .data, .data, .sentinel, .sentinel, .pinned], laidTests := true, laidLooks := .later }
def SortkeyChecksUptoCardSaid : Prop := Claim7.holds Tryz.pinned (.plain (OpenSpec.upto sortkeyChecksSpec)) sortkeyChecksUptoCard

/-- THE SECOND FORM's CARD OF 'texttoolslaw20.SortkeyRoundTrips'. -/
def sortkeyRoundTripsUptoCard : Claim7 := { stood := { row := sortkeyRoundTripsUptoRow, standIns := [], harness := (true, "2e7b763353f214b8221f1abf45db0c9af6618421058db6810eab590d8f8a1e40"), looks := true }, kinds := [], alts := [], laidByText := true, laidKinds := [.data, .data, .data, .data, .sentinel, .sentinel, .pinned], laidTests := true, laidLooks := .later }
def SortkeyRoundTripsUptoCardSaid : Prop := Claim7.holds Tryz.pinned (.plain (OpenSpec.upto sortkeyRoundTripsSpec)) sortkeyRoundTripsUptoCard
end Rows
end Go.Proofs.YtijddagljnlfmaaGreatDoor
