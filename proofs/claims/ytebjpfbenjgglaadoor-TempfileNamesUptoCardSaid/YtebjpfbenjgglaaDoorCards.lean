/-
  DERIVED. GIVEN WITH THE SEED: THE CARDS: each row of YtebjpfbenjgglaaDoorRows.lean that lists a variable, with what it lists TIED to the program's text (the seventh form; the later family's looks); each row that meets fmt, with fmt's text TOLD by the authors' own Lean function (tested against real Go, not proved from fmt's source: count such statements apart). THE CARD IS WHAT COUNTS. Prove the row's statement (the work); the ties are given (YtebjpfbenjgglaaDoorTie.lean); close each card by the builder's one call (the guide's Derived/Test/ToyasCard.lean, 'card_holds'). Laid BY PROGRAM, IN A SANDBOX (cutbox-door.mjs). By AI agents, Wed Nov 11 2026. No macro, syntax, notation, axiom, sorry.
-/
import Derived.Test.YtebjpfbenjgglaaDoorRows
import GoSem.ClaimSeven
namespace Go.Proofs.YtebjpfbenjgglaaDoor
namespace Rows

/-- THE TIED CARD OF 'texttoolslaw19.TempfileNames'. -/
def tempfileNamesCard : Claim7 := { stood := { row := tempfileNamesRow, standIns := [], harness := (true, "2055b4da182bf7b82afcc4ca267c7ee877c542d81eec71de1d4f643f440c1b59"), looks := false }, kinds := [], alts := [], laidByText := true, laidKinds := [.data, .data, .data, .data], laidTests := true, laidLooks := .later }
def TempfileNamesCardSaid : Prop := Claim7.holds Tryd.pinned (.plain (OpenSpec.ofChange tempfileNamesSpec)) tempfileNamesCard

/-- THE TIED CARD OF 'texttoolslaw19.TempfileReads'. -/
def tempfileReadsCard : Claim7 := { stood := { row := tempfileReadsRow, standIns := [], harness := (true, "2055b4da182bf7b82afcc4ca267c7ee877c542d81eec71de1d4f643f440c1b59"), looks := false }, kinds := [], alts := [], laidByText := true, laidKinds := [.data, .data, .data, .data], laidTests := true, laidLooks := .later }
def TempfileReadsCardSaid : Prop := Claim7.holds Tryd.pinned (.plain (OpenSpec.ofChange tempfileReadsSpec)) tempfileReadsCard

/-- THE TIED CARD OF 'texttoolslaw19.TempfileNil'. -/
def tempfileNilCard : Claim7 := { stood := { row := tempfileNilRow, standIns := [], harness := (true, "2055b4da182bf7b82afcc4ca267c7ee877c542d81eec71de1d4f643f440c1b59"), looks := false }, kinds := [], alts := [], laidByText := true, laidKinds := [.data, .data, .data, .data], laidTests := true, laidLooks := .later }
def TempfileNilCardSaid : Prop := Claim7.holds Tryd.pinned (.plain (OpenSpec.ofChange tempfileNilSpec)) tempfileNilCard

/-- THE TIED CARD OF 'texttoolslaw19.TempfileBounds'. -/
def tempfileBoundsCard : Claim7 := { stood := { row := tempfileBoundsRow, standIns := [], harness := (true, "2055b4da182bf7b82afcc4ca267c7ee877c542d81eec71de1d4f643f440c1b59"), looks := false }, kinds := [], alts := [], laidByText := true, laidKinds := [.data, .data, .data, .data], laidTests := true, laidLooks := .later }
def TempfileBoundsCardSaid : Prop := Claim7.holds Tryd.pinned (.plain (OpenSpec.ofChange tempfileBoundsSpec)) tempfileBoundsCard

/-- THE SECOND FORM's CARD OF 'texttoolslaw19.TempfileNames'. -/
def tempfileNamesUptoCard : Claim7 := { stood := { row := tempfileNamesUptoRow, standIns := [], harness := (true, "2055b4da182bf7b82afcc4ca267c7ee877c542d81eec71de1d4f643f440c1b59"), looks := false }, kinds := [], alts := [], laidByText := true, laidKinds := [.data, .data, .data, .data], laidTests := true, laidLooks := .later }
def TempfileNamesUptoCardSaid : Prop := Claim7.holds Tryd.pinned (.plain (OpenSpec.upto tempfileNamesSpec)) tempfileNamesUptoCard

/-- THE SECOND FORM's CARD OF 'texttoolslaw19.TempfileReads'. -/
def tempfileReadsUptoCard : Claim7 := { stood := { row := tempfileReadsUptoRow, standIns := [], harness := (true, "2055b4da182bf7b82afcc4ca267c7ee877c542d81eec71de1d4f643f440c1b59"), looks := false }, kinds := [], alts := [], laidByText := true, laidKinds := [.data, .data, .data, .data], laidTests := true, laidLooks := .later }
def TempfileReadsUptoCardSaid : Prop := Claim7.holds Tryd.pinned (.plain (OpenSpec.upto tempfileReadsSpec)) tempfileReadsUptoCard

/-- THE SECOND FORM's CARD OF 'texttoolslaw19.TempfileNil'. -/
def tempfileNilUptoCard : Claim7 := { stood := { row := tempfileNilUptoRow, standIns := [], harness := (true, "2055b4da182bf7b82afcc4ca267c7ee877c542d81eec71de1d4f643f440c1b59"), looks := false }, kinds := [], alts := [], laidByText := true, laidKinds := [.data, .data, .data, .data], laidTests := true, laidLooks := .later }
def TempfileNilUptoCardSaid : Prop := Claim7.holds Tryd.pinned (.plain (OpenSpec.upto tempfileNilSpec)) tempfileNilUptoCard

/-- THE SECOND FORM's CARD OF 'texttoolslaw19.TempfileBounds'. -/
def tempfileBoundsUptoCard : Claim7 := { stood := { row := tempfileBoundsUptoRow, standIns := [], harness := (true, "2055b4da182bf7b82afcc4ca267c7ee877c542d81eec71de1d4f643f440c1b59"), looks := false }, kinds := [], alts := [], laidByText := true, laidKinds := [.data, .data, .data, .data], laidTests := true, laidLooks := .later }
def TempfileBoundsUptoCardSaid : Prop := Claim7.holds Tryd.pinned (.plain (OpenSpec.upto tempfileBoundsSpec)) tempfileBoundsUptoCard
end Rows
end Go.Proofs.YtebjpfbenjgglaaDoor
