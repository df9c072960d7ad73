/-
  DERIVED. GIVEN WITH THE SEED: THE CARDS: each row of YtnaneekpogohaaaGreatDoorRows.lean that lists a variable, with what it lists TIED to the program's text (the seventh form; the later family's looks); each row that meets fmt, with fmt's text TOLD by the authors' own Lean function (tested against real Go, not proved from fmt's source: count such statements apart). THE CARD IS WHAT COUNTS. Prove the row's statement (the work); the ties are given (YtnaneekpogohaaaGreatDoorTie.lean); close each card by the builder's one call (the guide's Derived/Test/ToyasCard.lean, 'card_holds'). Laid BY PROGRAM, IN A SANDBOX (cutbox-door.mjs). By AI agents, Wed Nov 11 2026. No macro, syntax, notation, axiom, sorry.
-/
import Derived.Test.YtnaneekpogohaaaGreatDoorRows
import GoSem.ClaimSeven
namespace Go.Proofs.YtnaneekpogohaaaGreatDoor
namespace Rows

/-- THE TIED CARD OF 'texttoolstop.TopCrashes'. -/
def topCrashesCard : Claim7 := { stood := { row := topCrashesRow, standIns := [], harness := (true, "577fc8820601751f759e8bbe1a03e305eb415e373e1a56a8ebd5c638136817af"), looks := false }, kinds := [], alts := [], laidByText := true, laidKinds := [.data, .data, .data, .data, .data, .pinned], laidTests := true, laidLooks := .later }
def TopCrashesCardSaid : Prop := Claim7.holds Tryz.pinned (.plain (OpenSpec.ofChange topCrashesSpec)) topCrashesCard

/-- THE TIED CARD OF 'texttoolstop.TopSorts'. -/
def topSortsCard : Claim7 := { stood := { row := topSortsRow, standIns := [], harness := (true, "577fc8820601751f759e8bbe1a03e305eb415e373e1a56a8ebd5c638136817af"), looks := false }, kinds := [], alts := [], laidByText := true, laidKinds := [.data, .data, .data, .data, .data, .pinned], laidTests := true, laidLooks := .later }
def TopSortsCardSaid : Prop := Claim7.holds Tryz.pinned (.plain (OpenSpec.ofChange topSortsSpec)) topSortsCard

/-- THE TIED CARD OF 'texttoolslaw24.ExtsortSorts'. -/
def extsortSortsCard : Claim7 := { stood := { row := extsortSortsRow, standIns := [], harness := (true, "577fc8820601751f759e8bbe1a03e305eb415e373e1a56a8ebd5c638136817af"), looks := false }, kinds := [], alts := [], laidByText := true, laidKinds := [.data, .data, .data, .data, .data, .pinned], laidTests := true, laidLooks := .later }
def ExtsortSortsCardSaid : Prop := Claim7.holds Tryz.pinned (.plain (OpenSpec.ofChange extsortSortsSpec)) extsortSortsCard

/-- THE TIED CARD OF 'texttoolslaw24.ExtsortEquals'. -/
def extsortEqualsCard : Claim7 := { stood := { row := extsortEqualsRow, standIns := [], harness := (true, "577fc8820601751f759e8bbe1a03e305eb415e373e1a56a8ebd5c638136817af"), looks := false }, kinds := [], alts := [], laidByText := true, laidKinds := [.data, .data, .data, .data, .data, .pinned], laidTests := true, laidLooks := .later }
def ExtsortEqualsCardSaid : Prop := Claim7.holds Tryz.pinned (.plain (OpenSpec.ofChange extsortEqualsSpec)) extsortEqualsCard

/-- THE TIED CARD OF 'texttoolslaw24.ExtsortCleans'. -/
def extsortCleansCard : Claim7 := { stood := { row := extsortCleansRow, standIns := [], harness := (true, "577fc8820601751f759e8bbe1a03e305eb415e373e1a56a8ebd5c638136817af"), looks := false }, kinds := [], alts := [], laidByText := true, laidKinds := [.data, .data, .data, .data, .data, .pinned], laidTests := true, laidLooks := .later }
def ExtsortCleansCardSaid : Prop := Claim7.holds Tryz.pinned (.plain (OpenSpec.ofChange extsortCleansSpec)) extsortCleansCard

/-- THE TIED CARD OF 'texttoolslaw24.ExtsortBounds'. -/
def extsortBoundsCard : Claim7 := { stood := { row := extsortBoundsRow, standIns := [], harness := (true, "577fc8820601751f759e8bbe1a03e305eb415e373e1a56a8ebd5c638136817af"), looks := false }, kinds := [], alts := [], laidByText := true, laidKinds := [.data, .data, .data, .data, .data, .pinned], laidTests := true, laidLooks := .later }
def ExtsortBoundsCardSaid : Prop := Claim7.holds Tryz.pinned (.plain (OpenSpec.ofChange extsortBoundsSpec)) extsortBoundsCard

/-- THE TIED CARD OF 'texttoolslaw24.ExtsortCosts'. -/
def extsortCostsCard : Claim7 := { stood := { row := extsortCostsRow, standIns := [], harness := (true, "577fc8820601751f759e8bbe1a03e305eb415e373e1a56a8ebd5c638136817af"), looks := false }, kinds := [], alts := [], laidByText := true, laidKinds := [.data, .data, .data, .data, .data, .pinned], laidTests := true, laidLooks := .later }
def ExtsortCostsCardSaid : Prop := Claim7.holds Tryz.pinned (.plain (OpenSpec.ofChange extsortCostsSpec)) extsortCostsCard

/-- THE TIED CARD OF 'texttoolslaw24.ExtsortCrashes'. -/
def extsortCrashesCard : Claim7 := { stood := { row := extsortCrashesRow, standIns := [], harness := (true, "577fc8820601751f759e8bbe1a03e305eb415e373e1a56a8ebd5c638136817af"), looks := false }, kinds := [], alts := [], laidByText := true, laidKinds := [.data, .data, .data, .data, .data, .pinned], laidTests := true, laidLooks := .later }
def ExtsortCrashesCardSaid : Prop := Claim7.holds Tryz.pinned (.plain (OpenSpec.ofChange extsortCrashesSpec)) extsortCrashesCard

/-- THE SECOND FORM's CARD OF 'texttoolstop.TopCrashes'. -/
def topCrashesUptoCard : Claim7 := { stood := { row := topCrashesUptoRow, standIns := [], harness := (true, "577fc8820601751f759e8bbe1a03e305eb415e373e1a56a8ebd5c638136817af"), looks := false }, kinds := [], alts := [], laidByText := true, laidKinds := [.data, .data, .data, .data, .data, .pinned], laidTests := true, laidLooks := .later }
def TopCrashesUptoCardSaid : Prop := Claim7.holds Tryz.pinned (.plain (OpenSpec.upto topCrashesSpec)) topCrashesUptoCard

/-- THE SECOND FORM's CARD OF 'texttoolstop.TopSorts'. -/
def topSortsUptoCard : Claim7 := { stood := { row := topSortsUptoRow, standIns := [], harness := (true, "577fc8820601751f759e8bbe1a03e305eb415e373e1a56a8ebd5c638136817af"), looks := false }, kinds := [], alts := [], laidByText := true, laidKinds := [.data, .data, .data, .data, .data, .pinned], laidTests := true, laidLooks := .later }
def TopSortsUptoCardSaid : Prop := Claim7.holds Tryz.pinned (.plain (OpenSpec.upto topSortsSpec)) topSortsUptoCard

/-- THE SECOND FORM's CARD OF 'texttoolslaw24.ExtsortSorts'. -/
def extsortSortsUptoCard : Claim7 := { stood := { row := extsortSortsUptoRow, standIns := [], harness := (true, "577fc8820601751f759e8bbe1a03e305eb415e373e1a56a8ebd5c638136817af"), looks := false }, kinds := [], alts := [], laidByText := true, laidKinds := [.data, .data, .data, .data, .data, .pinned], laidTests := true, laidLooks := .later }
def ExtsortSortsUptoCardSaid : Prop := Claim7.holds Tryz.pinned (.plain (OpenSpec.upto extsortSortsSpec)) extsortSortsUptoCard

/-- THE SECOND FORM's CARD OF 'texttoolslaw24.ExtsortEquals'. -/
def extsortEqualsUptoCard : Claim7 := { stood := { row := extsortEqualsUptoRow, standIns := [], harness := (true, "577fc8820601751f759e8bbe1a03e305eb415e373e1a56a8ebd5c638136817af"), looks := false }, kinds := [], alts := [], laidByText := true, laidKinds := [.data, .data, .data, .data, .data, .pinned], laidTests := true, laidLooks := .later }
def ExtsortEqualsUptoCardSaid : Prop := Claim7.holds Tryz.pinned (.plain (OpenSpec.upto extsortEqualsSpec)) extsortEqualsUptoCard

/-- THE SECOND FORM's CARD OF 'texttoolslaw24.ExtsortCleans'. -/
def extsortCleansUptoCard : Claim7 := { stood := { row := extsortCleansUptoRow, standIns := [], harness := (true, "577fc8820601751f759e8bbe1a03e305eb415e373e1a56a8ebd5c638136817af"), looks := false }, kinds := [], alts := [], laidByText := true, laidKinds := [.data, .data, .data, .data, .data, .pinned], laidTests := true, laidLooks := .later }
def ExtsortCleansUptoCardSaid : Prop := Claim7.holds Tryz.pinned (.plain (OpenSpec.upto extsortCleansSpec)) extsortCleansUptoCard

/-- THE SECOND FORM's CARD OF 'texttoolslaw24.ExtsortBounds'. -/
def extsortBoundsUptoCard : Claim7 := { stood := { row := extsortBoundsUptoRow, standIns := [], harness := (true, "577fc8820601751f759e8bbe1a03e305eb415e373e1a56a8ebd5c638136817af"), looks := false }, kinds := [], alts := [], laidByText := true, laidKinds := [.data, .data, .data, .data, .data, .pinned], laidTests := true, laidLooks := .later }
def ExtsortBoundsUptoCardSaid : Prop := Claim7.holds Tryz.pinned (.plain (OpenSpec.upto extsortBoundsSpec)) extsortBoundsUptoCard

/-- THE SECOND FORM's CARD OF 'texttoolslaw24.ExtsortCosts'. -/
def extsortCostsUptoCard : Claim7 := { stood := { row := extsortCostsUptoRow, standIns := [], harness := (true, "577fc8820601751f759e8bbe1a03e305eb415e373e1a56a8ebd5c638136817af"), looks := false }, kinds := [], alts := [], laidByText := true, laidKinds := [.data, .data, .data, .data, .data, .pinned], laidTests := true, laidLooks := .later }
def ExtsortCostsUptoCardSaid : Prop := Claim7.holds Tryz.pinned (.plain (OpenSpec.upto extsortCostsSpec)) extsortCostsUptoCard

/-- THE SECOND FORM's CARD OF 'texttoolslaw24.ExtsortCrashes'. -/
def extsortCrashesUptoCard : Claim7 := { stood := { row := extsortCrashesUptoRow, standIns := [], harness := (true, "577fc8820601751f759e8bbe1a03e305eb415e373e1a56a8ebd5c638136817af"), looks := false }, kinds := [], alts := [], laidByText := true, laidKinds := [.data, .data, .data, .data, .data, .pinned], laidTests := true, laidLooks := .later }
def ExtsortCrashesUptoCardSaid : Prop := Claim7.holds Tryz.pinned (.plain (OpenSpec.upto extsortCrashesSpec)) extsortCrashesUptoCard
end Rows
end Go.Proofs.YtnaneekpogohaaaGreatDoor
