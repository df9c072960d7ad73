/-
  DERIVED. GIVEN WITH THE SEED: THE CARDS: each row of YtomfadecfjephaaGreatDoorRows.lean that lists a variable, with what it lists TIED to the program's text (the seventh form; the later family's looks); each row that meets fmt, with fmt's text TOLD by the authors' own Lean function (tested against real Go, not proved from fmt's source: count such statements apart). THE CARD IS WHAT COUNTS. Prove the row's statement (the work); the ties are given (YtomfadecfjephaaGreatDoorTie.lean); close each card by the builder's one call (the guide's Derived/Test/ToyasCard.lean, 'card_holds'). Laid BY PROGRAM, IN A SANDBOX (cutbox-door.mjs). By AI agents, Wed Nov 11 2026. No macro, syntax, notation, axiom, sorry.
-/
import Derived.Test.YtomfadecfjephaaGreatDoorRows
import GoSem.ClaimSeven
namespace Go.Proofs.YtomfadecfjephaaGreatDoor
namespace Rows

/-- THE TIED CARD OF 'texttoolslaw21.MemsortSorts'. -/
def memsortSortsCard : Claim7 := { stood := { row := memsortSortsRow, standIns := [], harness := (true, "1998cd1d5f1fbe5db0c29c39fadb5459a1b59bd0e8b528a34ba0cb830b6708c3"), looks := true }, kinds := [], alts := [], laidByText := true, laidKinds := [.data, .pinned], laidTests := true, laidLooks := .later }
def MemsortSortsCardSaid : Prop := Claim7.holds Tryz.pinned (.plain (OpenSpec.ofChange memsortSortsSpec)) memsortSortsCard

/-- THE TIED CARD OF 'texttoolslaw21.MemsortMerges'. -/
def memsortMergesCard : Claim7 := { stood := { row := memsortMergesRow, standIns := [], harness := (true, "1998cd1d5f1fbe5db0c29c39fadb5459a1b59bd0e8b528a34ba0cb830b6708c3"), looks := true }, kinds := [], alts := [], laidByText := true, laidKinds := [.data, .pinned], laidTests := true, laidLooks := .later }
def MemsortMergesCardSaid : Prop := Claim7.holds Tryz.pinned (.plain (OpenSpec.ofChange memsortMergesSpec)) memsortMergesCard

/-- THE TIED CARD OF 'texttoolslaw20.SortkeyCompares'. -/
def sortkeyComparesCard : Claim7 := { stood := { row := sortkeyComparesRow, standIns := [], harness := (true, "1998cd1d5f1fbe5db0c29c39fadb5459a1b59bd0e8b528a34ba0cb830b6708c3"), looks := true }, kinds := [], alts := [], laidByText := true, laidKinds := [.data, .data, .data, .data, .sentinel, .sentinel, .pinned], laidTests := true, laidLooks := .later }
def SortkeyComparesCardSaid : Prop := Claim7.holds Tryz.pinned (.plain (OpenSpec.ofChange sortkeyComparesSpec)) sortkeyComparesCard

/-- THE TIED CARD OF 'texttoolslaw20.SortkeyOrders'. -/
def sortkeyOrdersCard : Claim7 := { stood := { row := sortkeyOrdersRow, standIns := [], harness := (true, "1998cd1d5f1fbe5db0c29c39fadb5459a1b59bd0e8b528a34ba0cb830b6708c3"), looks := true }, kinds := [], alts := [], laidByText := true, laidKinds := [.data, .data, .data, .data, .sentinel, .sentinel, .pinned], laidTests := true, laidLooks := .later }
def SortkeyOrdersCardSaid : Prop := Claim7.holds Tryz.pinned (.plain (OpenSpec.ofChange sortkeyOrdersSpec)) sortkeyOrdersCard

/-- THE SECOND FORM's CARD OF 'texttoolslaw21.MemsortSorts'. -/
def memsortSortsUptoCard : Claim7 := { stood := { row := memsortSortsUptoRow, standIns := [], harness := (true, "1998cd1d5f1fbe5db0c29c39fadb5459a1b59bd0e8b528a34ba0cb830b6708c3"), looks := true }, kinds := [], alts := [], laidByText := true, laidKinds := [.data, .pinned], laidTests := true, laidLooks := .later }
def MemsortSortsUptoCardSaid : Prop := Claim7.holds Tryz.pinned (.plain (OpenSpec.upto memsortSortsSpec)) memsortSortsUptoCard

/-- THE SECOND FORM's CARD OF 'texttoolslaw21.MemsortMerges'. -/
def memsortMergesUptoCard : Claim7 := { stood := { row := memsortMergesUptoRow, standIns := [], harness := (true, "1998cd1d5f1fbe5db0c29c39fadb5459a1b59bd0e8b528a34ba0cb830b6708c3"), looks := true }, kinds := [], alts := [], laidByText := true, laidKinds := [.data, .pinned], laidTests := true, laidLooks := .later }
def MemsortMergesUptoCardSaid : Prop := Claim7.holds Tryz.pinned (.plain (OpenSpec.upto memsortMergesSpec)) memsortMergesUptoCard

/-- THE SECOND FORM's CARD OF 'texttoolslaw20.SortkeyCompares'. -/
def sortkeyComparesUptoCard : Claim7 := { stood := { row := sortkeyComparesUptoRow, standIns := [], harness := (true, "1998cd1d5f1fbe5db0c29c39fadb5459a1b59bd0e8b528a34ba0cb830b6708c3"), looks := true }, kinds := [], alts := [], laidByText := true, laidKinds := [.data, .data, .data, .data, .sentinel, .sentinel, .pinned], laidTests := true, laidLooks := .later }
def SortkeyComparesUptoCardSaid : Prop := Claim7.holds Tryz.pinned (.plain (OpenSpec.upto sortkeyComparesSpec)) sortkeyComparesUptoCard

/-- THE SECOND FORM's CARD OF 'texttoolslaw20.SortkeyOrders'. -/
def sortkeyOrdersUptoCard : Claim7 := { stood := { row := sortkeyOrdersUptoRow, standIns := [], harness := (true, "1998cd1d5f1fbe5db0c29c39fadb5459a1b59bd0e8b528a34ba0cb830b6708c3"), looks := true }, kinds := [], alts := [], laidByText := true, laidKinds := [.data, .data, .data, .data, .sentinel, .sentinel, .pinned], laidTests := true, laidLooks := .later }
def SortkeyOrdersUptoCardSaid : Prop := Claim7.holds Tryz.pinned (.plain (OpenSpec.upto sortkeyOrdersSpec)) sortkeyOrdersUptoCard
end Rows
end Go.Proofs.YtomfadecfjephaaGreatDoor
