/-
  DERIVED. GIVEN WITH THE SEED: THE CARDS: each row of YtomfadecfjephaaDoorRows.lean that lists a variable, with what it lists TIED to the program's text (the seventh form; the later family's looks); each row that meets fmt, with fmt's text TOLD by the authors' own Lean function (tested against real Go, not proved from fmt's source: count such statements apart). THE CARD IS WHAT COUNTS. Prove the row's statement (the work); the ties are given (YtomfadecfjephaaDoorTie.lean); close each card by the builder's one call (the guide's Derived/Test/ToyasCard.lean, 'card_holds'). Laid BY PROGRAM, IN A SANDBOX (cutbox-door.mjs). By AI agents, Wed Nov 11 2026. No macro, syntax, notation, axiom, sorry.
-/
import Derived.Test.YtomfadecfjephaaDoorRows
import GoSem.ClaimSeven
namespace Go.Proofs.YtomfadecfjephaaDoor
namespace Rows

/-- THE TIED CARD OF 'texttoolslaw21.MemsortStable'. -/
def memsortStableCard : Claim7 := { stood := { row := memsortStableRow, standIns := [], harness := (true, "bc2fd36012f476e072af9ea99a72fac7b798bb14e42b8b96b10d2b9d754d6b2e"), looks := false }, kinds := [], alts := [], laidByText := true, laidKinds := [.data, .pinned], laidTests := true, laidLooks := .later }
def MemsortStableCardSaid : Prop := Claim7.holds Tryd.pinned (.plain (OpenSpec.ofChange memsortStableSpec)) memsortStableCard

/-- THE TIED CARD OF 'texttoolslaw21.MemsortBytes'. -/
def memsortBytesCard : Claim7 := { stood := { row := memsortBytesRow, standIns := [], harness := (true, "bc2fd36012f476e072af9ea99a72fac7b798bb14e42b8b96b10d2b9d754d6b2e"), looks := false }, kinds := [], alts := [], laidByText := true, laidKinds := [.data, .pinned], laidTests := true, laidLooks := .later }
def MemsortBytesCardSaid : Prop := Claim7.holds Tryd.pinned (.plain (OpenSpec.ofChange memsortBytesSpec)) memsortBytesCard

/-- THE TIED CARD OF 'texttoolslaw21.MemsortParts'. -/
def memsortPartsCard : Claim7 := { stood := { row := memsortPartsRow, standIns := [], harness := (true, "bc2fd36012f476e072af9ea99a72fac7b798bb14e42b8b96b10d2b9d754d6b2e"), looks := false }, kinds := [], alts := [], laidByText := true, laidKinds := [.data, .pinned], laidTests := true, laidLooks := .later }
def MemsortPartsCardSaid : Prop := Claim7.holds Tryd.pinned (.plain (OpenSpec.ofChange memsortPartsSpec)) memsortPartsCard

/-- THE SECOND FORM's CARD OF 'texttoolslaw21.MemsortStable'. -/
def memsortStableUptoCard : Claim7 := { stood := { row := memsortStableUptoRow, standIns := [], harness := (true, "bc2fd36012f476e072af9ea99a72fac7b798bb14e42b8b96b10d2b9d754d6b2e"), looks := false }, kinds := [], alts := [], laidByText := true, laidKinds := [.data, .pinned], laidTests := true, laidLooks := .later }
def MemsortStableUptoCardSaid : Prop := Claim7.holds Tryd.pinned (.plain (OpenSpec.upto memsortStableSpec)) memsortStableUptoCard

/-- THE SECOND FORM's CARD OF 'texttoolslaw21.MemsortBytes'. -/
def memsortBytesUptoCard : Claim7 := { stood := { row := memsortBytesUptoRow, standIns := [], harness := (true, "bc2fd36012f476e072af9ea99a72fac7b798bb14e42b8b96b10d2b9d754d6b2e"), looks := false }, kinds := [], alts := [], laidByText := true, laidKinds := [.data, .pinned], laidTests := true, laidLooks := .later }
def MemsortBytesUptoCardSaid : Prop := Claim7.holds Tryd.pinned (.plain (OpenSpec.upto memsortBytesSpec)) memsortBytesUptoCard

/-- THE SECOND FORM's CARD OF 'texttoolslaw21.MemsortParts'. -/
def memsortPartsUptoCard : Claim7 := { stood := { row := memsortPartsUptoRow, standIns := [], harness := (true, "bc2fd36012f476e072af9ea99a72fac7b798bb14e42b8b96b10d2b9d754d6b2e"), looks := false }, kinds := [], alts := [], laidByText := true, laidKinds := [.data, .pinned], laidTests := true, laidLooks := .later }
def MemsortPartsUptoCardSaid : Prop := Claim7.holds Tryd.pinned (.plain (OpenSpec.upto memsortPartsSpec)) memsortPartsUptoCard
end Rows
end Go.Proofs.YtomfadecfjephaaDoor
