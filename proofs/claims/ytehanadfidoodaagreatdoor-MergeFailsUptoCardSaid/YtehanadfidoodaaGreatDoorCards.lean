/-
  DERIVED. GIVEN WITH THE SEED: THE CARDS: each row of YtehanadfidoodaaGreatDoorRows.lean that lists a variable, with what it lists TIED to the program's text (the seventh form; the later family's looks); each row that meets fmt, with fmt's text TOLD by the authors' own Lean function (tested against real Go, not proved from fmt's source: count such statements apart). THE CARD IS WHAT COUNTS. Prove the row's statement (the work); the ties are given (YtehanadfidoodaaGreatDoorTie.lean); close each card by the builder's one call (the guide's Derived/Test/ToyasCard.lean, 'card_holds'). Laid BY PROGRAM, IN A SANDBOX (cutbox-door.mjs). By AI agents, Wed Nov 11 2026. No macro, syntax, notation, axiom, sorry.
-/
import Derived.Test.YtehanadfidoodaaGreatDoorRows
import GoSem.ClaimSeven
namespace Go.Proofs.YtehanadfidoodaaGreatDoor
namespace Rows

/-- THE TIED CARD OF 'texttoolslaw21.MemsortMerges'. -/
def memsortMergesCard : Claim7 := { stood := { row := memsortMergesRow, standIns := [], harness := (true, "5ba42a038bd804192f96848c82bf0ea2846e5368e9273cd5fafcb5131bedb03d"), looks := false }, kinds := [], alts := [], laidByText := true, laidKinds := [.data, .pinned], laidTests := true, laidLooks := .later }
def MemsortMergesCardSaid : Prop := Claim7.holds Tryz.pinned (.plain (OpenSpec.ofChange memsortMergesSpec)) memsortMergesCard

/-- THE TIED CARD OF 'texttoolslaw22.RunsSplits'. -/
def runsSplitsCard : Claim7 := { stood := { row := runsSplitsRow, standIns := [], harness := (true, "5ba42a038bd804192f96848c82bf0ea2846e5368e9273cd5fafcb5131bedb03d"), looks := false }, kinds := [], alts := [], laidByText := true, laidKinds := [.data, .data, .data, .data, .data, .pinned], laidTests := true, laidLooks := .later }
def RunsSplitsCardSaid : Prop := Claim7.holds Tryz.pinned (.plain (OpenSpec.ofChange runsSplitsSpec)) runsSplitsCard

/-- THE TIED CARD OF 'texttoolslaw22.RunsDivide'. -/
def runsDivideCard : Claim7 := { stood := { row := runsDivideRow, standIns := [], harness := (true, "5ba42a038bd804192f96848c82bf0ea2846e5368e9273cd5fafcb5131bedb03d"), looks := false }, kinds := [], alts := [], laidByText := true, laidKinds := [.data, .data, .data, .data, .data, .pinned], laidTests := true, laidLooks := .later }
def RunsDivideCardSaid : Prop := Claim7.holds Tryz.pinned (.plain (OpenSpec.ofChange runsDivideSpec)) runsDivideCard

/-- THE TIED CARD OF 'texttoolslaw22.RunsSort'. -/
def runsSortCard : Claim7 := { stood := { row := runsSortRow, standIns := [], harness := (true, "5ba42a038bd804192f96848c82bf0ea2846e5368e9273cd5fafcb5131bedb03d"), looks := false }, kinds := [], alts := [], laidByText := true, laidKinds := [.data, .data, .data, .data, .data, .pinned], laidTests := true, laidLooks := .later }
def RunsSortCardSaid : Prop := Claim7.holds Tryz.pinned (.plain (OpenSpec.ofChange runsSortSpec)) runsSortCard

/-- THE TIED CARD OF 'texttoolslaw22.RunsPeeks'. -/
def runsPeeksCard : Claim7 := { stood := { row := runsPeeksRow, standIns := [], harness := (true, "5ba42a038bd804192f96848c82bf0ea2846e5368e9273cd5fafcb5131bedb03d"), looks := false }, kinds := [], alts := [], laidByText := true, laidKinds := [.data, .data, .data, .data, .data, .pinned], laidTests := true, laidLooks := .later }
def RunsPeeksCardSaid : Prop := Claim7.holds Tryz.pinned (.plain (OpenSpec.ofChange runsPeeksSpec)) runsPeeksCard

/-- THE TIED CARD OF 'texttoolslaw23.MergePlans'. -/
def mergePlansCard : Claim7 := { stood := { row := mergePlansRow, standIns := [], harness := (true, "5ba42a038bd804192f96848c82bf0ea2846e5368e9273cd5fafcb5131bedb03d"), looks := false }, kinds := [], alts := [], laidByText := true, laidKinds := [.data, .data, .data, .data, .data, .pinned], laidTests := true, laidLooks := .later }
def MergePlansCardSaid : Prop := Claim7.holds Tryz.pinned (.plain (OpenSpec.ofChange mergePlansSpec)) mergePlansCard

/-- THE TIED CARD OF 'texttoolslaw23.MergeGroups'. -/
def mergeGroupsCard : Claim7 := { stood := { row := mergeGroupsRow, standIns := [], harness := (true, "5ba42a038bd804192f96848c82bf0ea2846e5368e9273cd5fafcb5131bedb03d"), looks := false }, kinds := [], alts := [], laidByText := true, laidKinds := [.data, .data, .data, .data, .data, .pinned], laidTests := true, laidLooks := .later }
def MergeGroupsCardSaid : Prop := Claim7.holds Tryz.pinned (.plain (OpenSpec.ofChange mergeGroupsSpec)) mergeGroupsCard

/-- THE TIED CARD OF 'texttoolslaw23.MergeNexts'. -/
def mergeNextsCard : Claim7 := { stood := { row := mergeNextsRow, standIns := [], harness := (true, "5ba42a038bd804192f96848c82bf0ea2846e5368e9273cd5fafcb5131bedb03d"), looks := false }, kinds := [], alts := [], laidByText := true, laidKinds := [.data, .data, .data, .data, .data, .pinned], laidTests := true, laidLooks := .later }
def MergeNextsCardSaid : Prop := Claim7.holds Tryz.pinned (.plain (OpenSpec.ofChange mergeNextsSpec)) mergeNextsCard

/-- THE TIED CARD OF 'texttoolslaw23.MergeOrders'. -/
def mergeOrdersCard : Claim7 := { stood := { row := mergeOrdersRow, standIns := [], harness := (true, "5ba42a038bd804192f96848c82bf0ea2846e5368e9273cd5fafcb5131bedb03d"), looks := false }, kinds := [], alts := [], laidByText := true, laidKinds := [.data, .data, .data, .data, .data, .pinned], laidTests := true, laidLooks := .later }
def MergeOrdersCardSaid : Prop := Claim7.holds Tryz.pinned (.plain (OpenSpec.ofChange mergeOrdersSpec)) mergeOrdersCard

/-- THE TIED CARD OF 'texttoolslaw22.RunsWrites'. -/
def runsWritesCard : Claim7 := { stood := { row := runsWritesRow, standIns := [], harness := (true, "5ba42a038bd804192f96848c82bf0ea2846e5368e9273cd5fafcb5131bedb03d"), looks := false }, kinds := [], alts := [], laidByText := true, laidKinds := [.data, .data, .data, .data, .data, .pinned], laidTests := true, laidLooks := .later }
def RunsWritesCardSaid : Prop := Claim7.holds Tryz.pinned (.plain (OpenSpec.ofChange runsWritesSpec)) runsWritesCard

/-- THE TIED CARD OF 'texttoolslaw23.MergeFails'. -/
def mergeFailsCard : Claim7 := { stood := { row := mergeFailsRow, standIns := [], harness := (true, "5ba42a038bd804192f96848c82bf0ea2846e5368e9273cd5fafcb5131bedb03d"), looks := false }, kinds := [], alts := [], laidByText := true, laidKinds := [.data, .data, .data, .data, .data, .pinned], laidTests := true, laidLooks := .later }
def MergeFailsCardSaid : Prop := Claim7.holds Tryz.pinned (.plain (OpenSpec.ofChange mergeFailsSpec)) mergeFailsCard

/-- THE TIED CARD OF 'texttoolslaw23.MergeFiles'. -/
def mergeFilesCard : Claim7 := { stood := { row := mergeFilesRow, standIns := [], harness := (true, "5ba42a038bd804192f96848c82bf0ea2846e5368e9273cd5fafcb5131bedb03d"), looks := false }, kinds := [], alts := [], laidByText := true, laidKinds := [.data, .data, .data, .data, .data, .pinned], laidTests := true, laidLooks := .later }
def MergeFilesCardSaid : Prop := Claim7.holds Tryz.pinned (.plain (OpenSpec.ofChange mergeFilesSpec)) mergeFilesCard

/-- THE SECOND FORM's CARD OF 'texttoolslaw21.MemsortMerges'. -/
def memsortMergesUptoCard : Claim7 := { stood := { row := memsortMergesUptoRow, standIns := [], harness := (true, "5ba42a038bd804192f96848c82bf0ea2846e5368e9273cd5fafcb5131bedb03d"), looks := false }, kinds := [], alts := [], laidByText := true, laidKinds := [.data, .pinned], laidTests := true, laidLooks := .later }
def MemsortMergesUptoCardSaid : Prop := Claim7.holds Tryz.pinned (.plain (OpenSpec.upto memsortMergesSpec)) memsortMergesUptoCard

/-- THE SECOND FORM's CARD OF 'texttoolslaw22.RunsSplits'. -/
def runsSplitsUptoCard : Claim7 := { stood := { row := runsSplitsUptoRow, standIns := [], harness := (true, "5ba42a038bd804192f96848c82bf0ea2846e5368e9273cd5fafcb5131bedb03d"), looks := false }, kinds := [], alts := [], laidByText := true, laidKinds := [.data, .data, .data, .data, .data, .pinned], laidTests := true, laidLooks := .later }
def RunsSplitsUptoCardSaid : Prop := Claim7.holds Tryz.pinned (.plain (OpenSpec.upto runsSplitsSpec)) runsSplitsUptoCard

/-- THE SECOND FORM's CARD OF 'texttoolslaw22.RunsDivide'. -/
def runsDivideUptoCard : Claim7 := { stood := { row := runsDivideUptoRow, standIns := [], harness := (true, "5ba42a038bd804192f96848c82bf0ea2846e5368e9273cd5fafcb5131bedb03d"), looks := false }, kinds := [], alts := [], laidByText := true, laidKinds := [.data, .data, .data, .data, .data, .pinned], laidTests := true, laidLooks := .later }
def RunsDivideUptoCardSaid : Prop := Claim7.holds Tryz.pinned (.plain (OpenSpec.upto runsDivideSpec)) runsDivideUptoCard

/-- THE SECOND FORM's CARD OF 'texttoolslaw22.RunsSort'. -/
def runsSortUptoCard : Claim7 := { stood := { row := runsSortUptoRow, standIns := [], harness := (true, "5ba42a038bd804192f96848c82bf0ea2846e5368e9273cd5fafcb5131bedb03d"), looks := false }, kinds := [], alts := [], laidByText := true, laidKinds := [.data, .data, .data, .data, .data, .pinned], laidTests := true, laidLooks := .later }
def RunsSortUptoCardSaid : Prop := Claim7.holds Tryz.pinned (.plain (OpenSpec.upto runsSortSpec)) runsSortUptoCard

/-- THE SECOND FORM's CARD OF 'texttoolslaw22.RunsPeeks'. -/
def runsPeeksUptoCard : Claim7 := { stood := { row := runsPeeksUptoRow, standIns := [], harness := (true, "5ba42a038bd804192f96848c82bf0ea2846e5368e9273cd5fafcb5131bedb03d"), looks := false }, kinds := [], alts := [], laidByText := true, laidKinds := [.data, .data, .data, .data, .data, .pinned], laidTests := true, laidLooks := .later }
def RunsPeeksUptoCardSaid : Prop := Claim7.holds Tryz.pinned (.plain (OpenSpec.upto runsPeeksSpec)) runsPeeksUptoCard

/-- THE SECOND FORM's CARD OF 'texttoolslaw23.MergePlans'. -/
def mergePlansUptoCard : Claim7 := { stood := { row := mergePlansUptoRow, standIns := [], harness := (true, "5ba42a038bd804192f96848c82bf0ea2846e5368e9273cd5fafcb5131bedb03d"), looks := false }, kinds := [], alts := [], laidByText := true, laidKinds := [.data, .data, .data, .data, .data, .pinned], laidTests := true, laidLooks := .later }
def MergePlansUptoCardSaid : Prop := Claim7.holds Tryz.pinned (.plain (OpenSpec.upto mergePlansSpec)) mergePlansUptoCard

/-- THE SECOND FORM's CARD OF 'texttoolslaw23.MergeGroups'. -/
def mergeGroupsUptoCard : Claim7 := { stood := { row := mergeGroupsUptoRow, standIns := [], harness := (true, "5ba42a038bd804192f96848c82bf0ea2846e5368e9273cd5fafcb5131bedb03d"), looks := false }, kinds := [], alts := [], laidByText := true, laidKinds := [.data, .data, .data, .data, .data, .pinned], laidTests := true, laidLooks := .later }
def MergeGroupsUptoCardSaid : Prop := Claim7.holds Tryz.pinned (.plain (OpenSpec.upto mergeGroupsSpec)) mergeGroupsUptoCard

/-- THE SECOND FORM's CARD OF 'texttoolslaw23.MergeNexts'. -/
def mergeNextsUptoCard : Claim7 := { stood := { row := mergeNextsUptoRow, standIns := [], harness := (true, "5ba42a038bd804192f96848c82bf0ea2846e5368e9273cd5fafcb5131bedb03d"), looks := false }, kinds := [], alts := [], laidByText := true, laidKinds := [.data, .data, .data, .data, .data, .pinned], laidTests := true, laidLooks := .later }
def MergeNextsUptoCardSaid : Prop := Claim7.holds Tryz.pinned (.plain (OpenSpec.upto mergeNextsSpec)) mergeNextsUptoCard

/-- THE SECOND FORM's CARD OF 'texttoolslaw23.MergeOrders'. -/
def mergeOrdersUptoCard : Claim7 := { stood := { row := mergeOrdersUptoRow, standIns := [], harness := (true, "5ba42a038bd804192f96848c82bf0ea2846e5368e9273cd5fafcb5131bedb03d"), looks := false }, kinds := [], alts := [], laidByText := true, laidKinds := [.data, .data, .data, .data, .data, .pinned], laidTests := true, laidLooks := .later }
def MergeOrdersUptoCardSaid : Prop := Claim7.holds Tryz.pinned (.plain (OpenSpec.upto mergeOrdersSpec)) mergeOrdersUptoCard

/-- THE SECOND FORM's CARD OF 'texttoolslaw22.RunsWrites'. -/
def runsWritesUptoCard : Claim7 := { stood := { row := runsWritesUptoRow, standIns := [], harness := (true, "5ba42a038bd804192f96848c82bf0ea2846e5368e9273cd5fafcb5131bedb03d"), looks := false }, kinds := [], alts := [], laidByText := true, laidKinds := [.data, .data, .data, .data, .data, .pinned], laidTests := true, laidLooks := .later }
def RunsWritesUptoCardSaid : Prop := Claim7.holds Tryz.pinned (.plain (OpenSpec.upto runsWritesSpec)) runsWritesUptoCard

/-- THE SECOND FORM's CARD OF 'texttoolslaw23.MergeFails'. -/
def mergeFailsUptoCard : Claim7 := { stood := { row := mergeFailsUptoRow, standIns := [], harness := (true, "5ba42a038bd804192f96848c82bf0ea2846e5368e9273cd5fafcb5131bedb03d"), looks := false }, kinds := [], alts := [], laidByText := true, laidKinds := [.data, .data, .data, .data, .data, .pinned], laidTests := true, laidLooks := .later }
def MergeFailsUptoCardSaid : Prop := Claim7.holds Tryz.pinned (.plain (OpenSpec.upto mergeFailsSpec)) mergeFailsUptoCard

/-- THE SECOND FORM's CARD OF 'texttoolslaw23.MergeFiles'. -/
def mergeFilesUptoCard : Claim7 := { stood := { row := mergeFilesUptoRow, standIns := [], harness := (true, "5ba42a038bd804192f96848c82bf0ea2846e5368e9273cd5fafcb5131bedb03d"), looks := false }, kinds := [], alts := [], laidByText := true, laidKinds := [.data, .data, .data, .data, .data, .pinned], laidTests := true, laidLooks := .later }
def MergeFilesUptoCardSaid : Prop := Claim7.holds Tryz.pinned (.plain (OpenSpec.upto mergeFilesSpec)) mergeFilesUptoCard
end Rows
end Go.Proofs.YtehanadfidoodaaGreatDoor
