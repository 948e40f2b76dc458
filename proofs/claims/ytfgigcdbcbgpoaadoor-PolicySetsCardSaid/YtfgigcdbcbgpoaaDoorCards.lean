/-
  DERIVED. GIVEN WITH THE SEED: THE CARDS: each row of YtfgigcdbcbgpoaaDoorRows.lean that lists a variable, with what it lists TIED to the program's text (the seventh form; the later family's looks); each row that meets fmt, with fmt's text TOLD by the authors' own Lean function (tested against real Go, not proved from fmt's source: count such statements apart). THE CARD IS WHAT COUNTS. Prove the row's statement (the work); the ties are given (YtfgigcdbcbgpoaaDoorTie.lean); close each card by the builder's one call (the guide's Derived/Test/ToyasCard.lean, 'card_holds'). Laid BY PROGRAM, IN A SANDBOX (cutbox-door.mjs). By AI agents, Wed Nov 11 2026. No macro, syntax, notation, axiom, sorry.
-/
import Derived.Test.YtfgigcdbcbgpoaaDoorRows
import GoSem.ClaimSeven
namespace Go.Proofs.YtfgigcdbcbgpoaaDoor
namespace Rows

/-- THE TIED CARD OF 'leafmeshlaw03.CommTargets'. -/
def commTargetsCard : Claim7 := { stood := { row := commTargetsRow, standIns := [], harness := (true, "1afff0e97f116f24db800fe5d75ee547ac29080c61186cab5bdf6ae6a2e95c43"), looks := false }, kinds := [], alts := [], laidByText := true, laidKinds := [.data], laidTests := true, laidLooks := .later }
def CommTargetsCardSaid : Prop := Claim7.holds Tryd.pinned (.plain (OpenSpec.ofChange commTargetsSpec)) commTargetsCard

/-- THE TIED CARD OF 'leafmeshlaw03.CommCalls'. -/
def commCallsCard : Claim7 := { stood := { row := commCallsRow, standIns := [], harness := (true, "1afff0e97f116f24db800fe5d75ee547ac29080c61186cab5bdf6ae6a2e95c43"), looks := false }, kinds := [], alts := [], laidByText := true, laidKinds := [.data], laidTests := true, laidLooks := .later }
def CommCallsCardSaid : Prop := Claim7.holds Tryd.pinned (.plain (OpenSpec.ofChange commCallsSpec)) commCallsCard

/-- THE TIED CARD OF 'leafmeshlaw03.CommBack'. -/
def commBackCard : Claim7 := { stood := { row := commBackRow, standIns := [], harness := (true, "1afff0e97f116f24db800fe5d75ee547ac29080c61186cab5bdf6ae6a2e95c43"), looks := false }, kinds := [], alts := [], laidByText := true, laidKinds := [.data], laidTests := true, laidLooks := .later }
def CommBackCardSaid : Prop := Claim7.holds Tryd.pinned (.plain (OpenSpec.ofChange commBackSpec)) commBackCard

/-- THE TIED CARD OF 'leafmeshlaw03.CommSorts'. -/
def commSortsCard : Claim7 := { stood := { row := commSortsRow, standIns := [], harness := (true, "1afff0e97f116f24db800fe5d75ee547ac29080c61186cab5bdf6ae6a2e95c43"), looks := false }, kinds := [], alts := [], laidByText := true, laidKinds := [.data], laidTests := true, laidLooks := .later }
def CommSortsCardSaid : Prop := Claim7.holds Tryd.pinned (.plain (OpenSpec.ofChange commSortsSpec)) commSortsCard

/-- THE TIED CARD OF 'leafmeshlaw03.CommLists'. -/
def commListsCard : Claim7 := { stood := { row := commListsRow, standIns := [], harness := (true, "1afff0e97f116f24db800fe5d75ee547ac29080c61186cab5bdf6ae6a2e95c43"), looks := false }, kinds := [], alts := [], laidByText := true, laidKinds := [.data], laidTests := true, laidLooks := .later }
def CommListsCardSaid : Prop := Claim7.holds Tryd.pinned (.plain (OpenSpec.ofChange commListsSpec)) commListsCard

/-- THE TIED CARD OF 'leafmeshlaw19.PolicySets'. -/
def policySetsCard : Claim7 := { stood := { row := policySetsRow, standIns := [], harness := (true, "1afff0e97f116f24db800fe5d75ee547ac29080c61186cab5bdf6ae6a2e95c43"), looks := false }, kinds := [], alts := [], laidByText := true, laidKinds := [.data], laidTests := true, laidLooks := .later }
def PolicySetsCardSaid : Prop := Claim7.holds Tryd.pinned (.plain (OpenSpec.ofChange policySetsSpec)) policySetsCard

/-- THE TIED CARD OF 'leafmeshlaw19.PolicyFirst'. -/
def policyFirstCard : Claim7 := { stood := { row := policyFirstRow, standIns := [], harness := (true, "1afff0e97f116f24db800fe5d75ee547ac29080c61186cab5bdf6ae6a2e95c43"), looks := false }, kinds := [], alts := [], laidByText := true, laidKinds := [.data], laidTests := true, laidLooks := .later }
def PolicyFirstCardSaid : Prop := Claim7.holds Tryd.pinned (.plain (OpenSpec.ofChange policyFirstSpec)) policyFirstCard

/-- THE TIED CARD OF 'leafmeshlaw19.PolicyRanges'. -/
def policyRangesCard : Claim7 := { stood := { row := policyRangesRow, standIns := [], harness := (true, "1afff0e97f116f24db800fe5d75ee547ac29080c61186cab5bdf6ae6a2e95c43"), looks := false }, kinds := [], alts := [], laidByText := true, laidKinds := [.data], laidTests := true, laidLooks := .later }
def PolicyRangesCardSaid : Prop := Claim7.holds Tryd.pinned (.plain (OpenSpec.ofChange policyRangesSpec)) policyRangesCard

/-- THE SECOND FORM's CARD OF 'leafmeshlaw03.CommTargets'. -/
def commTargetsUptoCard : Claim7 := { stood := { row := commTargetsUptoRow, standIns := [], harness := (true, "1afff0e97f116f24db800fe5d75ee547ac29080c61186cab5bdf6ae6a2e95c43"), looks := false }, kinds := [], alts := [], laidByText := true, laidKinds := [.data], laidTests := true, laidLooks := .later }
def CommTargetsUptoCardSaid : Prop := Claim7.holds Tryd.pinned (.plain (OpenSpec.upto commTargetsSpec)) commTargetsUptoCard

/-- THE SECOND FORM's CARD OF 'leafmeshlaw03.CommCalls'. -/
def commCallsUptoCard : Claim7 := { stood := { row := commCallsUptoRow, standIns := [], harness := (true, "1afff0e97f116f24db800fe5d75ee547ac29080c61186cab5bdf6ae6a2e95c43"), looks := false }, kinds := [], alts := [], laidByText := true, laidKinds := [.data], laidTests := true, laidLooks := .later }
def CommCallsUptoCardSaid : Prop := Claim7.holds Tryd.pinned (.plain (OpenSpec.upto commCallsSpec)) commCallsUptoCard

/-- THE SECOND FORM's CARD OF 'leafmeshlaw03.CommBack'. -/
def commBackUptoCard : Claim7 := { stood := { row := commBackUptoRow, standIns := [], harness := (true, "1afff0e97f116f24db800fe5d75ee547ac29080c61186cab5bdf6ae6a2e95c43"), looks := false }, kinds := [], alts := [], laidByText := true, laidKinds := [.data], laidTests := true, laidLooks := .later }
def CommBackUptoCardSaid : Prop := Claim7.holds Tryd.pinned (.plain (OpenSpec.upto commBackSpec)) commBackUptoCard

/-- THE SECOND FORM's CARD OF 'leafmeshlaw03.CommSorts'. -/
def commSortsUptoCard : Claim7 := { stood := { row := commSortsUptoRow, standIns := [], harness := (true, "1afff0e97f116f24db800fe5d75ee547ac29080c61186cab5bdf6ae6a2e95c43"), looks := false }, kinds := [], alts := [], laidByText := true, laidKinds := [.data], laidTests := true, laidLooks := .later }
def CommSortsUptoCardSaid : Prop := Claim7.holds Tryd.pinned (.plain (OpenSpec.upto commSortsSpec)) commSortsUptoCard

/-- THE SECOND FORM's CARD OF 'leafmeshlaw03.CommLists'. -/
def commListsUptoCard : Claim7 := { stood := { row := commListsUptoRow, standIns := [], harness := (true, "1afff0e97f116f24db800fe5d75ee547ac29080c61186cab5bdf6ae6a2e95c43"), looks := false }, kinds := [], alts := [], laidByText := true, laidKinds := [.data], laidTests := true, laidLooks := .later }
def CommListsUptoCardSaid : Prop := Claim7.holds Tryd.pinned (.plain (OpenSpec.upto commListsSpec)) commListsUptoCard

/-- THE SECOND FORM's CARD OF 'leafmeshlaw19.PolicySets'. -/
def policySetsUptoCard : Claim7 := { stood := { row := policySetsUptoRow, standIns := [], harness := (true, "1afff0e97f116f24db800fe5d75ee547ac29080c61186cab5bdf6ae6a2e95c43"), looks := false }, kinds := [], alts := [], laidByText := true, laidKinds := [.data], laidTests := true, laidLooks := .later }
def PolicySetsUptoCardSaid : Prop := Claim7.holds Tryd.pinned (.plain (OpenSpec.upto policySetsSpec)) policySetsUptoCard

/-- THE SECOND FORM's CARD OF 'leafmeshlaw19.PolicyFirst'. -/
def policyFirstUptoCard : Claim7 := { stood := { row := policyFirstUptoRow, standIns := [], harness := (true, "1afff0e97f116f24db800fe5d75ee547ac29080c61186cab5bdf6ae6a2e95c43"), looks := false }, kinds := [], alts := [], laidByText := true, laidKinds := [.data], laidTests := true, laidLooks := .later }
def PolicyFirstUptoCardSaid : Prop := Claim7.holds Tryd.pinned (.plain (OpenSpec.upto policyFirstSpec)) policyFirstUptoCard

/-- THE SECOND FORM's CARD OF 'leafmeshlaw19.PolicyRanges'. -/
def policyRangesUptoCard : Claim7 := { stood := { row := policyRangesUptoRow, standIns := [], harness := (true, "1afff0e97f116f24db800fe5d75ee547ac29080c61186cab5bdf6ae6a2e95c43"), looks := false }, kinds := [], alts := [], laidByText := true, laidKinds := [.data], laidTests := true, laidLooks := .later }
def PolicyRangesUptoCardSaid : Prop := Claim7.holds Tryd.pinned (.plain (OpenSpec.upto policyRangesSpec)) policyRangesUptoCard
end Rows
end Go.Proofs.YtfgigcdbcbgpoaaDoor
