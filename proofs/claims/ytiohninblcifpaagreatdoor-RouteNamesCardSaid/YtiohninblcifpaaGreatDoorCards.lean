/-
  DERIVED. GIVEN WITH THE SEED: THE CARDS: each row of YtiohninblcifpaaGreatDoorRows.lean that lists a variable, with what it lists TIED to the program's text (the seventh form; the later family's looks); each row that meets fmt, with fmt's text TOLD by the authors' own Lean function (tested against real Go, not proved from fmt's source: count such statements apart). THE CARD IS WHAT COUNTS. Prove the row's statement (the work); the ties are given (YtiohninblcifpaaGreatDoorTie.lean); close each card by the builder's one call (the guide's Derived/Test/ToyasCard.lean, 'card_holds'). Laid BY PROGRAM, IN A SANDBOX (cutbox-door.mjs). By AI agents, Wed Nov 11 2026. No macro, syntax, notation, axiom, sorry.
-/
import Derived.Test.YtiohninblcifpaaGreatDoorRows
import GoSem.ClaimSeven
namespace Go.Proofs.YtiohninblcifpaaGreatDoor
namespace Rows

/-- THE TIED CARD OF 'leafmeshlaw30.RouteOrder'. -/
def routeOrderCard : Claim7 := { stood := { row := routeOrderRow, standIns := [], harness := (true, "0a68e8c35120c006a96fa17534d220dedf32860093ea991807400095b2251496"), looks := true }, kinds := [], alts := [], laidByText := true, laidKinds := [.data], laidTests := true, laidLooks := .later }
def RouteOrderCardSaid : Prop := Claim7.holds Tryz.pinned (.plain (OpenSpec.ofChange routeOrderSpec)) routeOrderCard

/-- THE TIED CARD OF 'leafmeshlaw30.RouteApart'. -/
def routeApartCard : Claim7 := { stood := { row := routeApartRow, standIns := [], harness := (true, "0a68e8c35120c006a96fa17534d220dedf32860093ea991807400095b2251496"), looks := true }, kinds := [], alts := [], laidByText := true, laidKinds := [.data], laidTests := true, laidLooks := .later }
def RouteApartCardSaid : Prop := Claim7.holds Tryz.pinned (.plain (OpenSpec.ofChange routeApartSpec)) routeApartCard

/-- THE TIED CARD OF 'leafmeshlaw30.RouteLeaks'. -/
def routeLeaksCard : Claim7 := { stood := { row := routeLeaksRow, standIns := [], harness := (true, "0a68e8c35120c006a96fa17534d220dedf32860093ea991807400095b2251496"), looks := true }, kinds := [], alts := [], laidByText := true, laidKinds := [.data], laidTests := true, laidLooks := .later }
def RouteLeaksCardSaid : Prop := Claim7.holds Tryz.pinned (.plain (OpenSpec.ofChange routeLeaksSpec)) routeLeaksCard

/-- THE TIED CARD OF 'leafmeshlaw30.RouteHosts'. -/
def routeHostsCard : Claim7 := { stood := { row := routeHostsRow, standIns := [], harness := (true, "0a68e8c35120c006a96fa17534d220dedf32860093ea991807400095b2251496"), looks := true }, kinds := [], alts := [], laidByText := true, laidKinds := [.data], laidTests := true, laidLooks := .later }
def RouteHostsCardSaid : Prop := Claim7.holds Tryz.pinned (.plain (OpenSpec.ofChange routeHostsSpec)) routeHostsCard

/-- THE TIED CARD OF 'leafmeshlaw30.RouteCalls'. -/
def routeCallsCard : Claim7 := { stood := { row := routeCallsRow, standIns := [], harness := (true, "0a68e8c35120c006a96fa17534d220dedf32860093ea991807400095b2251496"), looks := true }, kinds := [], alts := [], laidByText := true, laidKinds := [.data], laidTests := true, laidLooks := .later }
def RouteCallsCardSaid : Prop := Claim7.holds Tryz.pinned (.plain (OpenSpec.ofChange routeCallsSpec)) routeCallsCard

/-- THE TIED CARD OF 'leafmeshlaw30.RouteNames'. -/
def routeNamesCard : Claim7 := { stood := { row := routeNamesRow, standIns := [], harness := (true, "0a68e8c35120c006a96fa17534d220dedf32860093ea991807400095b2251496"), looks := true }, kinds := [], alts := [], laidByText := true, laidKinds := [.data], laidTests := true, laidLooks := .later }
def RouteNamesCardSaid : Prop := Claim7.holds Tryz.pinned (.plain (OpenSpec.ofChange routeNamesSpec)) routeNamesCard

/-- THE TIED CARD OF 'leafmeshlaw29.NeighOne'. -/
def neighOneCard : Claim7 := { stood := { row := neighOneRow, standIns := [], harness := (true, "0a68e8c35120c006a96fa17534d220dedf32860093ea991807400095b2251496"), looks := true }, kinds := [], alts := [], laidByText := true, laidKinds := [.data], laidTests := true, laidLooks := .later }
def NeighOneCardSaid : Prop := Claim7.holds Tryz.pinned (.plain (OpenSpec.ofChange neighOneSpec)) neighOneCard

/-- THE TIED CARD OF 'leafmeshlaw29.NeighKnown'. -/
def neighKnownCard : Claim7 := { stood := { row := neighKnownRow, standIns := [], harness := (true, "0a68e8c35120c006a96fa17534d220dedf32860093ea991807400095b2251496"), looks := true }, kinds := [], alts := [], laidByText := true, laidKinds := [.data], laidTests := true, laidLooks := .later }
def NeighKnownCardSaid : Prop := Claim7.holds Tryz.pinned (.plain (OpenSpec.ofChange neighKnownSpec)) neighKnownCard

/-- THE SECOND FORM's CARD OF 'leafmeshlaw30.RouteOrder'. -/
def routeOrderUptoCard : Claim7 := { stood := { row := routeOrderUptoRow, standIns := [], harness := (true, "0a68e8c35120c006a96fa17534d220dedf32860093ea991807400095b2251496"), looks := true }, kinds := [], alts := [], laidByText := true, laidKinds := [.data], laidTests := true, laidLooks := .later }
def RouteOrderUptoCardSaid : Prop := Claim7.holds Tryz.pinned (.plain (OpenSpec.upto routeOrderSpec)) routeOrderUptoCard

/-- THE SECOND FORM's CARD OF 'leafmeshlaw30.RouteApart'. -/
def routeApartUptoCard : Claim7 := { stood := { row := routeApartUptoRow, standIns := [], harness := (true, "0a68e8c35120c006a96fa17534d220dedf32860093ea991807400095b2251496"), looks := true }, kinds := [], alts := [], laidByText := true, laidKinds := [.data], laidTests := true, laidLooks := .later }
def RouteApartUptoCardSaid : Prop := Claim7.holds Tryz.pinned (.plain (OpenSpec.upto routeApartSpec)) routeApartUptoCard

/-- THE SECOND FORM's CARD OF 'leafmeshlaw30.RouteLeaks'. -/
def routeLeaksUptoCard : Claim7 := { stood := { row := routeLeaksUptoRow, standIns := [], harness := (true, "0a68e8c35120c006a96fa17534d220dedf32860093ea991807400095b2251496"), looks := true }, kinds := [], alts := [], laidByText := true, laidKinds := [.data], laidTests := true, laidLooks := .later }
def RouteLeaksUptoCardSaid : Prop := Claim7.holds Tryz.pinned (.plain (OpenSpec.upto routeLeaksSpec)) routeLeaksUptoCard

/-- THE SECOND FORM's CARD OF 'leafmeshlaw30.RouteHosts'. -/
def routeHostsUptoCard : Claim7 := { stood := { row := routeHostsUptoRow, standIns := [], harness := (true, "0a68e8c35120c006a96fa17534d220dedf32860093ea991807400095b2251496"), looks := true }, kinds := [], alts := [], laidByText := true, laidKinds := [.data], laidTests := true, laidLooks := .later }
def RouteHostsUptoCardSaid : Prop := Claim7.holds Tryz.pinned (.plain (OpenSpec.upto routeHostsSpec)) routeHostsUptoCard

/-- THE SECOND FORM's CARD OF 'leafmeshlaw30.RouteCalls'. -/
def routeCallsUptoCard : Claim7 := { stood := { row := routeCallsUptoRow, standIns := [], harness := (true, "0a68e8c35120c006a96fa17534d220dedf32860093ea991807400095b2251496"), looks := true }, kinds := [], alts := [], laidByText := true, laidKinds := [.data], laidTests := true, laidLooks := .later }
def RouteCallsUptoCardSaid : Prop := Claim7.holds Tryz.pinned (.plain (OpenSpec.upto routeCallsSpec)) routeCallsUptoCard

/-- THE SECOND FORM's CARD OF 'leafmeshlaw30.RouteNames'. -/
def routeNamesUptoCard : Claim7 := { stood := { row := routeNamesUptoRow, standIns := [], harness := (true, "0a68e8c35120c006a96fa17534d220dedf32860093ea991807400095b2251496"), looks := true }, kinds := [], alts := [], laidByText := true, laidKinds := [.data], laidTests := true, laidLooks := .later }
def RouteNamesUptoCardSaid : Prop := Claim7.holds Tryz.pinned (.plain (OpenSpec.upto routeNamesSpec)) routeNamesUptoCard

/-- THE SECOND FORM's CARD OF 'leafmeshlaw29.NeighOne'. -/
def neighOneUptoCard : Claim7 := { stood := { row := neighOneUptoRow, standIns := [], harness := (true, "0a68e8c35120c006a96fa17534d220dedf32860093ea991807400095b2251496"), looks := true }, kinds := [], alts := [], laidByText := true, laidKinds := [.data], laidTests := true, laidLooks := .later }
def NeighOneUptoCardSaid : Prop := Claim7.holds Tryz.pinned (.plain (OpenSpec.upto neighOneSpec)) neighOneUptoCard

/-- THE SECOND FORM's CARD OF 'leafmeshlaw29.NeighKnown'. -/
def neighKnownUptoCard : Claim7 := { stood := { row := neighKnownUptoRow, standIns := [], harness := (true, "0a68e8c35120c006a96fa17534d220dedf32860093ea991807400095b2251496"), looks := true }, kinds := [], alts := [], laidByText := true, laidKinds := [.data], laidTests := true, laidLooks := .later }
def NeighKnownUptoCardSaid : Prop := Claim7.holds Tryz.pinned (.plain (OpenSpec.upto neighKnownSpec)) neighKnownUptoCard
end Rows
end Go.Proofs.YtiohninblcifpaaGreatDoor
