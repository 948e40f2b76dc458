/-
  DERIVED. GIVEN WITH THE SEED: THE CARDS: each row of YtpgpmlaafigpaaaGreatDoorRows.lean that lists a variable, with what it lists TIED to the program's text (the seventh form; the later family's looks); each row that meets fmt, with fmt's text TOLD by the authors' own Lean function (tested against real Go, not proved from fmt's source: count such statements apart). THE CARD IS WHAT COUNTS. Prove the row's statement (the work); the ties are given (YtpgpmlaafigpaaaGreatDoorTie.lean); close each card by the builder's one call (the guide's Derived/Test/ToyasCard.lean, 'card_holds'). Laid BY PROGRAM, IN A SANDBOX (cutbox-door.mjs). By AI agents, Wed Nov 11 2026. No macro, syntax, notation, axiom, sorry.
-/
import Derived.Test.YtpgpmlaafigpaaaGreatDoorRows
import GoSem.ClaimSeven
namespace Go.Proofs.YtpgpmlaafigpaaaGreatDoor
namespace Rows

/-- THE TIED CARD OF 'leafmeshlaw19.PolicyImports'. -/
def policyImportsCard : Claim7 := { stood := { row := policyImportsRow, standIns := [], harness := (true, "144908da539b18055be48f34322dc81a22d74cbab04a5304db9b6488cb8187ca"), looks := true }, kinds := [], alts := [], laidByText := true, laidKinds := [.data], laidTests := true, laidLooks := .later }
def PolicyImportsCardSaid : Prop := Claim7.holds Tryz.pinned (.plain (OpenSpec.ofChange policyImportsSpec)) policyImportsCard

/-- THE TIED CARD OF 'leafmeshlaw19.PolicyNames'. -/
def policyNamesCard : Claim7 := { stood := { row := policyNamesRow, standIns := [], harness := (true, "144908da539b18055be48f34322dc81a22d74cbab04a5304db9b6488cb8187ca"), looks := true }, kinds := [], alts := [], laidByText := true, laidKinds := [.data], laidTests := true, laidLooks := .later }
def PolicyNamesCardSaid : Prop := Claim7.holds Tryz.pinned (.plain (OpenSpec.ofChange policyNamesSpec)) policyNamesCard

/-- THE TIED CARD OF 'leafmeshlaw19.PolicyCalls'. -/
def policyCallsCard : Claim7 := { stood := { row := policyCallsRow, standIns := [], harness := (true, "144908da539b18055be48f34322dc81a22d74cbab04a5304db9b6488cb8187ca"), looks := true }, kinds := [], alts := [], laidByText := true, laidKinds := [.data], laidTests := true, laidLooks := .later }
def PolicyCallsCardSaid : Prop := Claim7.holds Tryz.pinned (.plain (OpenSpec.ofChange policyCallsSpec)) policyCallsCard

/-- THE TIED CARD OF 'leafmeshlaw30.RouteLongest'. -/
def routeLongestCard : Claim7 := { stood := { row := routeLongestRow, standIns := [], harness := (true, "144908da539b18055be48f34322dc81a22d74cbab04a5304db9b6488cb8187ca"), looks := true }, kinds := [], alts := [], laidByText := true, laidKinds := [.data], laidTests := true, laidLooks := .later }
def RouteLongestCardSaid : Prop := Claim7.holds Tryz.pinned (.plain (OpenSpec.ofChange routeLongestSpec)) routeLongestCard

/-- THE TIED CARD OF 'leafmeshlaw30.RouteNames'. -/
def routeNamesCard : Claim7 := { stood := { row := routeNamesRow, standIns := [], harness := (true, "144908da539b18055be48f34322dc81a22d74cbab04a5304db9b6488cb8187ca"), looks := true }, kinds := [], alts := [], laidByText := true, laidKinds := [.data], laidTests := true, laidLooks := .later }
def RouteNamesCardSaid : Prop := Claim7.holds Tryz.pinned (.plain (OpenSpec.ofChange routeNamesSpec)) routeNamesCard

/-- THE TIED CARD OF 'leafmeshlaw30.RouteHosts'. -/
def routeHostsCard : Claim7 := { stood := { row := routeHostsRow, standIns := [], harness := (true, "144908da539b18055be48f34322dc81a22d74cbab04a5304db9b6488cb8187ca"), looks := true }, kinds := [], alts := [], laidByText := true, laidKinds := [.data], laidTests := true, laidLooks := .later }
def RouteHostsCardSaid : Prop := Claim7.holds Tryz.pinned (.plain (OpenSpec.ofChange routeHostsSpec)) routeHostsCard

/-- THE TIED CARD OF 'leafmeshlaw29.NeighNames'. -/
def neighNamesCard : Claim7 := { stood := { row := neighNamesRow, standIns := [], harness := (true, "144908da539b18055be48f34322dc81a22d74cbab04a5304db9b6488cb8187ca"), looks := true }, kinds := [], alts := [], laidByText := true, laidKinds := [.data], laidTests := true, laidLooks := .later }
def NeighNamesCardSaid : Prop := Claim7.holds Tryz.pinned (.plain (OpenSpec.ofChange neighNamesSpec)) neighNamesCard

/-- THE TIED CARD OF 'leafmeshlaw29.NeighNewest'. -/
def neighNewestCard : Claim7 := { stood := { row := neighNewestRow, standIns := [], harness := (true, "144908da539b18055be48f34322dc81a22d74cbab04a5304db9b6488cb8187ca"), looks := true }, kinds := [], alts := [], laidByText := true, laidKinds := [.data], laidTests := true, laidLooks := .later }
def NeighNewestCardSaid : Prop := Claim7.holds Tryz.pinned (.plain (OpenSpec.ofChange neighNewestSpec)) neighNewestCard

/-- THE TIED CARD OF 'leafmeshlaw32.OriginNames'. -/
def originNamesCard : Claim7 := { stood := { row := originNamesRow, standIns := [], harness := (true, "144908da539b18055be48f34322dc81a22d74cbab04a5304db9b6488cb8187ca"), looks := true }, kinds := [], alts := [], laidByText := true, laidKinds := [.data], laidTests := true, laidLooks := .later }
def OriginNamesCardSaid : Prop := Claim7.holds Tryz.pinned (.plain (OpenSpec.ofChange originNamesSpec)) originNamesCard

/-- THE TIED CARD OF 'leafmeshlaw32.OriginEntry'. -/
def originEntryCard : Claim7 := { stood := { row := originEntryRow, standIns := [], harness := (true, "144908da539b18055be48f34322dc81a22d74cbab04a5304db9b6488cb8187ca"), looks := true }, kinds := [], alts := [], laidByText := true, laidKinds := [.data], laidTests := true, laidLooks := .later }
def OriginEntryCardSaid : Prop := Claim7.holds Tryz.pinned (.plain (OpenSpec.ofChange originEntrySpec)) originEntryCard

/-- THE SECOND FORM's CARD OF 'leafmeshlaw19.PolicyImports'. -/
def policyImportsUptoCard : Claim7 := { stood := { row := policyImportsUptoRow, standIns := [], harness := (true, "144908da539b18055be48f34322dc81a22d74cbab04a5304db9b6488cb8187ca"), looks := true }, kinds := [], alts := [], laidByText := true, laidKinds := [.data], laidTests := true, laidLooks := .later }
def PolicyImportsUptoCardSaid : Prop := Claim7.holds Tryz.pinned (.plain (OpenSpec.upto policyImportsSpec)) policyImportsUptoCard

/-- THE SECOND FORM's CARD OF 'leafmeshlaw19.PolicyNames'. -/
def policyNamesUptoCard : Claim7 := { stood := { row := policyNamesUptoRow, standIns := [], harness := (true, "144908da539b18055be48f34322dc81a22d74cbab04a5304db9b6488cb8187ca"), looks := true }, kinds := [], alts := [], laidByText := true, laidKinds := [.data], laidTests := true, laidLooks := .later }
def PolicyNamesUptoCardSaid : Prop := Claim7.holds Tryz.pinned (.plain (OpenSpec.upto policyNamesSpec)) policyNamesUptoCard

/-- THE SECOND FORM's CARD OF 'leafmeshlaw19.PolicyCalls'. -/
def policyCallsUptoCard : Claim7 := { stood := { row := policyCallsUptoRow, standIns := [], harness := (true, "144908da539b18055be48f34322dc81a22d74cbab04a5304db9b6488cb8187ca"), looks := true }, kinds := [], alts := [], laidByText := true, laidKinds := [.data], laidTests := true, laidLooks := .later }
def PolicyCallsUptoCardSaid : Prop := Claim7.holds Tryz.pinned (.plain (OpenSpec.upto policyCallsSpec)) policyCallsUptoCard

/-- THE SECOND FORM's CARD OF 'leafmeshlaw30.RouteLongest'. -/
def routeLongestUptoCard : Claim7 := { stood := { row := routeLongestUptoRow, standIns := [], harness := (true, "144908da539b18055be48f34322dc81a22d74cbab04a5304db9b6488cb8187ca"), looks := true }, kinds := [], alts := [], laidByText := true, laidKinds := [.data], laidTests := true, laidLooks := .later }
def RouteLongestUptoCardSaid : Prop := Claim7.holds Tryz.pinned (.plain (OpenSpec.upto routeLongestSpec)) routeLongestUptoCard

/-- THE SECOND FORM's CARD OF 'leafmeshlaw30.RouteNames'. -/
def routeNamesUptoCard : Claim7 := { stood := { row := routeNamesUptoRow, standIns := [], harness := (true, "144908da539b18055be48f34322dc81a22d74cbab04a5304db9b6488cb8187ca"), looks := true }, kinds := [], alts := [], laidByText := true, laidKinds := [.data], laidTests := true, laidLooks := .later }
def RouteNamesUptoCardSaid : Prop := Claim7.holds Tryz.pinned (.plain (OpenSpec.upto routeNamesSpec)) routeNamesUptoCard

/-- THE SECOND FORM's CARD OF 'leafmeshlaw30.RouteHosts'. -/
def routeHostsUptoCard : Claim7 := { stood := { row := routeHostsUptoRow, standIns := [], harness := (true, "144908da539b18055be48f34322dc81a22d74cbab04a5304db9b6488cb8187ca"), looks := true }, kinds := [], alts := [], laidByText := true, laidKinds := [.data], laidTests := true, laidLooks := .later }
def RouteHostsUptoCardSaid : Prop := Claim7.holds Tryz.pinned (.plain (OpenSpec.upto routeHostsSpec)) routeHostsUptoCard

/-- THE SECOND FORM's CARD OF 'leafmeshlaw29.NeighNames'. -/
def neighNamesUptoCard : Claim7 := { stood := { row := neighNamesUptoRow, standIns := [], harness := (true, "144908da539b18055be48f34322dc81a22d74cbab04a5304db9b6488cb8187ca"), looks := true }, kinds := [], alts := [], laidByText := true, laidKinds := [.data], laidTests := true, laidLooks := .later }
def NeighNamesUptoCardSaid : Prop := Claim7.holds Tryz.pinned (.plain (OpenSpec.upto neighNamesSpec)) neighNamesUptoCard

/-- THE SECOND FORM's CARD OF 'leafmeshlaw29.NeighNewest'. -/
def neighNewestUptoCard : Claim7 := { stood := { row := neighNewestUptoRow, standIns := [], harness := (true, "144908da539b18055be48f34322dc81a22d74cbab04a5304db9b6488cb8187ca"), looks := true }, kinds := [], alts := [], laidByText := true, laidKinds := [.data], laidTests := true, laidLooks := .later }
def NeighNewestUptoCardSaid : Prop := Claim7.holds Tryz.pinned (.plain (OpenSpec.upto neighNewestSpec)) neighNewestUptoCard

/-- THE SECOND FORM's CARD OF 'leafmeshlaw32.OriginNames'. -/
def originNamesUptoCard : Claim7 := { stood := { row := originNamesUptoRow, standIns := [], harness := (true, "144908da539b18055be48f34322dc81a22d74cbab04a5304db9b6488cb8187ca"), looks := true }, kinds := [], alts := [], laidByText := true, laidKinds := [.data], laidTests := true, laidLooks := .later }
def OriginNamesUptoCardSaid : Prop := Claim7.holds Tryz.pinned (.plain (OpenSpec.upto originNamesSpec)) originNamesUptoCard

/-- THE SECOND FORM's CARD OF 'leafmeshlaw32.OriginEntry'. -/
def originEntryUptoCard : Claim7 := { stood := { row := originEntryUptoRow, standIns := [], harness := (true, "144908da539b18055be48f34322dc81a22d74cbab04a5304db9b6488cb8187ca"), looks := true }, kinds := [], alts := [], laidByText := true, laidKinds := [.data], laidTests := true, laidLooks := .later }
def OriginEntryUptoCardSaid : Prop := Claim7.holds Tryz.pinned (.plain (OpenSpec.upto originEntrySpec)) originEntryUptoCard
end Rows
end Go.Proofs.YtpgpmlaafigpaaaGreatDoor
