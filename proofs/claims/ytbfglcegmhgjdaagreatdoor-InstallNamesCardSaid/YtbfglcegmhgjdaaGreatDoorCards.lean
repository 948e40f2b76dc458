/-
  DERIVED. GIVEN WITH THE SEED: THE CARDS: each row of YtbfglcegmhgjdaaGreatDoorRows.lean that lists a variable, with what it lists TIED to the program's text (the seventh form; the later family's looks); each row that meets fmt, with fmt's text TOLD by the authors' own Lean function (tested against real Go, not proved from fmt's source: count such statements apart). THE CARD IS WHAT COUNTS. Prove the row's statement (the work); the ties are given (YtbfglcegmhgjdaaGreatDoorTie.lean); close each card by the builder's one call (the guide's Derived/Test/ToyasCard.lean, 'card_holds'). Laid BY PROGRAM, IN A SANDBOX (cutbox-door.mjs). By AI agents, Wed Nov 11 2026. No macro, syntax, notation, axiom, sorry.
-/
import Derived.Test.YtbfglcegmhgjdaaGreatDoorRows
import GoSem.ClaimSeven
namespace Go.Proofs.YtbfglcegmhgjdaaGreatDoor
namespace Rows

/-- THE TIED CARD OF 'leafmeshlaw33.InstallNames'. -/
def installNamesCard : Claim7 := { stood := { row := installNamesRow, standIns := [], harness := (true, "e74c198c081d96a28a2cedb984ea4ce7383658f5161bc2615fcef7fd5c3ba555"), looks := true }, kinds := [], alts := [], laidByText := true, laidKinds := [.data], laidTests := true, laidLooks := .later }
def InstallNamesCardSaid : Prop := Claim7.holds Tryz.pinned (.plain (OpenSpec.ofChange installNamesSpec)) installNamesCard

/-- THE SECOND FORM's CARD OF 'leafmeshlaw33.InstallNames'. -/
def installNamesUptoCard : Claim7 := { stood := { row := installNamesUptoRow, standIns := [], harness := (true, "e74c198c081d96a28a2cedb984ea4ce7383658f5161bc2615fcef7fd5c3ba555"), looks := true }, kinds := [], alts := [], laidByText := true, laidKinds := [.data], laidTests := true, laidLooks := .later }
def InstallNamesUptoCardSaid : Prop := Claim7.holds Tryz.pinned (.plain (OpenSpec.upto installNamesSpec)) installNamesUptoCard
end Rows
end Go.Proofs.YtbfglcegmhgjdaaGreatDoor
