/-
  DERIVED. GIVEN WITH THE SEED: THE CARDS: each row of YtkhgidmiceneoaaGreatDoorRows.lean that lists a variable, with what it lists TIED to the program's text (the seventh form; the later family's looks); each row that meets fmt, with fmt's text TOLD by the authors' own Lean function (tested against real Go, not proved from fmt's source: count such statements apart). THE CARD IS WHAT COUNTS. Prove the row's statement (the work); the ties are given (YtkhgidmiceneoaaGreatDoorTie.lean); close each card by the builder's one call (the guide's Derived/Test/ToyasCard.lean, 'card_holds'). Laid BY PROGRAM, IN A SANDBOX (cutbox-door.mjs). By AI agents, Wed Nov 11 2026. No macro, syntax, notation, axiom, sorry.
-/
import Derived.Test.YtkhgidmiceneoaaGreatDoorRows
import GoSem.ClaimSeven
namespace Go.Proofs.YtkhgidmiceneoaaGreatDoor
namespace Rows

/-- THE TIED CARD OF 'leafmeshlaw26.AliasNames'. -/
def aliasNamesCard : Claim7 := { stood := { row := aliasNamesRow, standIns := [], harness := (true, "bc910b9e6d59fde8293981e89374a4cec7e86bb62a3920899c45ef43d100f4fb"), looks := true }, kinds := [], alts := [], laidByText := true, laidKinds := [.data], laidTests := true, laidLooks := .later }
def AliasNamesCardSaid : Prop := Claim7.holds Tryz.pinned (.plain (OpenSpec.ofChange aliasNamesSpec)) aliasNamesCard

/-- THE SECOND FORM's CARD OF 'leafmeshlaw26.AliasNames'. -/
def aliasNamesUptoCard : Claim7 := { stood := { row := aliasNamesUptoRow, standIns := [], harness := (true, "bc910b9e6d59fde8293981e89374a4cec7e86bb62a3920899c45ef43d100f4fb"), looks := true }, kinds := [], alts := [], laidByText := true, laidKinds := [.data], laidTests := true, laidLooks := .later }
def AliasNamesUptoCardSaid : Prop := Claim7.holds Tryz.pinned (.plain (OpenSpec.upto aliasNamesSpec)) aliasNamesUptoCard
end Rows
end Go.Proofs.YtkhgidmiceneoaaGreatDoor
