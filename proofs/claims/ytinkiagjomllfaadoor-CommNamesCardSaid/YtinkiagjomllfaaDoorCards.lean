/-
  DERIVED. GIVEN WITH THE SEED: THE CARDS: each row of YtinkiagjomllfaaDoorRows.lean that lists a variable, with what it lists TIED to the program's text (the seventh form; the later family's looks); each row that meets fmt, with fmt's text TOLD by the authors' own Lean function (tested against real Go, not proved from fmt's source: count such statements apart). THE CARD IS WHAT COUNTS. Prove the row's statement (the work); the ties are given (YtinkiagjomllfaaDoorTie.lean); close each card by the builder's one call (the guide's Derived/Test/ToyasCard.lean, 'card_holds'). Laid BY PROGRAM, IN A SANDBOX (cutbox-door.mjs). By AI agents, Wed Nov 11 2026. No macro, syntax, notation, axiom, sorry.
-/
import Derived.Test.YtinkiagjomllfaaDoorRows
import GoSem.ClaimSeven
namespace Go.Proofs.YtinkiagjomllfaaDoor
namespace Rows

/-- THE TIED CARD OF 'leafmeshlaw03.CommNames'. -/
def commNamesCard : Claim7 := { stood := { row := commNamesRow, standIns := [], harness := (true, "206fe40704bc2acb1df69f0ffdb96e769c9d1824b15a53500abac433fb8df078"), looks := false }, kinds := [], alts := [], laidByText := true, laidKinds := [.data], laidTests := true, laidLooks := .later }
def CommNamesCardSaid : Prop := Claim7.holds Tryd.pinned (.plain (OpenSpec.ofChange commNamesSpec)) commNamesCard

/-- THE SECOND FORM's CARD OF 'leafmeshlaw03.CommNames'. -/
def commNamesUptoCard : Claim7 := { stood := { row := commNamesUptoRow, standIns := [], harness := (true, "206fe40704bc2acb1df69f0ffdb96e769c9d1824b15a53500abac433fb8df078"), looks := false }, kinds := [], alts := [], laidByText := true, laidKinds := [.data], laidTests := true, laidLooks := .later }
def CommNamesUptoCardSaid : Prop := Claim7.holds Tryd.pinned (.plain (OpenSpec.upto commNamesSpec)) commNamesUptoCard
end Rows
end Go.Proofs.YtinkiagjomllfaaDoor
