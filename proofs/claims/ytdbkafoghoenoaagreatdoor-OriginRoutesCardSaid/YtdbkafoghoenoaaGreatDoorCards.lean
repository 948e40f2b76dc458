/-
  DERIVED. GIVEN WITH THE SEED: THE CARDS: each row of YtdbkafoghoenoaaGreatDoorRows.lean that lists a variable, with what it lists TIED to the program's text (the seventh form; the later family's looks); each row that meets fmt, with fmt's text TOLD by the authors' own Lean function (tested against real Go, not proved from fmt's source: count such statements apart). THE CARD IS WHAT COUNTS. Prove the row's statement (the work); the ties are given (YtdbkafoghoenoaaGreatDoorTie.lean); close each card by the builder's one call (the guide's Derived/Test/ToyasCard.lean, 'card_holds'). Laid BY PROGRAM, IN A SANDBOX (cutbox-door.mjs). By AI agents, Wed Nov 11 2026. No macro, syntax, notation, axiom, sorry.
-/
import Derived.Test.YtdbkafoghoenoaaGreatDoorRows
import GoSem.ClaimSeven
namespace Go.Proofs.YtdbkafoghoenoaaGreatDoor
namespace Rows

/-- THE TIED CARD OF 'leafmeshlaw32.OriginEntry'. -/
def originEntryCard : Claim7 := { stood := { row := originEntryRow, standIns := [], harness := (true, "21f9872adb9a2134db1d0c0f582485859862ca2ec191784bd0db58f7dbd160cb"), looks := true }, kinds := [], alts := [], laidByText := true, laidKinds := [.data], laidTests := true, laidLooks := .later }
def OriginEntryCardSaid : Prop := Claim7.holds Tryz.pinned (.plain (OpenSpec.ofChange originEntrySpec)) originEntryCard

/-- THE TIED CARD OF 'leafmeshlaw32.OriginValid'. -/
def originValidCard : Claim7 := { stood := { row := originValidRow, standIns := [], harness := (true, "21f9872adb9a2134db1d0c0f582485859862ca2ec191784bd0db58f7dbd160cb"), looks := true }, kinds := [], alts := [], laidByText := true, laidKinds := [.data], laidTests := true, laidLooks := .later }
def OriginValidCardSaid : Prop := Claim7.holds Tryz.pinned (.plain (OpenSpec.ofChange originValidSpec)) originValidCard

/-- THE TIED CARD OF 'leafmeshlaw32.OriginDown'. -/
def originDownCard : Claim7 := { stood := { row := originDownRow, standIns := [], harness := (true, "21f9872adb9a2134db1d0c0f582485859862ca2ec191784bd0db58f7dbd160cb"), looks := true }, kinds := [], alts := [], laidByText := true, laidKinds := [.data], laidTests := true, laidLooks := .later }
def OriginDownCardSaid : Prop := Claim7.holds Tryz.pinned (.plain (OpenSpec.ofChange originDownSpec)) originDownCard

/-- THE TIED CARD OF 'leafmeshlaw32.OriginRoutes'. -/
def originRoutesCard : Claim7 := { stood := { row := originRoutesRow, standIns := [], harness := (true, "21f9872adb9a2134db1d0c0f582485859862ca2ec191784bd0db58f7dbd160cb"), looks := true }, kinds := [], alts := [], laidByText := true, laidKinds := [.data], laidTests := true, laidLooks := .later }
def OriginRoutesCardSaid : Prop := Claim7.holds Tryz.pinned (.plain (OpenSpec.ofChange originRoutesSpec)) originRoutesCard

/-- THE TIED CARD OF 'leafmeshlaw32.OriginNames'. -/
def originNamesCard : Claim7 := { stood := { row := originNamesRow, standIns := [], harness := (true, "21f9872adb9a2134db1d0c0f582485859862ca2ec191784bd0db58f7dbd160cb"), looks := true }, kinds := [], alts := [], laidByText := true, laidKinds := [.data], laidTests := true, laidLooks := .later }
def OriginNamesCardSaid : Prop := Claim7.holds Tryz.pinned (.plain (OpenSpec.ofChange originNamesSpec)) originNamesCard

/-- THE SECOND FORM's CARD OF 'leafmeshlaw32.OriginEntry'. -/
def originEntryUptoCard : Claim7 := { stood := { row := originEntryUptoRow, standIns := [], harness := (true, "21f9872adb9a2134db1d0c0f582485859862ca2ec191784bd0db58f7dbd160cb"), looks := true }, kinds := [], alts := [], laidByText := true, laidKinds := [.data], laidTests := true, laidLooks := .later }
def OriginEntryUptoCardSaid : Prop := Claim7.holds Tryz.pinned (.plain (OpenSpec.upto originEntrySpec)) originEntryUptoCard

/-- THE SECOND FORM's CARD OF 'leafmeshlaw32.OriginValid'. -/
def originValidUptoCard : Claim7 := { stood := { row := originValidUptoRow, standIns := [], harness := (true, "21f9872adb9a2134db1d0c0f582485859862ca2ec191784bd0db58f7dbd160cb"), looks := true }, kinds := [], alts := [], laidByText := true, laidKinds := [.data], laidTests := true, laidLooks := .later }
def OriginValidUptoCardSaid : Prop := Claim7.holds Tryz.pinned (.plain (OpenSpec.upto originValidSpec)) originValidUptoCard

/-- THE SECOND FORM's CARD OF 'leafmeshlaw32.OriginDown'. -/
def originDownUptoCard : Claim7 := { stood := { row := originDownUptoRow, standIns := [], harness := (true, "21f9872adb9a2134db1d0c0f582485859862ca2ec191784bd0db58f7dbd160cb"), looks := true }, kinds := [], alts := [], laidByText := true, laidKinds := [.data], laidTests := true, laidLooks := .later }
def OriginDownUptoCardSaid : Prop := Claim7.holds Tryz.pinned (.plain (OpenSpec.upto originDownSpec)) originDownUptoCard

/-- THE SECOND FORM's CARD OF 'leafmeshlaw32.OriginRoutes'. -/
def originRoutesUptoCard : Claim7 := { stood := { row := originRoutesUptoRow, standIns := [], harness := (true, "21f9872adb9a2134db1d0c0f582485859862ca2ec191784bd0db58f7dbd160cb"), looks := true }, kinds := [], alts := [], laidByText := true, laidKinds := [.data], laidTests := true, laidLooks := .later }
def OriginRoutesUptoCardSaid : Prop := Claim7.holds Tryz.pinned (.plain (OpenSpec.upto originRoutesSpec)) originRoutesUptoCard

/-- THE SECOND FORM's CARD OF 'leafmeshlaw32.OriginNames'. -/
def originNamesUptoCard : Claim7 := { stood := { row := originNamesUptoRow, standIns := [], harness := (true, "21f9872adb9a2134db1d0c0f582485859862ca2ec191784bd0db58f7dbd160cb"), looks := true }, kinds := [], alts := [], laidByText := true, laidKinds := [.data], laidTests := true, laidLooks := .later }
def OriginNamesUptoCardSaid : Prop := Claim7.holds Tryz.pinned (.plain (OpenSpec.upto originNamesSpec)) originNamesUptoCard
end Rows
end Go.Proofs.YtdbkafoghoenoaaGreatDoor
