/-
  NARROWER THAN 'FOR EVERY INPUT', by the rows' own cells (each row's printed sentence says how): OriginEntry: laid · OriginValid: laid · OriginDown: laid · OriginRoutes: laid · OriginNames: laid.
  DERIVED. THE GIVEN ROWS OF THIS SEAT. 5 by the template 'for every input the law returns true; each argument reads behind the call as it read before'; 0 by the template 'total and deterministic' (their statements: YtdbkafoghoenoaaGreatDoorTotals.lean).
  GIVEN WITH THE SEED: the statements are not yours to turn. If you find one false, say at which input.
  Laid BY PROGRAM, IN A SANDBOX (cutbox-rows.mjs): the forced cells as the released guide's own fill.sh prints them over the translation fe1c986fbc0a16b1… (all of the seat's roots in one cut). By AI agents, Wed Nov 11 2026. No macro, syntax, notation, axiom, sorry.
-/
import Derived.Test.YtdbkafoghoenoaaGreatDoorChecked
import GoSem.Claim
import GoSem.ClaimJoined
import GoSem.ClaimMapViews
import Derived.JoinedTies
import Derived.KernelRfl
namespace Go.Proofs.YtdbkafoghoenoaaGreatDoor
/- THE CELL 'sum', in the pinned program and in every row, IS THE sha256 OF THE DUMP (.gsa) THAT YtdbkafoghoenoaaGreatDoorProg.lean LOADS. Nothing in Lean hashes anything: it is a label: what it is worth is what the hold of that sum in a sandbox is worth. -/
noncomputable def Tryz.pinned : Pinned := { name := "ytdbkafoghoenoaagreatdoor", sum := "fe1c986fbc0a16b16670eaa6f2023238718f7139b3fbdb495c93cb159a62f1b2", checked := Tryz.checked }
namespace Rows
def none {H : Type} : Left H := { results := [], args := [] }

/- WHAT THE LISTED PACKAGE-LEVEL VARIABLES READ AS WHEN THE CALL BEGINS. Each datum BY PROGRAM (the guide's laid-datum.mjs) off the statement by which the dump's own 'gosem.cut.vars' lays the variable. In a bare row this is a premise. The card (YtdbkafoghoenoaaGreatDoorCards.lean) ties it to the program's text. -/
def laid_leafmesh_comm_kinds {H : Type} : DataW H := .agg [.agg [.lit (.int .i64 1), .agg [.lit (.int .u8 0), .lit (.int .u8 2)]], .agg [.lit (.int .i64 2), .agg [.lit (.int .u8 3), .lit (.int .u8 12)]], .agg [.lit (.int .i64 3), .agg [.lit (.int .u8 6), .lit (.int .u8 0)]], .agg [.lit (.int .i64 4), .agg [.lit (.int .u8 6), .lit (.int .u8 1)]], .agg [.lit (.int .i64 5), .agg [.lit (.int .u8 6), .lit (.int .u8 2)]], .agg [.lit (.int .i64 6), .agg [.lit (.int .u8 6), .lit (.int .u8 3)]], .agg [.lit (.int .i64 7), .agg [.lit (.int .u8 6), .lit (.int .u8 6)]]]

/-- 'leafmeshlaw32.OriginEntry': WHATEVER THE INPUT: true; the input reads as it did. -/
def originEntrySpec : ChangeSpec := { name := "originEntry", fn := fun _ => fun
  | [d1, d2, d3, d4, d5, d6, d7, d8, d9] => { results := [.lit (.bool true)], args := [d1, d2, d3, d4, d5, d6, d7, d8, d9] }
  | _ => none }
def originEntryRow : OpenClaim := { program := "ytdbkafoghoenoaagreatdoor", sum := "fe1c986fbc0a16b16670eaa6f2023238718f7139b3fbdb495c93cb159a62f1b2", func := "leafmesh/leafmeshlaw32.OriginEntry", spec := "originEntry", inPlace := ["internal/bytealg.Compare"], unfollowed := true, recurses := true, named := ["leafmesh/comm.kinds"], plainKeys := false, apart := false, laid := [("leafmesh/comm.kinds", laid_leafmesh_comm_kinds)] }
def OriginEntrySaid : Prop := originEntryRow.holds Tryz.pinned (OpenSpec.ofChange originEntrySpec)

/-- ITS FALSE NEIGHBOUR: 'it returns false'. Refute it at one input. -/
def originEntryWrong : ChangeSpec := { name := "originEntry", fn := fun _ => fun
  | [d1, d2, d3, d4, d5, d6, d7, d8, d9] => { results := [.lit (.bool false)], args := [d1, d2, d3, d4, d5, d6, d7, d8, d9] }
  | _ => none }
def OriginEntryWrongFalsely : Prop := originEntryRow.holds Tryz.pinned (OpenSpec.ofChange originEntryWrong)

/-- 'leafmeshlaw32.OriginValid': WHATEVER THE INPUT: true; the input reads as it did. -/
def originValidSpec : ChangeSpec := { name := "originValid", fn := fun _ => fun
  | [d1, d2, d3, d4, d5, d6] => { results := [.lit (.bool true)], args := [d1, d2, d3, d4, d5, d6] }
  | _ => none }
def originValidRow : OpenClaim := { program := "ytdbkafoghoenoaagreatdoor", sum := "fe1c986fbc0a16b16670eaa6f2023238718f7139b3fbdb495c93cb159a62f1b2", func := "leafmesh/leafmeshlaw32.OriginValid", spec := "originValid", inPlace := ["internal/bytealg.Compare"], unfollowed := true, recurses := true, named := ["leafmesh/comm.kinds"], plainKeys := false, apart := false, laid := [("leafmesh/comm.kinds", laid_leafmesh_comm_kinds)] }
def OriginValidSaid : Prop := originValidRow.holds Tryz.pinned (OpenSpec.ofChange originValidSpec)

/-- ITS FALSE NEIGHBOUR: 'it returns false'. Refute it at one input. -/
def originValidWrong : ChangeSpec := { name := "originValid", fn := fun _ => fun
  | [d1, d2, d3, d4, d5, d6] => { results := [.lit (.bool false)], args := [d1, d2, d3, d4, d5, d6] }
  | _ => none }
def OriginValidWrongFalsely : Prop := originValidRow.holds Tryz.pinned (OpenSpec.ofChange originValidWrong)

/-- 'leafmeshlaw32.OriginDown': WHATEVER THE INPUT: true; the input reads as it did. -/
def originDownSpec : ChangeSpec := { name := "originDown", fn := fun _ => fun
  | [d1, d2, d3, d4, d5, d6] => { results := [.lit (.bool true)], args := [d1, d2, d3, d4, d5, d6] }
  | _ => none }
def originDownRow : OpenClaim := { program := "ytdbkafoghoenoaagreatdoor", sum := "fe1c986fbc0a16b16670eaa6f2023238718f7139b3fbdb495c93cb159a62f1b2", func := "leafmesh/leafmeshlaw32.OriginDown", spec := "originDown", inPlace := ["internal/bytealg.Compare"], unfollowed := true, recurses := true, named := ["leafmesh/comm.kinds"], plainKeys := false, apart := false, laid := [("leafmesh/comm.kinds", laid_leafmesh_comm_kinds)] }
def OriginDownSaid : Prop := originDownRow.holds Tryz.pinned (OpenSpec.ofChange originDownSpec)

/-- ITS FALSE NEIGHBOUR: 'it returns false'. Refute it at one input. -/
def originDownWrong : ChangeSpec := { name := "originDown", fn := fun _ => fun
  | [d1, d2, d3, d4, d5, d6] => { results := [.lit (.bool false)], args := [d1, d2, d3, d4, d5, d6] }
  | _ => none }
def OriginDownWrongFalsely : Prop := originDownRow.holds Tryz.pinned (OpenSpec.ofChange originDownWrong)

/-- 'leafmeshlaw32.OriginRoutes': WHATEVER THE INPUT: true; the input reads as it did. -/
def originRoutesSpec : ChangeSpec := { name := "originRoutes", fn := fun _ => fun
  | [d1, d2, d3, d4, d5, d6] => { results := [.lit (.bool true)], args := [d1, d2, d3, d4, d5, d6] }
  | _ => none }
def originRoutesRow : OpenClaim := { program := "ytdbkafoghoenoaagreatdoor", sum := "fe1c986fbc0a16b16670eaa6f2023238718f7139b3fbdb495c93cb159a62f1b2", func := "leafmesh/leafmeshlaw32.OriginRoutes", spec := "originRoutes", inPlace := ["internal/bytealg.Compare"], unfollowed := true, recurses := true, named := ["leafmesh/comm.kinds"], plainKeys := false, apart := false, laid := [("leafmesh/comm.kinds", laid_leafmesh_comm_kinds)] }
def OriginRoutesSaid : Prop := originRoutesRow.holds Tryz.pinned (OpenSpec.ofChange originRoutesSpec)

/-- ITS FALSE NEIGHBOUR: 'it returns false'. Refute it at one input. -/
def originRoutesWrong : ChangeSpec := { name := "originRoutes", fn := fun _ => fun
  | [d1, d2, d3, d4, d5, d6] => { results := [.lit (.bool false)], args := [d1, d2, d3, d4, d5, d6] }
  | _ => none }
def OriginRoutesWrongFalsely : Prop := originRoutesRow.holds Tryz.pinned (OpenSpec.ofChange originRoutesWrong)

/-- 'leafmeshlaw32.OriginNames': WHATEVER THE INPUT: true; the input reads as it did. -/
def originNamesSpec : ChangeSpec := { name := "originNames", fn := fun _ => fun
  | [] => { results := [.lit (.bool true)], args := [] }
  | _ => none }
def originNamesRow : OpenClaim := { program := "ytdbkafoghoenoaagreatdoor", sum := "fe1c986fbc0a16b16670eaa6f2023238718f7139b3fbdb495c93cb159a62f1b2", func := "leafmesh/leafmeshlaw32.OriginNames", spec := "originNames", inPlace := ["internal/bytealg.Compare"], unfollowed := true, recurses := true, named := ["leafmesh/comm.kinds"], plainKeys := false, apart := false, laid := [("leafmesh/comm.kinds", laid_leafmesh_comm_kinds)] }
def OriginNamesSaid : Prop := originNamesRow.holds Tryz.pinned (OpenSpec.ofChange originNamesSpec)

/-- ITS FALSE NEIGHBOUR: 'it returns false'. Refute it at one input. -/
def originNamesWrong : ChangeSpec := { name := "originNames", fn := fun _ => fun
  | [] => { results := [.lit (.bool false)], args := [] }
  | _ => none }
def OriginNamesWrongFalsely : Prop := originNamesRow.holds Tryz.pinned (OpenSpec.ofChange originNamesWrong)

/- THE SECOND FORM. 'bulk': how many values and letters a reading holds, each counted each time it is reached (what is shared counts as often as it is met; a slice's spare places count too). A statement '..UptoSaid' is the law's where the arguments, and the package variables that the reading takes, are together of bulk at most 1048576: NARROWER than '..Said'. Prove '..Said' where nothing that the law and all that it calls make is longer than what came in: it says more and counts as full. Else prove '..UptoSaid'. A law counts once. -/
mutual
def uptoBulk {H : Type} : DataW H → Nat
  | .lit (.string bytes) => bytes.length + 1
  | .lit _ => 1
  | .nil => 1
  | .ptr d => uptoBulk d + 1
  | .slice elems spare => uptoBulkAll elems + uptoBulkAll spare + 1
  | .agg parts => uptoBulkAll parts + 1
  | .iface _ d => uptoBulk d + 1
  | .map entries => uptoBulkEntries entries + 1
  | .held _ => 1
def uptoBulkAll {H : Type} : List (DataW H) → Nat
  | [] => 0
  | d :: r => uptoBulk d + uptoBulkAll r
def uptoBulkEntries {H : Type} : List (Lit × DataW H) → Nat
  | [] => 0
  | x :: r => uptoBulkEntry x + uptoBulkEntries r
def uptoBulkEntry {H : Type} : Lit × DataW H → Nat
  | (.string bytes, d) => bytes.length + uptoBulk d + 1
  | (_, d) => uptoBulk d + 1
 end
def uptoSmall : (H : Type) → List (DataW H) → Bool := fun _ ds => decide (uptoBulkAll ds ≤ 1048576)
def OpenSpec.upto (s : _root_.Go.ChangeSpec) : _root_.Go.OpenSpec := { _root_.Go.OpenSpec.ofChange s with cond := some uptoSmall }

/-- 'leafmeshlaw32.OriginEntry', WHERE WHAT IT READS IS OF BULK AT MOST 1048576: true; the input reads as it did. -/
def originEntryUptoRow : OpenClaim := { program := "ytdbkafoghoenoaagreatdoor", sum := "fe1c986fbc0a16b16670eaa6f2023238718f7139b3fbdb495c93cb159a62f1b2", func := "leafmesh/leafmeshlaw32.OriginEntry", spec := "originEntry", inPlace := ["internal/bytealg.Compare"], unfollowed := true, recurses := true, named := ["leafmesh/comm.kinds"], plainKeys := false, apart := false, laid := [("leafmesh/comm.kinds", laid_leafmesh_comm_kinds)], narrowed := true }
def OriginEntryUptoSaid : Prop := originEntryUptoRow.holds Tryz.pinned (OpenSpec.upto originEntrySpec)

/-- 'leafmeshlaw32.OriginValid', WHERE WHAT IT READS IS OF BULK AT MOST 1048576: true; the input reads as it did. -/
def originValidUptoRow : OpenClaim := { program := "ytdbkafoghoenoaagreatdoor", sum := "fe1c986fbc0a16b16670eaa6f2023238718f7139b3fbdb495c93cb159a62f1b2", func := "leafmesh/leafmeshlaw32.OriginValid", spec := "originValid", inPlace := ["internal/bytealg.Compare"], unfollowed := true, recurses := true, named := ["leafmesh/comm.kinds"], plainKeys := false, apart := false, laid := [("leafmesh/comm.kinds", laid_leafmesh_comm_kinds)], narrowed := true }
def OriginValidUptoSaid : Prop := originValidUptoRow.holds Tryz.pinned (OpenSpec.upto originValidSpec)

/-- 'leafmeshlaw32.OriginDown', WHERE WHAT IT READS IS OF BULK AT MOST 1048576: true; the input reads as it did. -/
def originDownUptoRow : OpenClaim := { program := "ytdbkafoghoenoaagreatdoor", sum := "fe1c986fbc0a16b16670eaa6f2023238718f7139b3fbdb495c93cb159a62f1b2", func := "leafmesh/leafmeshlaw32.OriginDown", spec := "originDown", inPlace := ["internal/bytealg.Compare"], unfollowed := true, recurses := true, named := ["leafmesh/comm.kinds"], plainKeys := false, apart := false, laid := [("leafmesh/comm.kinds", laid_leafmesh_comm_kinds)], narrowed := true }
def OriginDownUptoSaid : Prop := originDownUptoRow.holds Tryz.pinned (OpenSpec.upto originDownSpec)

/-- 'leafmeshlaw32.OriginRoutes', WHERE WHAT IT READS IS OF BULK AT MOST 1048576: true; the input reads as it did. -/
def originRoutesUptoRow : OpenClaim := { program := "ytdbkafoghoenoaagreatdoor", sum := "fe1c986fbc0a16b16670eaa6f2023238718f7139b3fbdb495c93cb159a62f1b2", func := "leafmesh/leafmeshlaw32.OriginRoutes", spec := "originRoutes", inPlace := ["internal/bytealg.Compare"], unfollowed := true, recurses := true, named := ["leafmesh/comm.kinds"], plainKeys := false, apart := false, laid := [("leafmesh/comm.kinds", laid_leafmesh_comm_kinds)], narrowed := true }
def OriginRoutesUptoSaid : Prop := originRoutesUptoRow.holds Tryz.pinned (OpenSpec.upto originRoutesSpec)

/-- 'leafmeshlaw32.OriginNames', WHERE WHAT IT READS IS OF BULK AT MOST 1048576: true; the input reads as it did. -/
def originNamesUptoRow : OpenClaim := { program := "ytdbkafoghoenoaagreatdoor", sum := "fe1c986fbc0a16b16670eaa6f2023238718f7139b3fbdb495c93cb159a62f1b2", func := "leafmesh/leafmeshlaw32.OriginNames", spec := "originNames", inPlace := ["internal/bytealg.Compare"], unfollowed := true, recurses := true, named := ["leafmesh/comm.kinds"], plainKeys := false, apart := false, laid := [("leafmesh/comm.kinds", laid_leafmesh_comm_kinds)], narrowed := true }
def OriginNamesUptoSaid : Prop := originNamesUptoRow.holds Tryz.pinned (OpenSpec.upto originNamesSpec)

end Rows
end Go.Proofs.YtdbkafoghoenoaaGreatDoor
