/-
  NARROWER THAN 'FOR EVERY INPUT', by the rows' own cells (each row's printed sentence says how): CommTargets: laid · CommCalls: laid · CommBack: laid · CommSorts: laid · CommLists: laid · PolicySets: laid · PolicyFirst: laid · PolicyRanges: laid.
  DERIVED. THE GIVEN ROWS OF THIS SEAT. 8 by the template 'for every input the law returns true; each argument reads behind the call as it read before'; 0 by the template 'total and deterministic' (their statements: YtfgigcdbcbgpoaaDoorTotals.lean).
  GIVEN WITH THE SEED: the statements are not yours to turn. If you find one false, say at which input.
  Laid BY PROGRAM, IN A SANDBOX (cutbox-rows.mjs): the forced cells as the released guide's own fill.sh prints them over the translation eeeb91b3d69894b8… (all of the seat's roots in one cut). By AI agents, Wed Nov 11 2026. No macro, syntax, notation, axiom, sorry.
-/
import Derived.Test.YtfgigcdbcbgpoaaDoorChecked
import GoSem.Claim
import GoSem.ClaimJoined
import GoSem.ClaimMapViews
import Derived.JoinedTies
import Derived.KernelRfl
namespace Go.Proofs.YtfgigcdbcbgpoaaDoor
/- THE CELL 'sum', in the pinned program and in every row, IS THE sha256 OF THE DUMP (.gsa) THAT YtfgigcdbcbgpoaaDoorProg.lean LOADS. Nothing in Lean hashes anything: it is a label: what it is worth is what the hold of that sum in a sandbox is worth. -/
noncomputable def Tryd.pinned : Pinned := { name := "ytfgigcdbcbgpoaadoor", sum := "eeeb91b3d69894b82aaba9978022980e45c64d2ac9391e04b1f0bd12c418d543", checked := Tryd.checked }
namespace Rows
def none {H : Type} : Left H := { results := [], args := [] }

/- WHAT THE LISTED PACKAGE-LEVEL VARIABLES READ AS WHEN THE CALL BEGINS. Each datum BY PROGRAM (the guide's laid-datum.mjs) off the statement by which the dump's own 'gosem.cut.vars' lays the variable. In a bare row this is a premise. The card (YtfgigcdbcbgpoaaDoorCards.lean) ties it to the program's text. -/
def laid_leafmesh_comm_kinds {H : Type} : DataW H := .agg [.agg [.lit (.int .i64 1), .agg [.lit (.int .u8 0), .lit (.int .u8 2)]], .agg [.lit (.int .i64 2), .agg [.lit (.int .u8 3), .lit (.int .u8 12)]], .agg [.lit (.int .i64 3), .agg [.lit (.int .u8 6), .lit (.int .u8 0)]], .agg [.lit (.int .i64 4), .agg [.lit (.int .u8 6), .lit (.int .u8 1)]], .agg [.lit (.int .i64 5), .agg [.lit (.int .u8 6), .lit (.int .u8 2)]], .agg [.lit (.int .i64 6), .agg [.lit (.int .u8 6), .lit (.int .u8 3)]], .agg [.lit (.int .i64 7), .agg [.lit (.int .u8 6), .lit (.int .u8 6)]]]

/-- 'leafmeshlaw03.CommTargets': WHATEVER THE INPUT: true; the input reads as it did. -/
def commTargetsSpec : ChangeSpec := { name := "commTargets", fn := fun _ => fun
  | [d1, d2] => { results := [.lit (.bool true)], args := [d1, d2] }
  | _ => none }
def commTargetsRow : OpenClaim := { program := "ytfgigcdbcbgpoaadoor", sum := "eeeb91b3d69894b82aaba9978022980e45c64d2ac9391e04b1f0bd12c418d543", func := "leafmesh/leafmeshlaw03.CommTargets", spec := "commTargets", recurses := true, named := ["leafmesh/comm.kinds"], plainKeys := false, apart := false, laid := [("leafmesh/comm.kinds", laid_leafmesh_comm_kinds)] }
def CommTargetsSaid : Prop := commTargetsRow.holds Tryd.pinned (OpenSpec.ofChange commTargetsSpec)

/-- ITS FALSE NEIGHBOUR: 'it returns false'. Refute it at one input. -/
def commTargetsWrong : ChangeSpec := { name := "commTargets", fn := fun _ => fun
  | [d1, d2] => { results := [.lit (.bool false)], args := [d1, d2] }
  | _ => none }
def CommTargetsWrongFalsely : Prop := commTargetsRow.holds Tryd.pinned (OpenSpec.ofChange commTargetsWrong)

/-- 'leafmeshlaw03.CommCalls': WHATEVER THE INPUT: true; the input reads as it did. -/
def commCallsSpec : ChangeSpec := { name := "commCalls", fn := fun _ => fun
  | [d1, d2, d3, d4, d5, d6, d7] => { results := [.lit (.bool true)], args := [d1, d2, d3, d4, d5, d6, d7] }
  | _ => none }
def commCallsRow : OpenClaim := { program := "ytfgigcdbcbgpoaadoor", sum := "eeeb91b3d69894b82aaba9978022980e45c64d2ac9391e04b1f0bd12c418d543", func := "leafmesh/leafmeshlaw03.CommCalls", spec := "commCalls", recurses := true, named := ["leafmesh/comm.kinds"], plainKeys := false, apart := false, laid := [("leafmesh/comm.kinds", laid_leafmesh_comm_kinds)] }
def CommCallsSaid : Prop := commCallsRow.holds Tryd.pinned (OpenSpec.ofChange commCallsSpec)

/-- ITS FALSE NEIGHBOUR: 'it returns false'. Refute it at one input. -/
def commCallsWrong : ChangeSpec := { name := "commCalls", fn := fun _ => fun
  | [d1, d2, d3, d4, d5, d6, d7] => { results := [.lit (.bool false)], args := [d1, d2, d3, d4, d5, d6, d7] }
  | _ => none }
def CommCallsWrongFalsely : Prop := commCallsRow.holds Tryd.pinned (OpenSpec.ofChange commCallsWrong)

/-- 'leafmeshlaw03.CommBack': WHATEVER THE INPUT: true; the input reads as it did. -/
def commBackSpec : ChangeSpec := { name := "commBack", fn := fun _ => fun
  | [d1, d2, d3, d4, d5, d6, d7] => { results := [.lit (.bool true)], args := [d1, d2, d3, d4, d5, d6, d7] }
  | _ => none }
def commBackRow : OpenClaim := { program := "ytfgigcdbcbgpoaadoor", sum := "eeeb91b3d69894b82aaba9978022980e45c64d2ac9391e04b1f0bd12c418d543", func := "leafmesh/leafmeshlaw03.CommBack", spec := "commBack", unfollowed := true, recurses := true, named := ["leafmesh/comm.kinds"], plainKeys := false, apart := false, laid := [("leafmesh/comm.kinds", laid_leafmesh_comm_kinds)] }
def CommBackSaid : Prop := commBackRow.holds Tryd.pinned (OpenSpec.ofChange commBackSpec)

/-- ITS FALSE NEIGHBOUR: 'it returns false'. Refute it at one input. -/
def commBackWrong : ChangeSpec := { name := "commBack", fn := fun _ => fun
  | [d1, d2, d3, d4, d5, d6, d7] => { results := [.lit (.bool false)], args := [d1, d2, d3, d4, d5, d6, d7] }
  | _ => none }
def CommBackWrongFalsely : Prop := commBackRow.holds Tryd.pinned (OpenSpec.ofChange commBackWrong)

/-- 'leafmeshlaw03.CommSorts': WHATEVER THE INPUT: true; the input reads as it did. -/
def commSortsSpec : ChangeSpec := { name := "commSorts", fn := fun _ => fun
  | [d1, d2] => { results := [.lit (.bool true)], args := [d1, d2] }
  | _ => none }
def commSortsRow : OpenClaim := { program := "ytfgigcdbcbgpoaadoor", sum := "eeeb91b3d69894b82aaba9978022980e45c64d2ac9391e04b1f0bd12c418d543", func := "leafmesh/leafmeshlaw03.CommSorts", spec := "commSorts", inPlace := ["internal/bytealg.Compare"], unfollowed := true, recurses := true, named := ["leafmesh/comm.kinds"], plainKeys := false, apart := false, laid := [("leafmesh/comm.kinds", laid_leafmesh_comm_kinds)] }
def CommSortsSaid : Prop := commSortsRow.holds Tryd.pinned (OpenSpec.ofChange commSortsSpec)

/-- ITS FALSE NEIGHBOUR: 'it returns false'. Refute it at one input. -/
def commSortsWrong : ChangeSpec := { name := "commSorts", fn := fun _ => fun
  | [d1, d2] => { results := [.lit (.bool false)], args := [d1, d2] }
  | _ => none }
def CommSortsWrongFalsely : Prop := commSortsRow.holds Tryd.pinned (OpenSpec.ofChange commSortsWrong)

/-- 'leafmeshlaw03.CommLists': WHATEVER THE INPUT: true; the input reads as it did. -/
def commListsSpec : ChangeSpec := { name := "commLists", fn := fun _ => fun
  | [d] => { results := [.lit (.bool true)], args := [d] }
  | _ => none }
def commListsRow : OpenClaim := { program := "ytfgigcdbcbgpoaadoor", sum := "eeeb91b3d69894b82aaba9978022980e45c64d2ac9391e04b1f0bd12c418d543", func := "leafmesh/leafmeshlaw03.CommLists", spec := "commLists", inPlace := ["internal/bytealg.Compare"], unfollowed := true, recurses := true, named := ["leafmesh/comm.kinds"], plainKeys := false, apart := false, laid := [("leafmesh/comm.kinds", laid_leafmesh_comm_kinds)] }
def CommListsSaid : Prop := commListsRow.holds Tryd.pinned (OpenSpec.ofChange commListsSpec)

/-- ITS FALSE NEIGHBOUR: 'it returns false'. Refute it at one input. -/
def commListsWrong : ChangeSpec := { name := "commLists", fn := fun _ => fun
  | [d] => { results := [.lit (.bool false)], args := [d] }
  | _ => none }
def CommListsWrongFalsely : Prop := commListsRow.holds Tryd.pinned (OpenSpec.ofChange commListsWrong)

/-- 'leafmeshlaw19.PolicySets': WHATEVER THE INPUT: true; the input reads as it did. -/
def policySetsSpec : ChangeSpec := { name := "policySets", fn := fun _ => fun
  | [d1, d2] => { results := [.lit (.bool true)], args := [d1, d2] }
  | _ => none }
def policySetsRow : OpenClaim := { program := "ytfgigcdbcbgpoaadoor", sum := "eeeb91b3d69894b82aaba9978022980e45c64d2ac9391e04b1f0bd12c418d543", func := "leafmesh/leafmeshlaw19.PolicySets", spec := "policySets", inPlace := ["internal/bytealg.Compare"], unfollowed := true, recurses := true, named := ["leafmesh/comm.kinds"], plainKeys := false, apart := false, laid := [("leafmesh/comm.kinds", laid_leafmesh_comm_kinds)] }
def PolicySetsSaid : Prop := policySetsRow.holds Tryd.pinned (OpenSpec.ofChange policySetsSpec)

/-- ITS FALSE NEIGHBOUR: 'it returns false'. Refute it at one input. -/
def policySetsWrong : ChangeSpec := { name := "policySets", fn := fun _ => fun
  | [d1, d2] => { results := [.lit (.bool false)], args := [d1, d2] }
  | _ => none }
def PolicySetsWrongFalsely : Prop := policySetsRow.holds Tryd.pinned (OpenSpec.ofChange policySetsWrong)

/-- 'leafmeshlaw19.PolicyFirst': WHATEVER THE INPUT: true; the input reads as it did. -/
def policyFirstSpec : ChangeSpec := { name := "policyFirst", fn := fun _ => fun
  | [d1, d2] => { results := [.lit (.bool true)], args := [d1, d2] }
  | _ => none }
def policyFirstRow : OpenClaim := { program := "ytfgigcdbcbgpoaadoor", sum := "eeeb91b3d69894b82aaba9978022980e45c64d2ac9391e04b1f0bd12c418d543", func := "leafmesh/leafmeshlaw19.PolicyFirst", spec := "policyFirst", inPlace := ["internal/bytealg.Compare"], unfollowed := true, recurses := true, named := ["leafmesh/comm.kinds"], plainKeys := false, apart := false, laid := [("leafmesh/comm.kinds", laid_leafmesh_comm_kinds)] }
def PolicyFirstSaid : Prop := policyFirstRow.holds Tryd.pinned (OpenSpec.ofChange policyFirstSpec)

/-- ITS FALSE NEIGHBOUR: 'it returns false'. Refute it at one input. -/
def policyFirstWrong : ChangeSpec := { name := "policyFirst", fn := fun _ => fun
  | [d1, d2] => { results := [.lit (.bool false)], args := [d1, d2] }
  | _ => none }
def PolicyFirstWrongFalsely : Prop := policyFirstRow.holds Tryd.pinned (OpenSpec.ofChange policyFirstWrong)

/-- 'leafmeshlaw19.PolicyRanges': WHATEVER THE INPUT: true; the input reads as it did. -/
def policyRangesSpec : ChangeSpec := { name := "policyRanges", fn := fun _ => fun
  | [d1, d2, d3, d4, d5] => { results := [.lit (.bool true)], args := [d1, d2, d3, d4, d5] }
  | _ => none }
def policyRangesRow : OpenClaim := { program := "ytfgigcdbcbgpoaadoor", sum := "eeeb91b3d69894b82aaba9978022980e45c64d2ac9391e04b1f0bd12c418d543", func := "leafmesh/leafmeshlaw19.PolicyRanges", spec := "policyRanges", inPlace := ["internal/bytealg.Compare"], unfollowed := true, recurses := true, named := ["leafmesh/comm.kinds"], plainKeys := false, apart := false, laid := [("leafmesh/comm.kinds", laid_leafmesh_comm_kinds)] }
def PolicyRangesSaid : Prop := policyRangesRow.holds Tryd.pinned (OpenSpec.ofChange policyRangesSpec)

/-- ITS FALSE NEIGHBOUR: 'it returns false'. Refute it at one input. -/
def policyRangesWrong : ChangeSpec := { name := "policyRanges", fn := fun _ => fun
  | [d1, d2, d3, d4, d5] => { results := [.lit (.bool false)], args := [d1, d2, d3, d4, d5] }
  | _ => none }
def PolicyRangesWrongFalsely : Prop := policyRangesRow.holds Tryd.pinned (OpenSpec.ofChange policyRangesWrong)

/- THE SECOND FORM. 'bulk': how many values and letters a reading holds, each counted each time it is reached (what is shared counts as often as it is met; a slice's spare places count too). A statement '..UptoSaid' is the law's where the arguments, and the package variables that the reading takes, are together of bulk at most 1048576: NARROWER than '..Said'. Prove '..Said' where nothing that the law and all that it calls make is longer than what came in: it says more and counts as full. Else prove '..UptoSaid'. A law counts once. -/
mutual
def uptoBulk {H : Type} : DataW H → Nat
  | .lit (.string bytes) => bytes.length + 1
  | .lit _ => 1
  | .nil => 1
  | .ptr d => uptoBulk d + 1
  | .slice elems spare => uptoBulkAll elems + uptoBulkAll spare + 1
  | .agg parts => uptoBulkAll parts + 1
  | .iface _ d => uptoBulk d + 1
  | .map entries => uptoBulkEntries entries + 1
  | .held _ => 1
def uptoBulkAll {H : Type} : List (DataW H) → Nat
  | [] => 0
  | d :: r => uptoBulk d + uptoBulkAll r
def uptoBulkEntries {H : Type} : List (Lit × DataW H) → Nat
  | [] => 0
  | x :: r => uptoBulkEntry x + uptoBulkEntries r
def uptoBulkEntry {H : Type} : Lit × DataW H → Nat
  | (.string bytes, d) => bytes.length + uptoBulk d + 1
  | (_, d) => uptoBulk d + 1
 end
def uptoSmall : (H : Type) → List (DataW H) → Bool := fun _ ds => decide (uptoBulkAll ds ≤ 1048576)
def OpenSpec.upto (s : _root_.Go.ChangeSpec) : _root_.Go.OpenSpec := { _root_.Go.OpenSpec.ofChange s with cond := some uptoSmall }

/-- 'leafmeshlaw03.CommTargets', WHERE WHAT IT READS IS OF BULK AT MOST 1048576: true; the input reads as it did. -/
def commTargetsUptoRow : OpenClaim := { program := "ytfgigcdbcbgpoaadoor", sum := "eeeb91b3d69894b82aaba9978022980e45c64d2ac9391e04b1f0bd12c418d543", func := "leafmesh/leafmeshlaw03.CommTargets", spec := "commTargets", recurses := true, named := ["leafmesh/comm.kinds"], plainKeys := false, apart := false, laid := [("leafmesh/comm.kinds", laid_leafmesh_comm_kinds)], narrowed := true }
def CommTargetsUptoSaid : Prop := commTargetsUptoRow.holds Tryd.pinned (OpenSpec.upto commTargetsSpec)

/-- 'leafmeshlaw03.CommCalls', WHERE WHAT IT READS IS OF BULK AT MOST 1048576: true; the input reads as it did. -/
def commCallsUptoRow : OpenClaim := { program := "ytfgigcdbcbgpoaadoor", sum := "eeeb91b3d69894b82aaba9978022980e45c64d2ac9391e04b1f0bd12c418d543", func := "leafmesh/leafmeshlaw03.CommCalls", spec := "commCalls", recurses := true, named := ["leafmesh/comm.kinds"], plainKeys := false, apart := false, laid := [("leafmesh/comm.kinds", laid_leafmesh_comm_kinds)], narrowed := true }
def CommCallsUptoSaid : Prop := commCallsUptoRow.holds Tryd.pinned (OpenSpec.upto commCallsSpec)

/-- 'leafmeshlaw03.CommBack', WHERE WHAT IT READS IS OF BULK AT MOST 1048576: true; the input reads as it did. -/
def commBackUptoRow : OpenClaim := { program := "ytfgigcdbcbgpoaadoor", sum := "eeeb91b3d69894b82aaba9978022980e45c64d2ac9391e04b1f0bd12c418d543", func := "leafmesh/leafmeshlaw03.CommBack", spec := "commBack", unfollowed := true, recurses := true, named := ["leafmesh/comm.kinds"], plainKeys := false, apart := false, laid := [("leafmesh/comm.kinds", laid_leafmesh_comm_kinds)], narrowed := true }
def CommBackUptoSaid : Prop := commBackUptoRow.holds Tryd.pinned (OpenSpec.upto commBackSpec)

/-- 'leafmeshlaw03.CommSorts', WHERE WHAT IT READS IS OF BULK AT MOST 1048576: true; the input reads as it did. -/
def commSortsUptoRow : OpenClaim := { program := "ytfgigcdbcbgpoaadoor", sum := "eeeb91b3d69894b82aaba9978022980e45c64d2ac9391e04b1f0bd12c418d543", func := "leafmesh/leafmeshlaw03.CommSorts", spec := "commSorts", inPlace := ["internal/bytealg.Compare"], unfollowed := true, recurses := true, named := ["leafmesh/comm.kinds"], plainKeys := false, apart := false, laid := [("leafmesh/comm.kinds", laid_leafmesh_comm_kinds)], narrowed := true }
def CommSortsUptoSaid : Prop := commSortsUptoRow.holds Tryd.pinned (OpenSpec.upto commSortsSpec)

/-- 'leafmeshlaw03.CommLists', WHERE WHAT IT READS IS OF BULK AT MOST 1048576: true; the input reads as it did. -/
def commListsUptoRow : OpenClaim := { program := "ytfgigcdbcbgpoaadoor", sum := "eeeb91b3d69894b82aaba9978022980e45c64d2ac9391e04b1f0bd12c418d543", func := "leafmesh/leafmeshlaw03.CommLists", spec := "commLists", inPlace := ["internal/bytealg.Compare"], unfollowed := true, recurses := true, named := ["leafmesh/comm.kinds"], plainKeys := false, apart := false, laid := [("leafmesh/comm.kinds", laid_leafmesh_comm_kinds)], narrowed := true }
def CommListsUptoSaid : Prop := commListsUptoRow.holds Tryd.pinned (OpenSpec.upto commListsSpec)

/-- 'leafmeshlaw19.PolicySets', WHERE WHAT IT READS IS OF BULK AT MOST 1048576: true; the input reads as it did. -/
def policySetsUptoRow : OpenClaim := { program := "ytfgigcdbcbgpoaadoor", sum := "eeeb91b3d69894b82aaba9978022980e45c64d2ac9391e04b1f0bd12c418d543", func := "leafmesh/leafmeshlaw19.PolicySets", spec := "policySets", inPlace := ["internal/bytealg.Compare"], unfollowed := true, recurses := true, named := ["leafmesh/comm.kinds"], plainKeys := false, apart := false, laid := [("leafmesh/comm.kinds", laid_leafmesh_comm_kinds)], narrowed := true }
def PolicySetsUptoSaid : Prop := policySetsUptoRow.holds Tryd.pinned (OpenSpec.upto policySetsSpec)

/-- 'leafmeshlaw19.PolicyFirst', WHERE WHAT IT READS IS OF BULK AT MOST 1048576: true; the input reads as it did. -/
def policyFirstUptoRow : OpenClaim := { program := "ytfgigcdbcbgpoaadoor", sum := "eeeb91b3d69894b82aaba9978022980e45c64d2ac9391e04b1f0bd12c418d543", func := "leafmesh/leafmeshlaw19.PolicyFirst", spec := "policyFirst", inPlace := ["internal/bytealg.Compare"], unfollowed := true, recurses := true, named := ["leafmesh/comm.kinds"], plainKeys := false, apart := false, laid := [("leafmesh/comm.kinds", laid_leafmesh_comm_kinds)], narrowed := true }
def PolicyFirstUptoSaid : Prop := policyFirstUptoRow.holds Tryd.pinned (OpenSpec.upto policyFirstSpec)

/-- 'leafmeshlaw19.PolicyRanges', WHERE WHAT IT READS IS OF BULK AT MOST 1048576: true; the input reads as it did. -/
def policyRangesUptoRow : OpenClaim := { program := "ytfgigcdbcbgpoaadoor", sum := "eeeb91b3d69894b82aaba9978022980e45c64d2ac9391e04b1f0bd12c418d543", func := "leafmesh/leafmeshlaw19.PolicyRanges", spec := "policyRanges", inPlace := ["internal/bytealg.Compare"], unfollowed := true, recurses := true, named := ["leafmesh/comm.kinds"], plainKeys := false, apart := false, laid := [("leafmesh/comm.kinds", laid_leafmesh_comm_kinds)], narrowed := true }
def PolicyRangesUptoSaid : Prop := policyRangesUptoRow.holds Tryd.pinned (OpenSpec.upto policyRangesSpec)

end Rows
end Go.Proofs.YtfgigcdbcbgpoaaDoor
