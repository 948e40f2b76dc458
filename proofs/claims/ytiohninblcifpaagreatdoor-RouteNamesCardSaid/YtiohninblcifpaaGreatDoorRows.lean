/-
  NARROWER THAN 'FOR EVERY INPUT', by the rows' own cells (each row's printed sentence says how): RouteOrder: laid · RouteApart: laid · RouteLeaks: laid · RouteHosts: laid · RouteCalls: laid · RouteNames: laid · NeighOne: laid · NeighKnown: laid.
  DERIVED. THE GIVEN ROWS OF THIS SEAT. 8 by the template 'for every input the law returns true; each argument reads behind the call as it read before'; 0 by the template 'total and deterministic' (their statements: YtiohninblcifpaaGreatDoorTotals.lean).
  GIVEN WITH THE SEED: the statements are not yours to turn. If you find one false, say at which input.
  Laid BY PROGRAM, IN A SANDBOX (cutbox-rows.mjs): the forced cells as the released guide's own fill.sh prints them over the translation d09f5942f3809dd7… (all of the seat's roots in one cut). By AI agents, Wed Nov 11 2026. No macro, syntax, notation, axiom, sorry.
-/
import Derived.Test.YtiohninblcifpaaGreatDoorChecked
import GoSem.Claim
import GoSem.ClaimJoined
import GoSem.ClaimMapViews
import Derived.JoinedTies
import Derived.KernelRfl
namespace Go.Proofs.YtiohninblcifpaaGreatDoor
/- THE CELL 'sum', in the pinned program and in every row, IS THE sha256 OF THE DUMP (.gsa) THAT YtiohninblcifpaaGreatDoorProg.lean LOADS. Nothing in Lean hashes anything: it is a label: what it is worth is what the hold of that sum in a sandbox is worth. -/
noncomputable def Tryz.pinned : Pinned := { name := "ytiohninblcifpaagreatdoor", sum := "d09f5942f3809dd72fe7e7de01d5a5eb42636e59ae4fe3f96e156d79ee59fcf4", checked := Tryz.checked }
namespace Rows
def none {H : Type} : Left H := { results := [], args := [] }

/- WHAT THE LISTED PACKAGE-LEVEL VARIABLES READ AS WHEN THE CALL BEGINS. Each datum BY PROGRAM (the guide's laid-datum.mjs) off the statement by which the dump's own 'gosem.cut.vars' lays the variable. In a bare row this is a premise. The card (YtiohninblcifpaaGreatDoorCards.lean) ties it to the program's text. -/
def laid_leafmesh_comm_kinds {H : Type} : DataW H := .agg [.agg [.lit (.int .i64 1), .agg [.lit (.int .u8 0), .lit (.int .u8 2)]], .agg [.lit (.int .i64 2), .agg [.lit (.int .u8 3), .lit (.int .u8 12)]], .agg [.lit (.int .i64 3), .agg [.lit (.int .u8 6), .lit (.int .u8 0)]], .agg [.lit (.int .i64 4), .agg [.lit (.int .u8 6), .lit (.int .u8 1)]], .agg [.lit (.int .i64 5), .agg [.lit (.int .u8 6), .lit (.int .u8 2)]], .agg [.lit (.int .i64 6), .agg [.lit (.int .u8 6), .lit (.int .u8 3)]], .agg [.lit (.int .i64 7), .agg [.lit (.int .u8 6), .lit (.int .u8 6)]]]

/-- 'leafmeshlaw30.RouteOrder': WHATEVER THE INPUT: true; the input reads as it did. -/
def routeOrderSpec : ChangeSpec := { name := "routeOrder", fn := fun _ => fun
  | [d1, d2, d3, d4, d5] => { results := [.lit (.bool true)], args := [d1, d2, d3, d4, d5] }
  | _ => none }
def routeOrderRow : OpenClaim := { program := "ytiohninblcifpaagreatdoor", sum := "d09f5942f3809dd72fe7e7de01d5a5eb42636e59ae4fe3f96e156d79ee59fcf4", func := "leafmesh/leafmeshlaw30.RouteOrder", spec := "routeOrder", unfollowed := true, recurses := true, named := ["leafmesh/comm.kinds"], plainKeys := false, apart := false, laid := [("leafmesh/comm.kinds", laid_leafmesh_comm_kinds)] }
def RouteOrderSaid : Prop := routeOrderRow.holds Tryz.pinned (OpenSpec.ofChange routeOrderSpec)

/-- ITS FALSE NEIGHBOUR: 'it returns false'. Refute it at one input. -/
def routeOrderWrong : ChangeSpec := { name := "routeOrder", fn := fun _ => fun
  | [d1, d2, d3, d4, d5] => { results := [.lit (.bool false)], args := [d1, d2, d3, d4, d5] }
  | _ => none }
def RouteOrderWrongFalsely : Prop := routeOrderRow.holds Tryz.pinned (OpenSpec.ofChange routeOrderWrong)

/-- 'leafmeshlaw30.RouteApart': WHATEVER THE INPUT: true; the input reads as it did. -/
def routeApartSpec : ChangeSpec := { name := "routeApart", fn := fun _ => fun
  | [d1, d2, d3, d4] => { results := [.lit (.bool true)], args := [d1, d2, d3, d4] }
  | _ => none }
def routeApartRow : OpenClaim := { program := "ytiohninblcifpaagreatdoor", sum := "d09f5942f3809dd72fe7e7de01d5a5eb42636e59ae4fe3f96e156d79ee59fcf4", func := "leafmesh/leafmeshlaw30.RouteApart", spec := "routeApart", unfollowed := true, recurses := true, named := ["leafmesh/comm.kinds"], plainKeys := false, apart := false, laid := [("leafmesh/comm.kinds", laid_leafmesh_comm_kinds)] }
def RouteApartSaid : Prop := routeApartRow.holds Tryz.pinned (OpenSpec.ofChange routeApartSpec)

/-- ITS FALSE NEIGHBOUR: 'it returns false'. Refute it at one input. -/
def routeApartWrong : ChangeSpec := { name := "routeApart", fn := fun _ => fun
  | [d1, d2, d3, d4] => { results := [.lit (.bool false)], args := [d1, d2, d3, d4] }
  | _ => none }
def RouteApartWrongFalsely : Prop := routeApartRow.holds Tryz.pinned (OpenSpec.ofChange routeApartWrong)

/-- 'leafmeshlaw30.RouteLeaks': WHATEVER THE INPUT: true; the input reads as it did. -/
def routeLeaksSpec : ChangeSpec := { name := "routeLeaks", fn := fun _ => fun
  | [d1, d2, d3, d4] => { results := [.lit (.bool true)], args := [d1, d2, d3, d4] }
  | _ => none }
def routeLeaksRow : OpenClaim := { program := "ytiohninblcifpaagreatdoor", sum := "d09f5942f3809dd72fe7e7de01d5a5eb42636e59ae4fe3f96e156d79ee59fcf4", func := "leafmesh/leafmeshlaw30.RouteLeaks", spec := "routeLeaks", unfollowed := true, recurses := true, named := ["leafmesh/comm.kinds"], plainKeys := false, apart := false, laid := [("leafmesh/comm.kinds", laid_leafmesh_comm_kinds)] }
def RouteLeaksSaid : Prop := routeLeaksRow.holds Tryz.pinned (OpenSpec.ofChange routeLeaksSpec)

/-- ITS FALSE NEIGHBOUR: 'it returns false'. Refute it at one input. -/
def routeLeaksWrong : ChangeSpec := { name := "routeLeaks", fn := fun _ => fun
  | [d1, d2, d3, d4] => { results := [.lit (.bool false)], args := [d1, d2, d3, d4] }
  | _ => none }
def RouteLeaksWrongFalsely : Prop := routeLeaksRow.holds Tryz.pinned (OpenSpec.ofChange routeLeaksWrong)

/-- 'leafmeshlaw30.RouteHosts': WHATEVER THE INPUT: true; the input reads as it did. -/
def routeHostsSpec : ChangeSpec := { name := "routeHosts", fn := fun _ => fun
  | [d1, d2, d3, d4, d5, d6] => { results := [.lit (.bool true)], args := [d1, d2, d3, d4, d5, d6] }
  | _ => none }
def routeHostsRow : OpenClaim := { program := "ytiohninblcifpaagreatdoor", sum := "d09f5942f3809dd72fe7e7de01d5a5eb42636e59ae4fe3f96e156d79ee59fcf4", func := "leafmesh/leafmeshlaw30.RouteHosts", spec := "routeHosts", unfollowed := true, recurses := true, named := ["leafmesh/comm.kinds"], plainKeys := false, apart := false, laid := [("leafmesh/comm.kinds", laid_leafmesh_comm_kinds)] }
def RouteHostsSaid : Prop := routeHostsRow.holds Tryz.pinned (OpenSpec.ofChange routeHostsSpec)

/-- ITS FALSE NEIGHBOUR: 'it returns false'. Refute it at one input. -/
def routeHostsWrong : ChangeSpec := { name := "routeHosts", fn := fun _ => fun
  | [d1, d2, d3, d4, d5, d6] => { results := [.lit (.bool false)], args := [d1, d2, d3, d4, d5, d6] }
  | _ => none }
def RouteHostsWrongFalsely : Prop := routeHostsRow.holds Tryz.pinned (OpenSpec.ofChange routeHostsWrong)

/-- 'leafmeshlaw30.RouteCalls': WHATEVER THE INPUT: true; the input reads as it did. -/
def routeCallsSpec : ChangeSpec := { name := "routeCalls", fn := fun _ => fun
  | [d1, d2, d3, d4, d5, d6, d7] => { results := [.lit (.bool true)], args := [d1, d2, d3, d4, d5, d6, d7] }
  | _ => none }
def routeCallsRow : OpenClaim := { program := "ytiohninblcifpaagreatdoor", sum := "d09f5942f3809dd72fe7e7de01d5a5eb42636e59ae4fe3f96e156d79ee59fcf4", func := "leafmesh/leafmeshlaw30.RouteCalls", spec := "routeCalls", unfollowed := true, recurses := true, named := ["leafmesh/comm.kinds"], plainKeys := false, apart := false, laid := [("leafmesh/comm.kinds", laid_leafmesh_comm_kinds)] }
def RouteCallsSaid : Prop := routeCallsRow.holds Tryz.pinned (OpenSpec.ofChange routeCallsSpec)

/-- ITS FALSE NEIGHBOUR: 'it returns false'. Refute it at one input. -/
def routeCallsWrong : ChangeSpec := { name := "routeCalls", fn := fun _ => fun
  | [d1, d2, d3, d4, d5, d6, d7] => { results := [.lit (.bool false)], args := [d1, d2, d3, d4, d5, d6, d7] }
  | _ => none }
def RouteCallsWrongFalsely : Prop := routeCallsRow.holds Tryz.pinned (OpenSpec.ofChange routeCallsWrong)

/-- 'leafmeshlaw30.RouteNames': WHATEVER THE INPUT: true; the input reads as it did. -/
def routeNamesSpec : ChangeSpec := { name := "routeNames", fn := fun _ => fun
  | [] => { results := [.lit (.bool true)], args := [] }
  | _ => none }
def routeNamesRow : OpenClaim := { program := "ytiohninblcifpaagreatdoor", sum := "d09f5942f3809dd72fe7e7de01d5a5eb42636e59ae4fe3f96e156d79ee59fcf4", func := "leafmesh/leafmeshlaw30.RouteNames", spec := "routeNames", unfollowed := true, recurses := true, named := ["leafmesh/comm.kinds"], plainKeys := false, apart := false, laid := [("leafmesh/comm.kinds", laid_leafmesh_comm_kinds)] }
def RouteNamesSaid : Prop := routeNamesRow.holds Tryz.pinned (OpenSpec.ofChange routeNamesSpec)

/-- ITS FALSE NEIGHBOUR: 'it returns false'. Refute it at one input. -/
def routeNamesWrong : ChangeSpec := { name := "routeNames", fn := fun _ => fun
  | [] => { results := [.lit (.bool false)], args := [] }
  | _ => none }
def RouteNamesWrongFalsely : Prop := routeNamesRow.holds Tryz.pinned (OpenSpec.ofChange routeNamesWrong)

/-- 'leafmeshlaw29.NeighOne': WHATEVER THE INPUT: true; the input reads as it did. -/
def neighOneSpec : ChangeSpec := { name := "neighOne", fn := fun _ => fun
  | [d1, d2, d3, d4] => { results := [.lit (.bool true)], args := [d1, d2, d3, d4] }
  | _ => none }
def neighOneRow : OpenClaim := { program := "ytiohninblcifpaagreatdoor", sum := "d09f5942f3809dd72fe7e7de01d5a5eb42636e59ae4fe3f96e156d79ee59fcf4", func := "leafmesh/leafmeshlaw29.NeighOne", spec := "neighOne", unfollowed := true, recurses := true, named := ["leafmesh/comm.kinds"], plainKeys := false, apart := false, laid := [("leafmesh/comm.kinds", laid_leafmesh_comm_kinds)] }
def NeighOneSaid : Prop := neighOneRow.holds Tryz.pinned (OpenSpec.ofChange neighOneSpec)

/-- ITS FALSE NEIGHBOUR: 'it returns false'. Refute it at one input. -/
def neighOneWrong : ChangeSpec := { name := "neighOne", fn := fun _ => fun
  | [d1, d2, d3, d4] => { results := [.lit (.bool false)], args := [d1, d2, d3, d4] }
  | _ => none }
def NeighOneWrongFalsely : Prop := neighOneRow.holds Tryz.pinned (OpenSpec.ofChange neighOneWrong)

/-- 'leafmeshlaw29.NeighKnown': WHATEVER THE INPUT: true; the input reads as it did. -/
def neighKnownSpec : ChangeSpec := { name := "neighKnown", fn := fun _ => fun
  | [d1, d2, d3, d4] => { results := [.lit (.bool true)], args := [d1, d2, d3, d4] }
  | _ => none }
def neighKnownRow : OpenClaim := { program := "ytiohninblcifpaagreatdoor", sum := "d09f5942f3809dd72fe7e7de01d5a5eb42636e59ae4fe3f96e156d79ee59fcf4", func := "leafmesh/leafmeshlaw29.NeighKnown", spec := "neighKnown", unfollowed := true, recurses := true, named := ["leafmesh/comm.kinds"], plainKeys := false, apart := false, laid := [("leafmesh/comm.kinds", laid_leafmesh_comm_kinds)] }
def NeighKnownSaid : Prop := neighKnownRow.holds Tryz.pinned (OpenSpec.ofChange neighKnownSpec)

/-- ITS FALSE NEIGHBOUR: 'it returns false'. Refute it at one input. -/
def neighKnownWrong : ChangeSpec := { name := "neighKnown", fn := fun _ => fun
  | [d1, d2, d3, d4] => { results := [.lit (.bool false)], args := [d1, d2, d3, d4] }
  | _ => none }
def NeighKnownWrongFalsely : Prop := neighKnownRow.holds Tryz.pinned (OpenSpec.ofChange neighKnownWrong)

/- THE SECOND FORM. 'bulk': how many values and letters a reading holds, each counted each time it is reached (what is shared counts as often as it is met; a slice's spare places count too). A statement '..UptoSaid' is the law's where the arguments, and the package variables that the reading takes, are together of bulk at most 1048576: NARROWER than '..Said'. Prove '..Said' where nothing that the law and all that it calls make is longer than what came in: it says more and counts as full. Else prove '..UptoSaid'. A law counts once. -/
mutual
def uptoBulk {H : Type} : DataW H → Nat
  | .lit (.string bytes) => bytes.length + 1
  | .lit _ => 1
  | .nil => 1
  | .ptr d => uptoBulk d + 1
  | .slice elems spare => uptoBulkAll elems + uptoBulkAll spare + 1
  | .agg parts => uptoBulkAll parts + 1
  | .iface _ d => uptoBulk d + 1
  | .map entries => uptoBulkEntries entries + 1
  | .held _ => 1
def uptoBulkAll {H : Type} : List (DataW H) → Nat
  | [] => 0
  | d :: r => uptoBulk d + uptoBulkAll r
def uptoBulkEntries {H : Type} : List (Lit × DataW H) → Nat
  | [] => 0
  | x :: r => uptoBulkEntry x + uptoBulkEntries r
def uptoBulkEntry {H : Type} : Lit × DataW H → Nat
  | (.string bytes, d) => bytes.length + uptoBulk d + 1
  | (_, d) => uptoBulk d + 1
 end
def uptoSmall : (H : Type) → List (DataW H) → Bool := fun _ ds => decide (uptoBulkAll ds ≤ 1048576)
def OpenSpec.upto (s : _root_.Go.ChangeSpec) : _root_.Go.OpenSpec := { _root_.Go.OpenSpec.ofChange s with cond := some uptoSmall }

/-- 'leafmeshlaw30.RouteOrder', WHERE WHAT IT READS IS OF BULK AT MOST 1048576: true; the input reads as it did. -/
def routeOrderUptoRow : OpenClaim := { program := "ytiohninblcifpaagreatdoor", sum := "d09f5942f3809dd72fe7e7de01d5a5eb42636e59ae4fe3f96e156d79ee59fcf4", func := "leafmesh/leafmeshlaw30.RouteOrder", spec := "routeOrder", unfollowed := true, recurses := true, named := ["leafmesh/comm.kinds"], plainKeys := false, apart := false, laid := [("leafmesh/comm.kinds", laid_leafmesh_comm_kinds)], narrowed := true }
def RouteOrderUptoSaid : Prop := routeOrderUptoRow.holds Tryz.pinned (OpenSpec.upto routeOrderSpec)

/-- 'leafmeshlaw30.RouteApart', WHERE WHAT IT READS IS OF BULK AT MOST 1048576: true; the input reads as it did. -/
def routeApartUptoRow : OpenClaim := { program := "ytiohninblcifpaagreatdoor", sum := "d09f5942f3809dd72fe7e7de01d5a5eb42636e59ae4fe3f96e156d79ee59fcf4", func := "leafmesh/leafmeshlaw30.RouteApart", spec := "routeApart", unfollowed := true, recurses := true, named := ["leafmesh/comm.kinds"], plainKeys := false, apart := false, laid := [("leafmesh/comm.kinds", laid_leafmesh_comm_kinds)], narrowed := true }
def RouteApartUptoSaid : Prop := routeApartUptoRow.holds Tryz.pinned (OpenSpec.upto routeApartSpec)

/-- 'leafmeshlaw30.RouteLeaks', WHERE WHAT IT READS IS OF BULK AT MOST 1048576: true; the input reads as it did. -/
def routeLeaksUptoRow : OpenClaim := { program := "ytiohninblcifpaagreatdoor", sum := "d09f5942f3809dd72fe7e7de01d5a5eb42636e59ae4fe3f96e156d79ee59fcf4", func := "leafmesh/leafmeshlaw30.RouteLeaks", spec := "routeLeaks", unfollowed := true, recurses := true, named := ["leafmesh/comm.kinds"], plainKeys := false, apart := false, laid := [("leafmesh/comm.kinds", laid_leafmesh_comm_kinds)], narrowed := true }
def RouteLeaksUptoSaid : Prop := routeLeaksUptoRow.holds Tryz.pinned (OpenSpec.upto routeLeaksSpec)

/-- 'leafmeshlaw30.RouteHosts', WHERE WHAT IT READS IS OF BULK AT MOST 1048576: true; the input reads as it did. -/
def routeHostsUptoRow : OpenClaim := { program := "ytiohninblcifpaagreatdoor", sum := "d09f5942f3809dd72fe7e7de01d5a5eb42636e59ae4fe3f96e156d79ee59fcf4", func := "leafmesh/leafmeshlaw30.RouteHosts", spec := "routeHosts", unfollowed := true, recurses := true, named := ["leafmesh/comm.kinds"], plainKeys := false, apart := false, laid := [("leafmesh/comm.kinds", laid_leafmesh_comm_kinds)], narrowed := true }
def RouteHostsUptoSaid : Prop := routeHostsUptoRow.holds Tryz.pinned (OpenSpec.upto routeHostsSpec)

/-- 'leafmeshlaw30.RouteCalls', WHERE WHAT IT READS IS OF BULK AT MOST 1048576: true; the input reads as it did. -/
def routeCallsUptoRow : OpenClaim := { program := "ytiohninblcifpaagreatdoor", sum := "d09f5942f3809dd72fe7e7de01d5a5eb42636e59ae4fe3f96e156d79ee59fcf4", func := "leafmesh/leafmeshlaw30.RouteCalls", spec := "routeCalls", unfollowed := true, recurses := true, named := ["leafmesh/comm.kinds"], plainKeys := false, apart := false, laid := [("leafmesh/comm.kinds", laid_leafmesh_comm_kinds)], narrowed := true }
def RouteCallsUptoSaid : Prop := routeCallsUptoRow.holds Tryz.pinned (OpenSpec.upto routeCallsSpec)

/-- 'leafmeshlaw30.RouteNames', WHERE WHAT IT READS IS OF BULK AT MOST 1048576: true; the input reads as it did. -/
def routeNamesUptoRow : OpenClaim := { program := "ytiohninblcifpaagreatdoor", sum := "d09f5942f3809dd72fe7e7de01d5a5eb42636e59ae4fe3f96e156d79ee59fcf4", func := "leafmesh/leafmeshlaw30.RouteNames", spec := "routeNames", unfollowed := true, recurses := true, named := ["leafmesh/comm.kinds"], plainKeys := false, apart := false, laid := [("leafmesh/comm.kinds", laid_leafmesh_comm_kinds)], narrowed := true }
def RouteNamesUptoSaid : Prop := routeNamesUptoRow.holds Tryz.pinned (OpenSpec.upto routeNamesSpec)

/-- 'leafmeshlaw29.NeighOne', WHERE WHAT IT READS IS OF BULK AT MOST 1048576: true; the input reads as it did. -/
def neighOneUptoRow : OpenClaim := { program := "ytiohninblcifpaagreatdoor", sum := "d09f5942f3809dd72fe7e7de01d5a5eb42636e59ae4fe3f96e156d79ee59fcf4", func := "leafmesh/leafmeshlaw29.NeighOne", spec := "neighOne", unfollowed := true, recurses := true, named := ["leafmesh/comm.kinds"], plainKeys := false, apart := false, laid := [("leafmesh/comm.kinds", laid_leafmesh_comm_kinds)], narrowed := true }
def NeighOneUptoSaid : Prop := neighOneUptoRow.holds Tryz.pinned (OpenSpec.upto neighOneSpec)

/-- 'leafmeshlaw29.NeighKnown', WHERE WHAT IT READS IS OF BULK AT MOST 1048576: true; the input reads as it did. -/
def neighKnownUptoRow : OpenClaim := { program := "ytiohninblcifpaagreatdoor", sum := "d09f5942f3809dd72fe7e7de01d5a5eb42636e59ae4fe3f96e156d79ee59fcf4", func := "leafmesh/leafmeshlaw29.NeighKnown", spec := "neighKnown", unfollowed := true, recurses := true, named := ["leafmesh/comm.kinds"], plainKeys := false, apart := false, laid := [("leafmesh/comm.kinds", laid_leafmesh_comm_kinds)], narrowed := true }
def NeighKnownUptoSaid : Prop := neighKnownUptoRow.holds Tryz.pinned (OpenSpec.upto neighKnownSpec)

end Rows
end Go.Proofs.YtiohninblcifpaaGreatDoor
