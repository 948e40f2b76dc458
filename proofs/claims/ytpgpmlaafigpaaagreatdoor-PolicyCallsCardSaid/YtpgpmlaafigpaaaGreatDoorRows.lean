/-
  NARROWER THAN 'FOR EVERY INPUT', by the rows' own cells (each row's printed sentence says how): PolicyImports: laid · PolicyNames: laid · PolicyCalls: laid · RouteLongest: laid · RouteNames: laid · RouteHosts: laid · NeighNames: laid · NeighNewest: laid · OriginNames: laid · OriginEntry: laid.
  DERIVED. THE GIVEN ROWS OF THIS SEAT. 10 by the template 'for every input the law returns true; each argument reads behind the call as it read before'; 0 by the template 'total and deterministic' (their statements: YtpgpmlaafigpaaaGreatDoorTotals.lean).
  GIVEN WITH THE SEED: the statements are not yours to turn. If you find one false, say at which input.
  Laid BY PROGRAM, IN A SANDBOX (cutbox-rows.mjs): the forced cells as the released guide's own fill.sh prints them over the translation 8b65bbf8273f9d41… (all of the seat's roots in one cut). By AI agents, Wed Nov 11 2026. No macro, syntax, notation, axiom, sorry.
-/
import Derived.Test.YtpgpmlaafigpaaaGreatDoorChecked
import GoSem.Claim
import GoSem.ClaimJoined
import GoSem.ClaimMapViews
import Derived.JoinedTies
import Derived.KernelRfl
namespace Go.Proofs.YtpgpmlaafigpaaaGreatDoor
/- THE CELL 'sum', in the pinned program and in every row, IS THE sha256 OF THE DUMP (.gsa) THAT YtpgpmlaafigpaaaGreatDoorProg.lean LOADS. Nothing in Lean hashes anything: it is a label: what it is worth is what the hold of that sum in a sandbox is worth. -/
noncomputable def Tryz.pinned : Pinned := { name := "ytpgpmlaafigpaaagreatdoor", sum := "8b65bbf8273f9d410645cfc8bef85271a2fef177134541dbbdf20145cf095c7d", checked := Tryz.checked }
namespace Rows
def none {H : Type} : Left H := { results := [], args := [] }

/- WHAT THE LISTED PACKAGE-LEVEL VARIABLES READ AS WHEN THE CALL BEGINS. Each datum BY PROGRAM (the guide's laid-datum.mjs) off the statement by which the dump's own 'gosem.cut.vars' lays the variable. In a bare row this is a premise. The card (YtpgpmlaafigpaaaGreatDoorCards.lean) ties it to the program's text. -/
def laid_leafmesh_comm_kinds {H : Type} : DataW H := .agg [.agg [.lit (.int .i64 1), .agg [.lit (.int .u8 0), .lit (.int .u8 2)]], .agg [.lit (.int .i64 2), .agg [.lit (.int .u8 3), .lit (.int .u8 12)]], .agg [.lit (.int .i64 3), .agg [.lit (.int .u8 6), .lit (.int .u8 0)]], .agg [.lit (.int .i64 4), .agg [.lit (.int .u8 6), .lit (.int .u8 1)]], .agg [.lit (.int .i64 5), .agg [.lit (.int .u8 6), .lit (.int .u8 2)]], .agg [.lit (.int .i64 6), .agg [.lit (.int .u8 6), .lit (.int .u8 3)]], .agg [.lit (.int .i64 7), .agg [.lit (.int .u8 6), .lit (.int .u8 6)]]]

/-- 'leafmeshlaw19.PolicyImports': WHATEVER THE INPUT: true; the input reads as it did. -/
def policyImportsSpec : ChangeSpec := { name := "policyImports", fn := fun _ => fun
  | [d1, d2, d3] => { results := [.lit (.bool true)], args := [d1, d2, d3] }
  | _ => none }
def policyImportsRow : OpenClaim := { program := "ytpgpmlaafigpaaagreatdoor", sum := "8b65bbf8273f9d410645cfc8bef85271a2fef177134541dbbdf20145cf095c7d", func := "leafmesh/leafmeshlaw19.PolicyImports", spec := "policyImports", inPlace := ["internal/bytealg.Compare"], unfollowed := true, recurses := true, named := ["leafmesh/comm.kinds"], plainKeys := false, apart := false, laid := [("leafmesh/comm.kinds", laid_leafmesh_comm_kinds)] }
def PolicyImportsSaid : Prop := policyImportsRow.holds Tryz.pinned (OpenSpec.ofChange policyImportsSpec)

/-- ITS FALSE NEIGHBOUR: 'it returns false'. Refute it at one input. -/
def policyImportsWrong : ChangeSpec := { name := "policyImports", fn := fun _ => fun
  | [d1, d2, d3] => { results := [.lit (.bool false)], args := [d1, d2, d3] }
  | _ => none }
def PolicyImportsWrongFalsely : Prop := policyImportsRow.holds Tryz.pinned (OpenSpec.ofChange policyImportsWrong)

/-- 'leafmeshlaw19.PolicyNames': WHATEVER THE INPUT: true; the input reads as it did. -/
def policyNamesSpec : ChangeSpec := { name := "policyNames", fn := fun _ => fun
  | [] => { results := [.lit (.bool true)], args := [] }
  | _ => none }
def policyNamesRow : OpenClaim := { program := "ytpgpmlaafigpaaagreatdoor", sum := "8b65bbf8273f9d410645cfc8bef85271a2fef177134541dbbdf20145cf095c7d", func := "leafmesh/leafmeshlaw19.PolicyNames", spec := "policyNames", inPlace := ["internal/bytealg.Compare"], unfollowed := true, recurses := true, named := ["leafmesh/comm.kinds"], plainKeys := false, apart := false, laid := [("leafmesh/comm.kinds", laid_leafmesh_comm_kinds)] }
def PolicyNamesSaid : Prop := policyNamesRow.holds Tryz.pinned (OpenSpec.ofChange policyNamesSpec)

/-- ITS FALSE NEIGHBOUR: 'it returns false'. Refute it at one input. -/
def policyNamesWrong : ChangeSpec := { name := "policyNames", fn := fun _ => fun
  | [] => { results := [.lit (.bool false)], args := [] }
  | _ => none }
def PolicyNamesWrongFalsely : Prop := policyNamesRow.holds Tryz.pinned (OpenSpec.ofChange policyNamesWrong)

/-- 'leafmeshlaw19.PolicyCalls': WHATEVER THE INPUT: true; the input reads as it did. -/
def policyCallsSpec : ChangeSpec := { name := "policyCalls", fn := fun _ => fun
  | [d1, d2, d3] => { results := [.lit (.bool true)], args := [d1, d2, d3] }
  | _ => none }
def policyCallsRow : OpenClaim := { program := "ytpgpmlaafigpaaagreatdoor", sum := "8b65bbf8273f9d410645cfc8bef85271a2fef177134541dbbdf20145cf095c7d", func := "leafmesh/leafmeshlaw19.PolicyCalls", spec := "policyCalls", inPlace := ["internal/bytealg.Compare"], unfollowed := true, recurses := true, named := ["leafmesh/comm.kinds"], plainKeys := false, apart := false, laid := [("leafmesh/comm.kinds", laid_leafmesh_comm_kinds)] }
def PolicyCallsSaid : Prop := policyCallsRow.holds Tryz.pinned (OpenSpec.ofChange policyCallsSpec)

/-- ITS FALSE NEIGHBOUR: 'it returns false'. Refute it at one input. -/
def policyCallsWrong : ChangeSpec := { name := "policyCalls", fn := fun _ => fun
  | [d1, d2, d3] => { results := [.lit (.bool false)], args := [d1, d2, d3] }
  | _ => none }
def PolicyCallsWrongFalsely : Prop := policyCallsRow.holds Tryz.pinned (OpenSpec.ofChange policyCallsWrong)

/-- 'leafmeshlaw30.RouteLongest': WHATEVER THE INPUT: true; the input reads as it did. -/
def routeLongestSpec : ChangeSpec := { name := "routeLongest", fn := fun _ => fun
  | [d1, d2, d3] => { results := [.lit (.bool true)], args := [d1, d2, d3] }
  | _ => none }
def routeLongestRow : OpenClaim := { program := "ytpgpmlaafigpaaagreatdoor", sum := "8b65bbf8273f9d410645cfc8bef85271a2fef177134541dbbdf20145cf095c7d", func := "leafmesh/leafmeshlaw30.RouteLongest", spec := "routeLongest", unfollowed := true, recurses := true, named := ["leafmesh/comm.kinds"], plainKeys := false, apart := false, laid := [("leafmesh/comm.kinds", laid_leafmesh_comm_kinds)] }
def RouteLongestSaid : Prop := routeLongestRow.holds Tryz.pinned (OpenSpec.ofChange routeLongestSpec)

/-- ITS FALSE NEIGHBOUR: 'it returns false'. Refute it at one input. -/
def routeLongestWrong : ChangeSpec := { name := "routeLongest", fn := fun _ => fun
  | [d1, d2, d3] => { results := [.lit (.bool false)], args := [d1, d2, d3] }
  | _ => none }
def RouteLongestWrongFalsely : Prop := routeLongestRow.holds Tryz.pinned (OpenSpec.ofChange routeLongestWrong)

/-- 'leafmeshlaw30.RouteNames': WHATEVER THE INPUT: true; the input reads as it did. -/
def routeNamesSpec : ChangeSpec := { name := "routeNames", fn := fun _ => fun
  | [] => { results := [.lit (.bool true)], args := [] }
  | _ => none }
def routeNamesRow : OpenClaim := { program := "ytpgpmlaafigpaaagreatdoor", sum := "8b65bbf8273f9d410645cfc8bef85271a2fef177134541dbbdf20145cf095c7d", func := "leafmesh/leafmeshlaw30.RouteNames", spec := "routeNames", unfollowed := true, recurses := true, named := ["leafmesh/comm.kinds"], plainKeys := false, apart := false, laid := [("leafmesh/comm.kinds", laid_leafmesh_comm_kinds)] }
def RouteNamesSaid : Prop := routeNamesRow.holds Tryz.pinned (OpenSpec.ofChange routeNamesSpec)

/-- ITS FALSE NEIGHBOUR: 'it returns false'. Refute it at one input. -/
def routeNamesWrong : ChangeSpec := { name := "routeNames", fn := fun _ => fun
  | [] => { results := [.lit (.bool false)], args := [] }
  | _ => none }
def RouteNamesWrongFalsely : Prop := routeNamesRow.holds Tryz.pinned (OpenSpec.ofChange routeNamesWrong)

/-- 'leafmeshlaw30.RouteHosts': WHATEVER THE INPUT: true; the input reads as it did. -/
def routeHostsSpec : ChangeSpec := { name := "routeHosts", fn := fun _ => fun
  | [d1, d2, d3, d4, d5, d6] => { results := [.lit (.bool true)], args := [d1, d2, d3, d4, d5, d6] }
  | _ => none }
def routeHostsRow : OpenClaim := { program := "ytpgpmlaafigpaaagreatdoor", sum := "8b65bbf8273f9d410645cfc8bef85271a2fef177134541dbbdf20145cf095c7d", func := "leafmesh/leafmeshlaw30.RouteHosts", spec := "routeHosts", unfollowed := true, recurses := true, named := ["leafmesh/comm.kinds"], plainKeys := false, apart := false, laid := [("leafmesh/comm.kinds", laid_leafmesh_comm_kinds)] }
def RouteHostsSaid : Prop := routeHostsRow.holds Tryz.pinned (OpenSpec.ofChange routeHostsSpec)

/-- ITS FALSE NEIGHBOUR: 'it returns false'. Refute it at one input. -/
def routeHostsWrong : ChangeSpec := { name := "routeHosts", fn := fun _ => fun
  | [d1, d2, d3, d4, d5, d6] => { results := [.lit (.bool false)], args := [d1, d2, d3, d4, d5, d6] }
  | _ => none }
def RouteHostsWrongFalsely : Prop := routeHostsRow.holds Tryz.pinned (OpenSpec.ofChange routeHostsWrong)

/-- 'leafmeshlaw29.NeighNames': WHATEVER THE INPUT: true; the input reads as it did. -/
def neighNamesSpec : ChangeSpec := { name := "neighNames", fn := fun _ => fun
  | [] => { results := [.lit (.bool true)], args := [] }
  | _ => none }
def neighNamesRow : OpenClaim := { program := "ytpgpmlaafigpaaagreatdoor", sum := "8b65bbf8273f9d410645cfc8bef85271a2fef177134541dbbdf20145cf095c7d", func := "leafmesh/leafmeshlaw29.NeighNames", spec := "neighNames", unfollowed := true, recurses := true, named := ["leafmesh/comm.kinds"], plainKeys := false, apart := false, laid := [("leafmesh/comm.kinds", laid_leafmesh_comm_kinds)] }
def NeighNamesSaid : Prop := neighNamesRow.holds Tryz.pinned (OpenSpec.ofChange neighNamesSpec)

/-- ITS FALSE NEIGHBOUR: 'it returns false'. Refute it at one input. -/
def neighNamesWrong : ChangeSpec := { name := "neighNames", fn := fun _ => fun
  | [] => { results := [.lit (.bool false)], args := [] }
  | _ => none }
def NeighNamesWrongFalsely : Prop := neighNamesRow.holds Tryz.pinned (OpenSpec.ofChange neighNamesWrong)

/-- 'leafmeshlaw29.NeighNewest': WHATEVER THE INPUT: true; the input reads as it did. -/
def neighNewestSpec : ChangeSpec := { name := "neighNewest", fn := fun _ => fun
  | [d1, d2] => { results := [.lit (.bool true)], args := [d1, d2] }
  | _ => none }
def neighNewestRow : OpenClaim := { program := "ytpgpmlaafigpaaagreatdoor", sum := "8b65bbf8273f9d410645cfc8bef85271a2fef177134541dbbdf20145cf095c7d", func := "leafmesh/leafmeshlaw29.NeighNewest", spec := "neighNewest", unfollowed := true, recurses := true, named := ["leafmesh/comm.kinds"], plainKeys := false, apart := false, laid := [("leafmesh/comm.kinds", laid_leafmesh_comm_kinds)] }
def NeighNewestSaid : Prop := neighNewestRow.holds Tryz.pinned (OpenSpec.ofChange neighNewestSpec)

/-- ITS FALSE NEIGHBOUR: 'it returns false'. Refute it at one input. -/
def neighNewestWrong : ChangeSpec := { name := "neighNewest", fn := fun _ => fun
  | [d1, d2] => { results := [.lit (.bool false)], args := [d1, d2] }
  | _ => none }
def NeighNewestWrongFalsely : Prop := neighNewestRow.holds Tryz.pinned (OpenSpec.ofChange neighNewestWrong)

/-- 'leafmeshlaw32.OriginNames': WHATEVER THE INPUT: true; the input reads as it did. -/
def originNamesSpec : ChangeSpec := { name := "originNames", fn := fun _ => fun
  | [] => { results := [.lit (.bool true)], args := [] }
  | _ => none }
def originNamesRow : OpenClaim := { program := "ytpgpmlaafigpaaagreatdoor", sum := "8b65bbf8273f9d410645cfc8bef85271a2fef177134541dbbdf20145cf095c7d", func := "leafmesh/leafmeshlaw32.OriginNames", spec := "originNames", inPlace := ["internal/bytealg.Compare"], unfollowed := true, recurses := true, named := ["leafmesh/comm.kinds"], plainKeys := false, apart := false, laid := [("leafmesh/comm.kinds", laid_leafmesh_comm_kinds)] }
def OriginNamesSaid : Prop := originNamesRow.holds Tryz.pinned (OpenSpec.ofChange originNamesSpec)

/-- ITS FALSE NEIGHBOUR: 'it returns false'. Refute it at one input. -/
def originNamesWrong : ChangeSpec := { name := "originNames", fn := fun _ => fun
  | [] => { results := [.lit (.bool false)], args := [] }
  | _ => none }
def OriginNamesWrongFalsely : Prop := originNamesRow.holds Tryz.pinned (OpenSpec.ofChange originNamesWrong)

/-- 'leafmeshlaw32.OriginEntry': WHATEVER THE INPUT: true; the input reads as it did. -/
def originEntrySpec : ChangeSpec := { name := "originEntry", fn := fun _ => fun
  | [d1, d2, d3, d4, d5, d6, d7, d8, d9] => { results := [.lit (.bool true)], args := [d1, d2, d3, d4, d5, d6, d7, d8, d9] }
  | _ => none }
def originEntryRow : OpenClaim := { program := "ytpgpmlaafigpaaagreatdoor", sum := "8b65bbf8273f9d410645cfc8bef85271a2fef177134541dbbdf20145cf095c7d", func := "leafmesh/leafmeshlaw32.OriginEntry", spec := "originEntry", inPlace := ["internal/bytealg.Compare"], unfollowed := true, recurses := true, named := ["leafmesh/comm.kinds"], plainKeys := false, apart := false, laid := [("leafmesh/comm.kinds", laid_leafmesh_comm_kinds)] }
def OriginEntrySaid : Prop := originEntryRow.holds Tryz.pinned (OpenSpec.ofChange originEntrySpec)

/-- ITS FALSE NEIGHBOUR: 'it returns false'. Refute it at one input. -/
def originEntryWrong : ChangeSpec := { name := "originEntry", fn := fun _ => fun
  | [d1, d2, d3, d4, d5, d6, d7, d8, d9] => { results := [.lit (.bool false)], args := [d1, d2, d3, d4, d5, d6, d7, d8, d9] }
  | _ => none }
def OriginEntryWrongFalsely : Prop := originEntryRow.holds Tryz.pinned (OpenSpec.ofChange originEntryWrong)

/- THE SECOND FORM. 'bulk': how many values and letters a reading holds, each counted each time it is reached (what is shared counts as often as it is met; a slice's spare places count too). A statement '..UptoSaid' is the law's where the arguments, and the package variables that the reading takes, are together of bulk at most 1048576: NARROWER than '..Said'. Prove '..Said' where nothing that the law and all that it calls make is longer than what came in: it says more and counts as full. Else prove '..UptoSaid'. A law counts once. -/
mutual
def uptoBulk {H : Type} : DataW H → Nat
  | .lit (.string bytes) => bytes.length + 1
  | .lit _ => 1
  | .nil => 1
  | .ptr d => uptoBulk d + 1
  | .slice elems spare => uptoBulkAll elems + uptoBulkAll spare + 1
  | .agg parts => uptoBulkAll parts + 1
  | .iface _ d => uptoBulk d + 1
  | .map entries => uptoBulkEntries entries + 1
  | .held _ => 1
def uptoBulkAll {H : Type} : List (DataW H) → Nat
  | [] => 0
  | d :: r => uptoBulk d + uptoBulkAll r
def uptoBulkEntries {H : Type} : List (Lit × DataW H) → Nat
  | [] => 0
  | x :: r => uptoBulkEntry x + uptoBulkEntries r
def uptoBulkEntry {H : Type} : Lit × DataW H → Nat
  | (.string bytes, d) => bytes.length + uptoBulk d + 1
  | (_, d) => uptoBulk d + 1
 end
def uptoSmall : (H : Type) → List (DataW H) → Bool := fun _ ds => decide (uptoBulkAll ds ≤ 1048576)
def OpenSpec.upto (s : _root_.Go.ChangeSpec) : _root_.Go.OpenSpec := { _root_.Go.OpenSpec.ofChange s with cond := some uptoSmall }

/-- 'leafmeshlaw19.PolicyImports', WHERE WHAT IT READS IS OF BULK AT MOST 1048576: true; the input reads as it did. -/
def policyImportsUptoRow : OpenClaim := { program := "ytpgpmlaafigpaaagreatdoor", sum := "8b65bbf8273f9d410645cfc8bef85271a2fef177134541dbbdf20145cf095c7d", func := "leafmesh/leafmeshlaw19.PolicyImports", spec := "policyImports", inPlace := ["internal/bytealg.Compare"], unfollowed := true, recurses := true, named := ["leafmesh/comm.kinds"], plainKeys := false, apart := false, laid := [("leafmesh/comm.kinds", laid_leafmesh_comm_kinds)], narrowed := true }
def PolicyImportsUptoSaid : Prop := policyImportsUptoRow.holds Tryz.pinned (OpenSpec.upto policyImportsSpec)

/-- 'leafmeshlaw19.PolicyNames', WHERE WHAT IT READS IS OF BULK AT MOST 1048576: true; the input reads as it did. -/
def policyNamesUptoRow : OpenClaim := { program := "ytpgpmlaafigpaaagreatdoor", sum := "8b65bbf8273f9d410645cfc8bef85271a2fef177134541dbbdf20145cf095c7d", func := "leafmesh/leafmeshlaw19.PolicyNames", spec := "policyNames", inPlace := ["internal/bytealg.Compare"], unfollowed := true, recurses := true, named := ["leafmesh/comm.kinds"], plainKeys := false, apart := false, laid := [("leafmesh/comm.kinds", laid_leafmesh_comm_kinds)], narrowed := true }
def PolicyNamesUptoSaid : Prop := policyNamesUptoRow.holds Tryz.pinned (OpenSpec.upto policyNamesSpec)

/-- 'leafmeshlaw19.PolicyCalls', WHERE WHAT IT READS IS OF BULK AT MOST 1048576: true; the input reads as it did. -/
def policyCallsUptoRow : OpenClaim := { program := "ytpgpmlaafigpaaagreatdoor", sum := "8b65bbf8273f9d410645cfc8bef85271a2fef177134541dbbdf20145cf095c7d", func := "leafmesh/leafmeshlaw19.PolicyCalls", spec := "policyCalls", inPlace := ["internal/bytealg.Compare"], unfollowed := true, recurses := true, named := ["leafmesh/comm.kinds"], plainKeys := false, apart := false, laid := [("leafmesh/comm.kinds", laid_leafmesh_comm_kinds)], narrowed := true }
def PolicyCallsUptoSaid : Prop := policyCallsUptoRow.holds Tryz.pinned (OpenSpec.upto policyCallsSpec)

/-- 'leafmeshlaw30.RouteLongest', WHERE WHAT IT READS IS OF BULK AT MOST 1048576: true; the input reads as it did. -/
def routeLongestUptoRow : OpenClaim := { program := "ytpgpmlaafigpaaagreatdoor", sum := "8b65bbf8273f9d410645cfc8bef85271a2fef177134541dbbdf20145cf095c7d", func := "leafmesh/leafmeshlaw30.RouteLongest", spec := "routeLongest", unfollowed := true, recurses := true, named := ["leafmesh/comm.kinds"], plainKeys := false, apart := false, laid := [("leafmesh/comm.kinds", laid_leafmesh_comm_kinds)], narrowed := true }
def RouteLongestUptoSaid : Prop := routeLongestUptoRow.holds Tryz.pinned (OpenSpec.upto routeLongestSpec)

/-- 'leafmeshlaw30.RouteNames', WHERE WHAT IT READS IS OF BULK AT MOST 1048576: true; the input reads as it did. -/
def routeNamesUptoRow : OpenClaim := { program := "ytpgpmlaafigpaaagreatdoor", sum := "8b65bbf8273f9d410645cfc8bef85271a2fef177134541dbbdf20145cf095c7d", func := "leafmesh/leafmeshlaw30.RouteNames", spec := "routeNames", unfollowed := true, recurses := true, named := ["leafmesh/comm.kinds"], plainKeys := false, apart := false, laid := [("leafmesh/comm.kinds", laid_leafmesh_comm_kinds)], narrowed := true }
def RouteNamesUptoSaid : Prop := routeNamesUptoRow.holds Tryz.pinned (OpenSpec.upto routeNamesSpec)

/-- 'leafmeshlaw30.RouteHosts', WHERE WHAT IT READS IS OF BULK AT MOST 1048576: true; the input reads as it did. -/
def routeHostsUptoRow : OpenClaim := { program := "ytpgpmlaafigpaaagreatdoor", sum := "8b65bbf8273f9d410645cfc8bef85271a2fef177134541dbbdf20145cf095c7d", func := "leafmesh/leafmeshlaw30.RouteHosts", spec := "routeHosts", unfollowed := true, recurses := true, named := ["leafmesh/comm.kinds"], plainKeys := false, apart := false, laid := [("leafmesh/comm.kinds", laid_leafmesh_comm_kinds)], narrowed := true }
def RouteHostsUptoSaid : Prop := routeHostsUptoRow.holds Tryz.pinned (OpenSpec.upto routeHostsSpec)

/-- 'leafmeshlaw29.NeighNames', WHERE WHAT IT READS IS OF BULK AT MOST 1048576: true; the input reads as it did. -/
def neighNamesUptoRow : OpenClaim := { program := "ytpgpmlaafigpaaagreatdoor", sum := "8b65bbf8273f9d410645cfc8bef85271a2fef177134541dbbdf20145cf095c7d", func := "leafmesh/leafmeshlaw29.NeighNames", spec := "neighNames", unfollowed := true, recurses := true, named := ["leafmesh/comm.kinds"], plainKeys := false, apart := false, laid := [("leafmesh/comm.kinds", laid_leafmesh_comm_kinds)], narrowed := true }
def NeighNamesUptoSaid : Prop := neighNamesUptoRow.holds Tryz.pinned (OpenSpec.upto neighNamesSpec)

/-- 'leafmeshlaw29.NeighNewest', WHERE WHAT IT READS IS OF BULK AT MOST 1048576: true; the input reads as it did. -/
def neighNewestUptoRow : OpenClaim := { program := "ytpgpmlaafigpaaagreatdoor", sum := "8b65bbf8273f9d410645cfc8bef85271a2fef177134541dbbdf20145cf095c7d", func := "leafmesh/leafmeshlaw29.NeighNewest", spec := "neighNewest", unfollowed := true, recurses := true, named := ["leafmesh/comm.kinds"], plainKeys := false, apart := false, laid := [("leafmesh/comm.kinds", laid_leafmesh_comm_kinds)], narrowed := true }
def NeighNewestUptoSaid : Prop := neighNewestUptoRow.holds Tryz.pinned (OpenSpec.upto neighNewestSpec)

/-- 'leafmeshlaw32.OriginNames', WHERE WHAT IT READS IS OF BULK AT MOST 1048576: true; the input reads as it did. -/
def originNamesUptoRow : OpenClaim := { program := "ytpgpmlaafigpaaagreatdoor", sum := "8b65bbf8273f9d410645cfc8bef85271a2fef177134541dbbdf20145cf095c7d", func := "leafmesh/leafmeshlaw32.OriginNames", spec := "originNames", inPlace := ["internal/bytealg.Compare"], unfollowed := true, recurses := true, named := ["leafmesh/comm.kinds"], plainKeys := false, apart := false, laid := [("leafmesh/comm.kinds", laid_leafmesh_comm_kinds)], narrowed := true }
def OriginNamesUptoSaid : Prop := originNamesUptoRow.holds Tryz.pinned (OpenSpec.upto originNamesSpec)

/-- 'leafmeshlaw32.OriginEntry', WHERE WHAT IT READS IS OF BULK AT MOST 1048576: true; the input reads as it did. -/
def originEntryUptoRow : OpenClaim := { program := "ytpgpmlaafigpaaagreatdoor", sum := "8b65bbf8273f9d410645cfc8bef85271a2fef177134541dbbdf20145cf095c7d", func := "leafmesh/leafmeshlaw32.OriginEntry", spec := "originEntry", inPlace := ["internal/bytealg.Compare"], unfollowed := true, recurses := true, named := ["leafmesh/comm.kinds"], plainKeys := false, apart := false, laid := [("leafmesh/comm.kinds", laid_leafmesh_comm_kinds)], narrowed := true }
def OriginEntryUptoSaid : Prop := originEntryUptoRow.holds Tryz.pinned (OpenSpec.upto originEntrySpec)

end Rows
end Go.Proofs.YtpgpmlaafigpaaaGreatDoor
