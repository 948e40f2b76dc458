/-
  No cell of these rows narrows 'for every input' (looked for: loops, veiled, ifaces, maps, wideKeys, modest, calm, conditions, laid).
  DERIVED. THE GIVEN ROWS OF THIS SEAT. 6 by the template 'for every input the law returns true; each argument reads behind the call as it read before'; 0 by the template 'total and deterministic' (their statements: YtomlhceogkfnlaaGreatTotals.lean).
  GIVEN WITH THE SEED: the statements are not yours to turn. If you find one false, say at which input.
  Laid BY PROGRAM, IN A SANDBOX (cutbox-rows.mjs): the forced cells as the released guide's own fill.sh prints them over the translation 99dc8d7db57205b6… (all of the seat's roots in one cut). By AI agents, Wed Nov 11 2026. No macro, syntax, notation, axiom, sorry.
-/
import Derived.Test.YtomlhceogkfnlaaGreatChecked
import GoSem.Claim
import GoSem.ClaimJoined
import GoSem.ClaimMapViews
import Derived.JoinedTies
import Derived.KernelRfl
namespace Go.Proofs.YtomlhceogkfnlaaGreat
/- THE CELL 'sum', in the pinned program and in every row, IS THE sha256 OF THE DUMP (.gsa) THAT YtomlhceogkfnlaaGreatProg.lean LOADS. Nothing in Lean hashes anything: it is a label: what it is worth is what the hold of that sum in a sandbox is worth. -/
noncomputable def Tryz.pinned : Pinned := { name := "ytomlhceogkfnlaagreat", sum := "99dc8d7db57205b687137c26bc4ead17f700af001b179e0ac3d16a69dfab1bfb", checked := Tryz.checked }
namespace Rows
def none {H : Type} : Left H := { results := [], args := [] }

/-- 'leafmeshlaw22.TenantNumbers': WHATEVER THE INPUT: true; the input reads as it did. -/
def tenantNumbersSpec : ChangeSpec := { name := "tenantNumbers", fn := fun _ => fun
  | [d1, d2, d3, d4, d5] => { results := [.lit (.bool true)], args := [d1, d2, d3, d4, d5] }
  | _ => none }
def tenantNumbersRow : OpenClaim := { program := "ytomlhceogkfnlaagreat", sum := "99dc8d7db57205b687137c26bc4ead17f700af001b179e0ac3d16a69dfab1bfb", func := "leafmesh/leafmeshlaw22.TenantNumbers", spec := "tenantNumbers", unfollowed := true, recurses := true, plainKeys := false, apart := false }
def TenantNumbersSaid : Prop := tenantNumbersRow.holds Tryz.pinned (OpenSpec.ofChange tenantNumbersSpec)

/-- ITS FALSE NEIGHBOUR: 'it returns false'. Refute it at one input. -/
def tenantNumbersWrong : ChangeSpec := { name := "tenantNumbers", fn := fun _ => fun
  | [d1, d2, d3, d4, d5] => { results := [.lit (.bool false)], args := [d1, d2, d3, d4, d5] }
  | _ => none }
def TenantNumbersWrongFalsely : Prop := tenantNumbersRow.holds Tryz.pinned (OpenSpec.ofChange tenantNumbersWrong)

/-- 'leafmeshlaw27.HorizonEgress': WHATEVER THE INPUT: true; the input reads as it did. -/
def horizonEgressSpec : ChangeSpec := { name := "horizonEgress", fn := fun _ => fun
  | [d1, d2, d3, d4, d5, d6, d7, d8, d9] => { results := [.lit (.bool true)], args := [d1, d2, d3, d4, d5, d6, d7, d8, d9] }
  | _ => none }
def horizonEgressRow : OpenClaim := { program := "ytomlhceogkfnlaagreat", sum := "99dc8d7db57205b687137c26bc4ead17f700af001b179e0ac3d16a69dfab1bfb", func := "leafmesh/leafmeshlaw27.HorizonEgress", spec := "horizonEgress", unfollowed := true, recurses := true, plainKeys := false, apart := false }
def HorizonEgressSaid : Prop := horizonEgressRow.holds Tryz.pinned (OpenSpec.ofChange horizonEgressSpec)

/-- ITS FALSE NEIGHBOUR: 'it returns false'. Refute it at one input. -/
def horizonEgressWrong : ChangeSpec := { name := "horizonEgress", fn := fun _ => fun
  | [d1, d2, d3, d4, d5, d6, d7, d8, d9] => { results := [.lit (.bool false)], args := [d1, d2, d3, d4, d5, d6, d7, d8, d9] }
  | _ => none }
def HorizonEgressWrongFalsely : Prop := horizonEgressRow.holds Tryz.pinned (OpenSpec.ofChange horizonEgressWrong)

/-- 'leafmeshlaw27.HorizonOwn': WHATEVER THE INPUT: true; the input reads as it did. -/
def horizonOwnSpec : ChangeSpec := { name := "horizonOwn", fn := fun _ => fun
  | [d1, d2, d3, d4, d5, d6, d7, d8, d9] => { results := [.lit (.bool true)], args := [d1, d2, d3, d4, d5, d6, d7, d8, d9] }
  | _ => none }
def horizonOwnRow : OpenClaim := { program := "ytomlhceogkfnlaagreat", sum := "99dc8d7db57205b687137c26bc4ead17f700af001b179e0ac3d16a69dfab1bfb", func := "leafmesh/leafmeshlaw27.HorizonOwn", spec := "horizonOwn", unfollowed := true, recurses := true, plainKeys := false, apart := false }
def HorizonOwnSaid : Prop := horizonOwnRow.holds Tryz.pinned (OpenSpec.ofChange horizonOwnSpec)

/-- ITS FALSE NEIGHBOUR: 'it returns false'. Refute it at one input. -/
def horizonOwnWrong : ChangeSpec := { name := "horizonOwn", fn := fun _ => fun
  | [d1, d2, d3, d4, d5, d6, d7, d8, d9] => { results := [.lit (.bool false)], args := [d1, d2, d3, d4, d5, d6, d7, d8, d9] }
  | _ => none }
def HorizonOwnWrongFalsely : Prop := horizonOwnRow.holds Tryz.pinned (OpenSpec.ofChange horizonOwnWrong)

/-- 'leafmeshlaw27.HorizonOnce': WHATEVER THE INPUT: true; the input reads as it did. -/
def horizonOnceSpec : ChangeSpec := { name := "horizonOnce", fn := fun _ => fun
  | [d1, d2, d3, d4, d5, d6] => { results := [.lit (.bool true)], args := [d1, d2, d3, d4, d5, d6] }
  | _ => none }
def horizonOnceRow : OpenClaim := { program := "ytomlhceogkfnlaagreat", sum := "99dc8d7db57205b687137c26bc4ead17f700af001b179e0ac3d16a69dfab1bfb", func := "leafmesh/leafmeshlaw27.HorizonOnce", spec := "horizonOnce", unfollowed := true, recurses := true, plainKeys := false, apart := false }
def HorizonOnceSaid : Prop := horizonOnceRow.holds Tryz.pinned (OpenSpec.ofChange horizonOnceSpec)

/-- ITS FALSE NEIGHBOUR: 'it returns false'. Refute it at one input. -/
def horizonOnceWrong : ChangeSpec := { name := "horizonOnce", fn := fun _ => fun
  | [d1, d2, d3, d4, d5, d6] => { results := [.lit (.bool false)], args := [d1, d2, d3, d4, d5, d6] }
  | _ => none }
def HorizonOnceWrongFalsely : Prop := horizonOnceRow.holds Tryz.pinned (OpenSpec.ofChange horizonOnceWrong)

/-- 'leafmeshlaw31.GatewayRoutes': WHATEVER THE INPUT: true; the input reads as it did. -/
def gatewayRoutesSpec : ChangeSpec := { name := "gatewayRoutes", fn := fun _ => fun
  | [d1, d2, d3, d4, d5, d6] => { results := [.lit (.bool true)], args := [d1, d2, d3, d4, d5, d6] }
  | _ => none }
def gatewayRoutesRow : OpenClaim := { program := "ytomlhceogkfnlaagreat", sum := "99dc8d7db57205b687137c26bc4ead17f700af001b179e0ac3d16a69dfab1bfb", func := "leafmesh/leafmeshlaw31.GatewayRoutes", spec := "gatewayRoutes", unfollowed := true, recurses := true, plainKeys := false, apart := false }
def GatewayRoutesSaid : Prop := gatewayRoutesRow.holds Tryz.pinned (OpenSpec.ofChange gatewayRoutesSpec)

/-- ITS FALSE NEIGHBOUR: 'it returns false'. Refute it at one input. -/
def gatewayRoutesWrong : ChangeSpec := { name := "gatewayRoutes", fn := fun _ => fun
  | [d1, d2, d3, d4, d5, d6] => { results := [.lit (.bool false)], args := [d1, d2, d3, d4, d5, d6] }
  | _ => none }
def GatewayRoutesWrongFalsely : Prop := gatewayRoutesRow.holds Tryz.pinned (OpenSpec.ofChange gatewayRoutesWrong)

/-- 'leafmeshlaw31.GatewayMine': WHATEVER THE INPUT: true; the input reads as it did. -/
def gatewayMineSpec : ChangeSpec := { name := "gatewayMine", fn := fun _ => fun
  | [d1, d2, d3, d4] => { results := [.lit (.bool true)], args := [d1, d2, d3, d4] }
  | _ => none }
def gatewayMineRow : OpenClaim := { program := "ytomlhceogkfnlaagreat", sum := "99dc8d7db57205b687137c26bc4ead17f700af001b179e0ac3d16a69dfab1bfb", func := "leafmesh/leafmeshlaw31.GatewayMine", spec := "gatewayMine", unfollowed := true, recurses := true, plainKeys := false, apart := false }
def GatewayMineSaid : Prop := gatewayMineRow.holds Tryz.pinned (OpenSpec.ofChange gatewayMineSpec)

/-- ITS FALSE NEIGHBOUR: 'it returns false'. Refute it at one input. -/
def gatewayMineWrong : ChangeSpec := { name := "gatewayMine", fn := fun _ => fun
  | [d1, d2, d3, d4] => { results := [.lit (.bool false)], args := [d1, d2, d3, d4] }
  | _ => none }
def GatewayMineWrongFalsely : Prop := gatewayMineRow.holds Tryz.pinned (OpenSpec.ofChange gatewayMineWrong)

/- THE SECOND FORM. 'bulk': how many values and letters a reading holds, each counted each time it is reached (what is shared counts as often as it is met; a slice's spare places count too). A statement '..UptoSaid' is the law's where the arguments, and the package variables that the reading takes, are together of bulk at most 1048576: NARROWER than '..Said'. Prove '..Said' where nothing that the law and all that it calls make is longer than what came in: it says more and counts as full. Else prove '..UptoSaid'. A law counts once. -/
mutual
def uptoBulk {H : Type} : DataW H → Nat
  | .lit (.string bytes) => bytes.length + 1
  | .lit _ => 1
  | .nil => 1
  | .ptr d => uptoBulk d + 1
  | .slice elems spare => uptoBulkAll elems + uptoBulkAll spare + 1
  | .agg parts => uptoBulkAll parts + 1
  | .iface _ d => uptoBulk d + 1
  | .map entries => uptoBulkEntries entries + 1
  | .held _ => 1
def uptoBulkAll {H : Type} : List (DataW H) → Nat
  | [] => 0
  | d :: r => uptoBulk d + uptoBulkAll r
def uptoBulkEntries {H : Type} : List (Lit × DataW H) → Nat
  | [] => 0
  | x :: r => uptoBulkEntry x + uptoBulkEntries r
def uptoBulkEntry {H : Type} : Lit × DataW H → Nat
  | (.string bytes, d) => bytes.length + uptoBulk d + 1
  | (_, d) => uptoBulk d + 1
 end
def uptoSmall : (H : Type) → List (DataW H) → Bool := fun _ ds => decide (uptoBulkAll ds ≤ 1048576)
def OpenSpec.upto (s : _root_.Go.ChangeSpec) : _root_.Go.OpenSpec := { _root_.Go.OpenSpec.ofChange s with cond := some uptoSmall }

/-- 'leafmeshlaw22.TenantNumbers', WHERE WHAT IT READS IS OF BULK AT MOST 1048576: true; the input reads as it did. -/
def tenantNumbersUptoRow : OpenClaim := { program := "ytomlhceogkfnlaagreat", sum := "99dc8d7db57205b687137c26bc4ead17f700af001b179e0ac3d16a69dfab1bfb", func := "leafmesh/leafmeshlaw22.TenantNumbers", spec := "tenantNumbers", unfollowed := true, recurses := true, plainKeys := false, apart := false, narrowed := true }
def TenantNumbersUptoSaid : Prop := tenantNumbersUptoRow.holds Tryz.pinned (OpenSpec.upto tenantNumbersSpec)

/-- 'leafmeshlaw27.HorizonEgress', WHERE WHAT IT READS IS OF BULK AT MOST 1048576: true; the input reads as it did. -/
def horizonEgressUptoRow : OpenClaim := { program := "ytomlhceogkfnlaagreat", sum := "99dc8d7db57205b687137c26bc4ead17f700af001b179e0ac3d16a69dfab1bfb", func := "leafmesh/leafmeshlaw27.HorizonEgress", spec := "horizonEgress", unfollowed := true, recurses := true, plainKeys := false, apart := false, narrowed := true }
def HorizonEgressUptoSaid : Prop := horizonEgressUptoRow.holds Tryz.pinned (OpenSpec.upto horizonEgressSpec)

/-- 'leafmeshlaw27.HorizonOwn', WHERE WHAT IT READS IS OF BULK AT MOST 1048576: true; the input reads as it did. -/
def horizonOwnUptoRow : OpenClaim := { program := "ytomlhceogkfnlaagreat", sum := "99dc8d7db57205b687137c26bc4ead17f700af001b179e0ac3d16a69dfab1bfb", func := "leafmesh/leafmeshlaw27.HorizonOwn", spec := "horizonOwn", unfollowed := true, recurses := true, plainKeys := false, apart := false, narrowed := true }
def HorizonOwnUptoSaid : Prop := horizonOwnUptoRow.holds Tryz.pinned (OpenSpec.upto horizonOwnSpec)

/-- 'leafmeshlaw27.HorizonOnce', WHERE WHAT IT READS IS OF BULK AT MOST 1048576: true; the input reads as it did. -/
def horizonOnceUptoRow : OpenClaim := { program := "ytomlhceogkfnlaagreat", sum := "99dc8d7db57205b687137c26bc4ead17f700af001b179e0ac3d16a69dfab1bfb", func := "leafmesh/leafmeshlaw27.HorizonOnce", spec := "horizonOnce", unfollowed := true, recurses := true, plainKeys := false, apart := false, narrowed := true }
def HorizonOnceUptoSaid : Prop := horizonOnceUptoRow.holds Tryz.pinned (OpenSpec.upto horizonOnceSpec)

/-- 'leafmeshlaw31.GatewayRoutes', WHERE WHAT IT READS IS OF BULK AT MOST 1048576: true; the input reads as it did. -/
def gatewayRoutesUptoRow : OpenClaim := { program := "ytomlhceogkfnlaagreat", sum := "99dc8d7db57205b687137c26bc4ead17f700af001b179e0ac3d16a69dfab1bfb", func := "leafmesh/leafmeshlaw31.GatewayRoutes", spec := "gatewayRoutes", unfollowed := true, recurses := true, plainKeys := false, apart := false, narrowed := true }
def GatewayRoutesUptoSaid : Prop := gatewayRoutesUptoRow.holds Tryz.pinned (OpenSpec.upto gatewayRoutesSpec)

/-- 'leafmeshlaw31.GatewayMine', WHERE WHAT IT READS IS OF BULK AT MOST 1048576: true; the input reads as it did. -/
def gatewayMineUptoRow : OpenClaim := { program := "ytomlhceogkfnlaagreat", sum := "99dc8d7db57205b687137c26bc4ead17f700af001b179e0ac3d16a69dfab1bfb", func := "leafmesh/leafmeshlaw31.GatewayMine", spec := "gatewayMine", unfollowed := true, recurses := true, plainKeys := false, apart := false, narrowed := true }
def GatewayMineUptoSaid : Prop := gatewayMineUptoRow.holds Tryz.pinned (OpenSpec.upto gatewayMineSpec)

end Rows
end Go.Proofs.YtomlhceogkfnlaaGreat
