/-
  No cell of these rows narrows 'for every input' (looked for: loops, veiled, ifaces, maps, wideKeys, modest, calm, conditions, laid).
  DERIVED. THE GIVEN ROWS OF THIS SEAT. 7 by the template 'for every input the law returns true; each argument reads behind the call as it read before'; 0 by the template 'total and deterministic' (their statements: YtomlhceogkfnlaaTotals.lean).
  GIVEN WITH THE SEED: the statements are not yours to turn. If you find one false, say at which input.
  Laid BY PROGRAM, IN A SANDBOX (cutbox-rows.mjs): the forced cells as the released guide's own fill.sh prints them over the translation 50027e3cc2ec0089… (all of the seat's roots in one cut). By AI agents, Wed Nov 11 2026. No macro, syntax, notation, axiom, sorry.
-/
import Derived.Test.YtomlhceogkfnlaaChecked
import GoSem.Claim
import GoSem.ClaimJoined
import GoSem.ClaimMapViews
import Derived.JoinedTies
import Derived.KernelRfl
namespace Go.Proofs.Ytomlhceogkfnlaa
/- THE CELL 'sum', in the pinned program and in every row, IS THE sha256 OF THE DUMP (.gsa) THAT YtomlhceogkfnlaaProg.lean LOADS. Nothing in Lean hashes anything: it is a label: what it is worth is what the hold of that sum in a sandbox is worth. -/
noncomputable def Try.pinned : Pinned := { name := "ytomlhceogkfnlaa", sum := "50027e3cc2ec008950d66bdab6f052f77c8489e63d03d0723b68729105d6c96b", checked := Try.checked }
namespace Rows
def none {H : Type} : Left H := { results := [], args := [] }

/-- 'leafmeshlaw22.TenantChecks': WHATEVER THE INPUT: true; the input reads as it did. -/
def tenantChecksSpec : ChangeSpec := { name := "tenantChecks", fn := fun _ => fun
  | [d] => { results := [.lit (.bool true)], args := [d] }
  | _ => none }
def tenantChecksRow : OpenClaim := { program := "ytomlhceogkfnlaa", sum := "50027e3cc2ec008950d66bdab6f052f77c8489e63d03d0723b68729105d6c96b", func := "leafmesh/leafmeshlaw22.TenantChecks", spec := "tenantChecks", unfollowed := true, recurses := true, plainKeys := false, apart := false }
def TenantChecksSaid : Prop := tenantChecksRow.holds Try.pinned (OpenSpec.ofChange tenantChecksSpec)

/-- ITS FALSE NEIGHBOUR: 'it returns false'. Refute it at one input. -/
def tenantChecksWrong : ChangeSpec := { name := "tenantChecks", fn := fun _ => fun
  | [d] => { results := [.lit (.bool false)], args := [d] }
  | _ => none }
def TenantChecksWrongFalsely : Prop := tenantChecksRow.holds Try.pinned (OpenSpec.ofChange tenantChecksWrong)

/-- 'leafmeshlaw22.TenantFull': WHATEVER THE INPUT: true; the input reads as it did. -/
def tenantFullSpec : ChangeSpec := { name := "tenantFull", fn := fun _ => fun
  | [d1, d2] => { results := [.lit (.bool true)], args := [d1, d2] }
  | _ => none }
def tenantFullRow : OpenClaim := { program := "ytomlhceogkfnlaa", sum := "50027e3cc2ec008950d66bdab6f052f77c8489e63d03d0723b68729105d6c96b", func := "leafmesh/leafmeshlaw22.TenantFull", spec := "tenantFull", unfollowed := true, recurses := true, plainKeys := false, apart := false }
def TenantFullSaid : Prop := tenantFullRow.holds Try.pinned (OpenSpec.ofChange tenantFullSpec)

/-- ITS FALSE NEIGHBOUR: 'it returns false'. Refute it at one input. -/
def tenantFullWrong : ChangeSpec := { name := "tenantFull", fn := fun _ => fun
  | [d1, d2] => { results := [.lit (.bool false)], args := [d1, d2] }
  | _ => none }
def TenantFullWrongFalsely : Prop := tenantFullRow.holds Try.pinned (OpenSpec.ofChange tenantFullWrong)

/-- 'leafmeshlaw22.TenantFewer': WHATEVER THE INPUT: true; the input reads as it did. -/
def tenantFewerSpec : ChangeSpec := { name := "tenantFewer", fn := fun _ => fun
  | [d1, d2, d3] => { results := [.lit (.bool true)], args := [d1, d2, d3] }
  | _ => none }
def tenantFewerRow : OpenClaim := { program := "ytomlhceogkfnlaa", sum := "50027e3cc2ec008950d66bdab6f052f77c8489e63d03d0723b68729105d6c96b", func := "leafmesh/leafmeshlaw22.TenantFewer", spec := "tenantFewer", unfollowed := true, recurses := true, plainKeys := false, apart := false }
def TenantFewerSaid : Prop := tenantFewerRow.holds Try.pinned (OpenSpec.ofChange tenantFewerSpec)

/-- ITS FALSE NEIGHBOUR: 'it returns false'. Refute it at one input. -/
def tenantFewerWrong : ChangeSpec := { name := "tenantFewer", fn := fun _ => fun
  | [d1, d2, d3] => { results := [.lit (.bool false)], args := [d1, d2, d3] }
  | _ => none }
def TenantFewerWrongFalsely : Prop := tenantFewerRow.holds Try.pinned (OpenSpec.ofChange tenantFewerWrong)

/-- 'leafmeshlaw22.TenantCopies': WHATEVER THE INPUT: true; the input reads as it did. -/
def tenantCopiesSpec : ChangeSpec := { name := "tenantCopies", fn := fun _ => fun
  | [d] => { results := [.lit (.bool true)], args := [d] }
  | _ => none }
def tenantCopiesRow : OpenClaim := { program := "ytomlhceogkfnlaa", sum := "50027e3cc2ec008950d66bdab6f052f77c8489e63d03d0723b68729105d6c96b", func := "leafmesh/leafmeshlaw22.TenantCopies", spec := "tenantCopies", unfollowed := true, recurses := true, plainKeys := false, apart := false }
def TenantCopiesSaid : Prop := tenantCopiesRow.holds Try.pinned (OpenSpec.ofChange tenantCopiesSpec)

/-- ITS FALSE NEIGHBOUR: 'it returns false'. Refute it at one input. -/
def tenantCopiesWrong : ChangeSpec := { name := "tenantCopies", fn := fun _ => fun
  | [d] => { results := [.lit (.bool false)], args := [d] }
  | _ => none }
def TenantCopiesWrongFalsely : Prop := tenantCopiesRow.holds Try.pinned (OpenSpec.ofChange tenantCopiesWrong)

/-- 'leafmeshlaw22.TenantApart': WHATEVER THE INPUT: true; the input reads as it did. -/
def tenantApartSpec : ChangeSpec := { name := "tenantApart", fn := fun _ => fun
  | [d] => { results := [.lit (.bool true)], args := [d] }
  | _ => none }
def tenantApartRow : OpenClaim := { program := "ytomlhceogkfnlaa", sum := "50027e3cc2ec008950d66bdab6f052f77c8489e63d03d0723b68729105d6c96b", func := "leafmesh/leafmeshlaw22.TenantApart", spec := "tenantApart", unfollowed := true, recurses := true, plainKeys := false, apart := false }
def TenantApartSaid : Prop := tenantApartRow.holds Try.pinned (OpenSpec.ofChange tenantApartSpec)

/-- ITS FALSE NEIGHBOUR: 'it returns false'. Refute it at one input. -/
def tenantApartWrong : ChangeSpec := { name := "tenantApart", fn := fun _ => fun
  | [d] => { results := [.lit (.bool false)], args := [d] }
  | _ => none }
def TenantApartWrongFalsely : Prop := tenantApartRow.holds Try.pinned (OpenSpec.ofChange tenantApartWrong)

/-- 'leafmeshlaw31.GatewayKeeps': WHATEVER THE INPUT: true; the input reads as it did. -/
def gatewayKeepsSpec : ChangeSpec := { name := "gatewayKeeps", fn := fun _ => fun
  | [d1, d2, d3, d4, d5, d6] => { results := [.lit (.bool true)], args := [d1, d2, d3, d4, d5, d6] }
  | _ => none }
def gatewayKeepsRow : OpenClaim := { program := "ytomlhceogkfnlaa", sum := "50027e3cc2ec008950d66bdab6f052f77c8489e63d03d0723b68729105d6c96b", func := "leafmesh/leafmeshlaw31.GatewayKeeps", spec := "gatewayKeeps", unfollowed := true, recurses := true, plainKeys := false, apart := false }
def GatewayKeepsSaid : Prop := gatewayKeepsRow.holds Try.pinned (OpenSpec.ofChange gatewayKeepsSpec)

/-- ITS FALSE NEIGHBOUR: 'it returns false'. Refute it at one input. -/
def gatewayKeepsWrong : ChangeSpec := { name := "gatewayKeeps", fn := fun _ => fun
  | [d1, d2, d3, d4, d5, d6] => { results := [.lit (.bool false)], args := [d1, d2, d3, d4, d5, d6] }
  | _ => none }
def GatewayKeepsWrongFalsely : Prop := gatewayKeepsRow.holds Try.pinned (OpenSpec.ofChange gatewayKeepsWrong)

/-- 'leafmeshlaw31.GatewayApart': WHATEVER THE INPUT: true; the input reads as it did. -/
def gatewayApartSpec : ChangeSpec := { name := "gatewayApart", fn := fun _ => fun
  | [d1, d2, d3, d4, d5, d6] => { results := [.lit (.bool true)], args := [d1, d2, d3, d4, d5, d6] }
  | _ => none }
def gatewayApartRow : OpenClaim := { program := "ytomlhceogkfnlaa", sum := "50027e3cc2ec008950d66bdab6f052f77c8489e63d03d0723b68729105d6c96b", func := "leafmesh/leafmeshlaw31.GatewayApart", spec := "gatewayApart", unfollowed := true, recurses := true, plainKeys := false, apart := false }
def GatewayApartSaid : Prop := gatewayApartRow.holds Try.pinned (OpenSpec.ofChange gatewayApartSpec)

/-- ITS FALSE NEIGHBOUR: 'it returns false'. Refute it at one input. -/
def gatewayApartWrong : ChangeSpec := { name := "gatewayApart", fn := fun _ => fun
  | [d1, d2, d3, d4, d5, d6] => { results := [.lit (.bool false)], args := [d1, d2, d3, d4, d5, d6] }
  | _ => none }
def GatewayApartWrongFalsely : Prop := gatewayApartRow.holds Try.pinned (OpenSpec.ofChange gatewayApartWrong)

/- THE SECOND FORM. 'bulk': how many values and letters a reading holds, each counted each time it is reached (what is shared counts as often as it is met; a slice's spare places count too). A statement '..UptoSaid' is the law's where the arguments, and the package variables that the reading takes, are together of bulk at most 1048576: NARROWER than '..Said'. Prove '..Said' where nothing that the law and all that it calls make is longer than what came in: it says more and counts as full. Else prove '..UptoSaid'. A law counts once. -/
mutual
def uptoBulk {H : Type} : DataW H → Nat
  | .lit (.string bytes) => bytes.length + 1
  | .lit _ => 1
  | .nil => 1
  | .ptr d => uptoBulk d + 1
  | .slice elems spare => uptoBulkAll elems + uptoBulkAll spare + 1
  | .agg parts => uptoBulkAll parts + 1
  | .iface _ d => uptoBulk d + 1
  | .map entries => uptoBulkEntries entries + 1
  | .held _ => 1
def uptoBulkAll {H : Type} : List (DataW H) → Nat
  | [] => 0
  | d :: r => uptoBulk d + uptoBulkAll r
def uptoBulkEntries {H : Type} : List (Lit × DataW H) → Nat
  | [] => 0
  | x :: r => uptoBulkEntry x + uptoBulkEntries r
def uptoBulkEntry {H : Type} : Lit × DataW H → Nat
  | (.string bytes, d) => bytes.length + uptoBulk d + 1
  | (_, d) => uptoBulk d + 1
 end
def uptoSmall : (H : Type) → List (DataW H) → Bool := fun _ ds => decide (uptoBulkAll ds ≤ 1048576)
def OpenSpec.upto (s : _root_.Go.ChangeSpec) : _root_.Go.OpenSpec := { _root_.Go.OpenSpec.ofChange s with cond := some uptoSmall }

/-- 'leafmeshlaw22.TenantChecks', WHERE WHAT IT READS IS OF BULK AT MOST 1048576: true; the input reads as it did. -/
def tenantChecksUptoRow : OpenClaim := { program := "ytomlhceogkfnlaa", sum := "50027e3cc2ec008950d66bdab6f052f77c8489e63d03d0723b68729105d6c96b", func := "leafmesh/leafmeshlaw22.TenantChecks", spec := "tenantChecks", unfollowed := true, recurses := true, plainKeys := false, apart := false, narrowed := true }
def TenantChecksUptoSaid : Prop := tenantChecksUptoRow.holds Try.pinned (OpenSpec.upto tenantChecksSpec)

/-- 'leafmeshlaw22.TenantFull', WHERE WHAT IT READS IS OF BULK AT MOST 1048576: true; the input reads as it did. -/
def tenantFullUptoRow : OpenClaim := { program := "ytomlhceogkfnlaa", sum := "50027e3cc2ec008950d66bdab6f052f77c8489e63d03d0723b68729105d6c96b", func := "leafmesh/leafmeshlaw22.TenantFull", spec := "tenantFull", unfollowed := true, recurses := true, plainKeys := false, apart := false, narrowed := true }
def TenantFullUptoSaid : Prop := tenantFullUptoRow.holds Try.pinned (OpenSpec.upto tenantFullSpec)

/-- 'leafmeshlaw22.TenantFewer', WHERE WHAT IT READS IS OF BULK AT MOST 1048576: true; the input reads as it did. -/
def tenantFewerUptoRow : OpenClaim := { program := "ytomlhceogkfnlaa", sum := "50027e3cc2ec008950d66bdab6f052f77c8489e63d03d0723b68729105d6c96b", func := "leafmesh/leafmeshlaw22.TenantFewer", spec := "tenantFewer", unfollowed := true, recurses := true, plainKeys := false, apart := false, narrowed := true }
def TenantFewerUptoSaid : Prop := tenantFewerUptoRow.holds Try.pinned (OpenSpec.upto tenantFewerSpec)

/-- 'leafmeshlaw22.TenantCopies', WHERE WHAT IT READS IS OF BULK AT MOST 1048576: true; the input reads as it did. -/
def tenantCopiesUptoRow : OpenClaim := { program := "ytomlhceogkfnlaa", sum := "50027e3cc2ec008950d66bdab6f052f77c8489e63d03d0723b68729105d6c96b", func := "leafmesh/leafmeshlaw22.TenantCopies", spec := "tenantCopies", unfollowed := true, recurses := true, plainKeys := false, apart := false, narrowed := true }
def TenantCopiesUptoSaid : Prop := tenantCopiesUptoRow.holds Try.pinned (OpenSpec.upto tenantCopiesSpec)

/-- 'leafmeshlaw22.TenantApart', WHERE WHAT IT READS IS OF BULK AT MOST 1048576: true; the input reads as it did. -/
def tenantApartUptoRow : OpenClaim := { program := "ytomlhceogkfnlaa", sum := "50027e3cc2ec008950d66bdab6f052f77c8489e63d03d0723b68729105d6c96b", func := "leafmesh/leafmeshlaw22.TenantApart", spec := "tenantApart", unfollowed := true, recurses := true, plainKeys := false, apart := false, narrowed := true }
def TenantApartUptoSaid : Prop := tenantApartUptoRow.holds Try.pinned (OpenSpec.upto tenantApartSpec)

/-- 'leafmeshlaw31.GatewayKeeps', WHERE WHAT IT READS IS OF BULK AT MOST 1048576: true; the input reads as it did. -/
def gatewayKeepsUptoRow : OpenClaim := { program := "ytomlhceogkfnlaa", sum := "50027e3cc2ec008950d66bdab6f052f77c8489e63d03d0723b68729105d6c96b", func := "leafmesh/leafmeshlaw31.GatewayKeeps", spec := "gatewayKeeps", unfollowed := true, recurses := true, plainKeys := false, apart := false, narrowed := true }
def GatewayKeepsUptoSaid : Prop := gatewayKeepsUptoRow.holds Try.pinned (OpenSpec.upto gatewayKeepsSpec)

/-- 'leafmeshlaw31.GatewayApart', WHERE WHAT IT READS IS OF BULK AT MOST 1048576: true; the input reads as it did. -/
def gatewayApartUptoRow : OpenClaim := { program := "ytomlhceogkfnlaa", sum := "50027e3cc2ec008950d66bdab6f052f77c8489e63d03d0723b68729105d6c96b", func := "leafmesh/leafmeshlaw31.GatewayApart", spec := "gatewayApart", unfollowed := true, recurses := true, plainKeys := false, apart := false, narrowed := true }
def GatewayApartUptoSaid : Prop := gatewayApartUptoRow.holds Try.pinned (OpenSpec.upto gatewayApartSpec)

end Rows
end Go.Proofs.Ytomlhceogkfnlaa
