/-
  No cell of these rows narrows 'for every input' (looked for: loops, veiled, ifaces, maps, wideKeys, modest, calm, conditions, laid).
  DERIVED. THE GIVEN ROWS OF THIS SEAT. 3 by the template 'for every input the law returns true; each argument reads behind the call as it read before'; 0 by the template 'total and deterministic' (their statements: YtiabcibbojpclaaTotals.lean).
  GIVEN WITH THE SEED: the statements are not yours to turn. If you find one false, say at which input.
  Laid BY PROGRAM, IN A SANDBOX (cutbox-rows.mjs): the forced cells as the released guide's own fill.sh prints them over the translation d87d0da3e987d7aa… (all of the seat's roots in one cut). By AI agents, Wed Nov 11 2026. No macro, syntax, notation, axiom, sorry.
-/
import Derived.Test.YtiabcibbojpclaaChecked
import GoSem.Claim
import GoSem.ClaimJoined
import GoSem.ClaimMapViews
import Derived.JoinedTies
import Derived.KernelRfl
namespace Go.Proofs.Ytiabcibbojpclaa
/- THE CELL 'sum', in the pinned program and in every row, IS THE sha256 OF THE DUMP (.gsa) THAT YtiabcibbojpclaaProg.lean LOADS. Nothing in Lean hashes anything: it is a label: what it is worth is what the hold of that sum in a sandbox is worth. -/
noncomputable def Try.pinned : Pinned := { name := "ytiabcibbojpclaa", sum := "d87d0da3e987d7aa5ed411ac6690dd783b6b8353f0fe14e4f2693a8f41afbae6", checked := Try.checked }
namespace Rows
def none {H : Type} : Left H := { results := [], args := [] }

/-- 'leafmeshlaw31.GatewayKnown': WHATEVER THE INPUT: true; the input reads as it did. -/
def gatewayKnownSpec : ChangeSpec := { name := "gatewayKnown", fn := fun _ => fun
  | [] => { results := [.lit (.bool true)], args := [] }
  | _ => none }
def gatewayKnownRow : OpenClaim := { program := "ytiabcibbojpclaa", sum := "d87d0da3e987d7aa5ed411ac6690dd783b6b8353f0fe14e4f2693a8f41afbae6", func := "leafmesh/leafmeshlaw31.GatewayKnown", spec := "gatewayKnown", unfollowed := true, recurses := true, plainKeys := false, apart := false }
def GatewayKnownSaid : Prop := gatewayKnownRow.holds Try.pinned (OpenSpec.ofChange gatewayKnownSpec)

/-- ITS FALSE NEIGHBOUR: 'it returns false'. Refute it at one input. -/
def gatewayKnownWrong : ChangeSpec := { name := "gatewayKnown", fn := fun _ => fun
  | [] => { results := [.lit (.bool false)], args := [] }
  | _ => none }
def GatewayKnownWrongFalsely : Prop := gatewayKnownRow.holds Try.pinned (OpenSpec.ofChange gatewayKnownWrong)

/-- 'leafmeshlaw31.GatewayKeeps': WHATEVER THE INPUT: true; the input reads as it did. -/
def gatewayKeepsSpec : ChangeSpec := { name := "gatewayKeeps", fn := fun _ => fun
  | [d1, d2, d3, d4, d5, d6] => { results := [.lit (.bool true)], args := [d1, d2, d3, d4, d5, d6] }
  | _ => none }
def gatewayKeepsRow : OpenClaim := { program := "ytiabcibbojpclaa", sum := "d87d0da3e987d7aa5ed411ac6690dd783b6b8353f0fe14e4f2693a8f41afbae6", func := "leafmesh/leafmeshlaw31.GatewayKeeps", spec := "gatewayKeeps", unfollowed := true, recurses := true, plainKeys := false, apart := false }
def GatewayKeepsSaid : Prop := gatewayKeepsRow.holds Try.pinned (OpenSpec.ofChange gatewayKeepsSpec)

/-- ITS FALSE NEIGHBOUR: 'it returns false'. Refute it at one input. -/
def gatewayKeepsWrong : ChangeSpec := { name := "gatewayKeeps", fn := fun _ => fun
  | [d1, d2, d3, d4, d5, d6] => { results := [.lit (.bool false)], args := [d1, d2, d3, d4, d5, d6] }
  | _ => none }
def GatewayKeepsWrongFalsely : Prop := gatewayKeepsRow.holds Try.pinned (OpenSpec.ofChange gatewayKeepsWrong)

/-- 'leafmeshlaw31.GatewayApart': WHATEVER THE INPUT: true; the input reads as it did. -/
def gatewayApartSpec : ChangeSpec := { name := "gatewayApart", fn := fun _ => fun
  | [d1, d2, d3, d4, d5, d6] => { results := [.lit (.bool true)], args := [d1, d2, d3, d4, d5, d6] }
  | _ => none }
def gatewayApartRow : OpenClaim := { program := "ytiabcibbojpclaa", sum := "d87d0da3e987d7aa5ed411ac6690dd783b6b8353f0fe14e4f2693a8f41afbae6", func := "leafmesh/leafmeshlaw31.GatewayApart", spec := "gatewayApart", unfollowed := true, recurses := true, plainKeys := false, apart := false }
def GatewayApartSaid : Prop := gatewayApartRow.holds Try.pinned (OpenSpec.ofChange gatewayApartSpec)

/-- ITS FALSE NEIGHBOUR: 'it returns false'. Refute it at one input. -/
def gatewayApartWrong : ChangeSpec := { name := "gatewayApart", fn := fun _ => fun
  | [d1, d2, d3, d4, d5, d6] => { results := [.lit (.bool false)], args := [d1, d2, d3, d4, d5, d6] }
  | _ => none }
def GatewayApartWrongFalsely : Prop := gatewayApartRow.holds Try.pinned (OpenSpec.ofChange gatewayApartWrong)

/- THE SECOND FORM. 'bulk': how many values and letters a reading holds, each counted each time it is reached (what is shared counts as often as it is met; a slice's spare places count too). A statement '..UptoSaid' is the law's where the arguments, and the package variables that the reading takes, are together of bulk at most 1048576: NARROWER than '..Said'. Prove '..Said' where nothing that the law and all that it calls make is longer than what came in: it says more and counts as full. Else prove '..UptoSaid'. A law counts once. -/
mutual
def uptoBulk {H : Type} : DataW H → Nat
  | .lit (.string bytes) => bytes.length + 1
  | .lit _ => 1
  | .nil => 1
  | .ptr d => uptoBulk d + 1
  | .slice elems spare => uptoBulkAll elems + uptoBulkAll spare + 1
  | .agg parts => uptoBulkAll parts + 1
  | .iface _ d => uptoBulk d + 1
  | .map entries => uptoBulkEntries entries + 1
  | .held _ => 1
def uptoBulkAll {H : Type} : List (DataW H) → Nat
  | [] => 0
  | d :: r => uptoBulk d + uptoBulkAll r
def uptoBulkEntries {H : Type} : List (Lit × DataW H) → Nat
  | [] => 0
  | x :: r => uptoBulkEntry x + uptoBulkEntries r
def uptoBulkEntry {H : Type} : Lit × DataW H → Nat
  | (.string bytes, d) => bytes.length + uptoBulk d + 1
  | (_, d) => uptoBulk d + 1
 end
def uptoSmall : (H : Type) → List (DataW H) → Bool := fun _ ds => decide (uptoBulkAll ds ≤ 1048576)
def OpenSpec.upto (s : _root_.Go.ChangeSpec) : _root_.Go.OpenSpec := { _root_.Go.OpenSpec.ofChange s with cond := some uptoSmall }

/-- 'leafmeshlaw31.GatewayKnown', WHERE WHAT IT READS IS OF BULK AT MOST 1048576: true; the input reads as it did. -/
def gatewayKnownUptoRow : OpenClaim := { program := "ytiabcibbojpclaa", sum := "d87d0da3e987d7aa5ed411ac6690dd783b6b8353f0fe14e4f2693a8f41afbae6", func := "leafmesh/leafmeshlaw31.GatewayKnown", spec := "gatewayKnown", unfollowed := true, recurses := true, plainKeys := false, apart := false, narrowed := true }
def GatewayKnownUptoSaid : Prop := gatewayKnownUptoRow.holds Try.pinned (OpenSpec.upto gatewayKnownSpec)

/-- 'leafmeshlaw31.GatewayKeeps', WHERE WHAT IT READS IS OF BULK AT MOST 1048576: true; the input reads as it did. -/
def gatewayKeepsUptoRow : OpenClaim := { program := "ytiabcibbojpclaa", sum := "d87d0da3e987d7aa5ed411ac6690dd783b6b8353f0fe14e4f2693a8f41afbae6", func := "leafmesh/leafmeshlaw31.GatewayKeeps", spec := "gatewayKeeps", unfollowed := true, recurses := true, plainKeys := false, apart := false, narrowed := true }
def GatewayKeepsUptoSaid : Prop := gatewayKeepsUptoRow.holds Try.pinned (OpenSpec.upto gatewayKeepsSpec)

/-- 'leafmeshlaw31.GatewayApart', WHERE WHAT IT READS IS OF BULK AT MOST 1048576: true; the input reads as it did. -/
def gatewayApartUptoRow : OpenClaim := { program := "ytiabcibbojpclaa", sum := "d87d0da3e987d7aa5ed411ac6690dd783b6b8353f0fe14e4f2693a8f41afbae6", func := "leafmesh/leafmeshlaw31.GatewayApart", spec := "gatewayApart", unfollowed := true, recurses := true, plainKeys := false, apart := false, narrowed := true }
def GatewayApartUptoSaid : Prop := gatewayApartUptoRow.holds Try.pinned (OpenSpec.upto gatewayApartSpec)

end Rows
end Go.Proofs.Ytiabcibbojpclaa
