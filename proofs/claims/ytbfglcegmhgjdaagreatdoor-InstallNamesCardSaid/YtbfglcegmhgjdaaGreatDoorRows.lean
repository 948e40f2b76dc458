/-
  NARROWER THAN 'FOR EVERY INPUT', by the rows' own cells (each row's printed sentence says how): InstallNames: laid.
  DERIVED. THE GIVEN ROWS OF THIS SEAT. 1 by the template 'for every input the law returns true; each argument reads behind the call as it read before'; 0 by the template 'total and deterministic' (their statements: YtbfglcegmhgjdaaGreatDoorTotals.lean).
  GIVEN WITH THE SEED: the statements are not yours to turn. If you find one false, say at which input.
  Laid BY PROGRAM, IN A SANDBOX (cutbox-rows.mjs): the forced cells as the released guide's own fill.sh prints them over the translation 0cdeb47e8aa1a6aa… (all of the seat's roots in one cut). By AI agents, Wed Nov 11 2026. No macro, syntax, notation, axiom, sorry.
-/
import Derived.Test.YtbfglcegmhgjdaaGreatDoorChecked
import GoSem.Claim
import GoSem.ClaimJoined
import GoSem.ClaimMapViews
import Derived.JoinedTies
import Derived.KernelRfl
namespace Go.Proofs.YtbfglcegmhgjdaaGreatDoor
/- THE CELL 'sum', in the pinned program and in every row, IS THE sha256 OF THE DUMP (.gsa) THAT YtbfglcegmhgjdaaGreatDoorProg.lean LOADS. Nothing in Lean hashes anything: it is a label: what it is worth is what the hold of that sum in a sandbox is worth. -/
noncomputable def Tryz.pinned : Pinned := { name := "ytbfglcegmhgjdaagreatdoor", sum := "0cdeb47e8aa1a6aa7237f105cf386b47c094fac33b1f69d85a21324957cf6b85", checked := Tryz.checked }
namespace Rows
def none {H : Type} : Left H := { results := [], args := [] }

/- WHAT THE LISTED PACKAGE-LEVEL VARIABLES READ AS WHEN THE CALL BEGINS. Each datum BY PROGRAM (the guide's laid-datum.mjs) off the statement by which the dump's own 'gosem.cut.vars' lays the variable. In a bare row this is a premise. The card (YtbfglcegmhgjdaaGreatDoorCards.lean) ties it to the program's text. -/
def laid_leafmesh_comm_kinds {H : Type} : DataW H := .agg [.agg [.lit (.int .i64 1), .agg [.lit (.int .u8 0), .lit (.int .u8 2)]], .agg [.lit (.int .i64 2), .agg [.lit (.int .u8 3), .lit (.int .u8 12)]], .agg [.lit (.int .i64 3), .agg [.lit (.int .u8 6), .lit (.int .u8 0)]], .agg [.lit (.int .i64 4), .agg [.lit (.int .u8 6), .lit (.int .u8 1)]], .agg [.lit (.int .i64 5), .agg [.lit (.int .u8 6), .lit (.int .u8 2)]], .agg [.lit (.int .i64 6), .agg [.lit (.int .u8 6), .lit (.int .u8 3)]], .agg [.lit (.int .i64 7), .agg [.lit (.int .u8 6), .lit (.int .u8 6)]]]

/-- 'leafmeshlaw33.InstallNames': WHATEVER THE INPUT: true; the input reads as it did. -/
def installNamesSpec : ChangeSpec := { name := "installNames", fn := fun _ => fun
  | [] => { results := [.lit (.bool true)], args := [] }
  | _ => none }
def installNamesRow : OpenClaim := { program := "ytbfglcegmhgjdaagreatdoor", sum := "0cdeb47e8aa1a6aa7237f105cf386b47c094fac33b1f69d85a21324957cf6b85", func := "leafmesh/leafmeshlaw33.InstallNames", spec := "installNames", unfollowed := true, recurses := true, named := ["leafmesh/comm.kinds"], plainKeys := false, apart := false, laid := [("leafmesh/comm.kinds", laid_leafmesh_comm_kinds)] }
def InstallNamesSaid : Prop := installNamesRow.holds Tryz.pinned (OpenSpec.ofChange installNamesSpec)

/-- ITS FALSE NEIGHBOUR: 'it returns false'. Refute it at one input. -/
def installNamesWrong : ChangeSpec := { name := "installNames", fn := fun _ => fun
  | [] => { results := [.lit (.bool false)], args := [] }
  | _ => none }
def InstallNamesWrongFalsely : Prop := installNamesRow.holds Tryz.pinned (OpenSpec.ofChange installNamesWrong)

/- THE SECOND FORM. 'bulk': how many values and letters a reading holds, each counted each time it is reached (what is shared counts as often as it is met; a slice's spare places count too). A statement '..UptoSaid' is the law's where the arguments, and the package variables that the reading takes, are together of bulk at most 1048576: NARROWER than '..Said'. Prove '..Said' where nothing that the law and all that it calls make is longer than what came in: it says more and counts as full. Else prove '..UptoSaid'. A law counts once. -/
mutual
def uptoBulk {H : Type} : DataW H → Nat
  | .lit (.string bytes) => bytes.length + 1
  | .lit _ => 1
  | .nil => 1
  | .ptr d => uptoBulk d + 1
  | .slice elems spare => uptoBulkAll elems + uptoBulkAll spare + 1
  | .agg parts => uptoBulkAll parts + 1
  | .iface _ d => uptoBulk d + 1
  | .map entries => uptoBulkEntries entries + 1
  | .held _ => 1
def uptoBulkAll {H : Type} : List (DataW H) → Nat
  | [] => 0
  | d :: r => uptoBulk d + uptoBulkAll r
def uptoBulkEntries {H : Type} : List (Lit × DataW H) → Nat
  | [] => 0
  | x :: r => uptoBulkEntry x + uptoBulkEntries r
def uptoBulkEntry {H : Type} : Lit × DataW H → Nat
  | (.string bytes, d) => bytes.length + uptoBulk d + 1
  | (_, d) => uptoBulk d + 1
 end
def uptoSmall : (H : Type) → List (DataW H) → Bool := fun _ ds => decide (uptoBulkAll ds ≤ 1048576)
def OpenSpec.upto (s : _root_.Go.ChangeSpec) : _root_.Go.OpenSpec := { _root_.Go.OpenSpec.ofChange s with cond := some uptoSmall }

/-- 'leafmeshlaw33.InstallNames', WHERE WHAT IT READS IS OF BULK AT MOST 1048576: true; the input reads as it did. -/
def installNamesUptoRow : OpenClaim := { program := "ytbfglcegmhgjdaagreatdoor", sum := "0cdeb47e8aa1a6aa7237f105cf386b47c094fac33b1f69d85a21324957cf6b85", func := "leafmesh/leafmeshlaw33.InstallNames", spec := "installNames", unfollowed := true, recurses := true, named := ["leafmesh/comm.kinds"], plainKeys := false, apart := false, laid := [("leafmesh/comm.kinds", laid_leafmesh_comm_kinds)], narrowed := true }
def InstallNamesUptoSaid : Prop := installNamesUptoRow.holds Tryz.pinned (OpenSpec.upto installNamesSpec)

end Rows
end Go.Proofs.YtbfglcegmhgjdaaGreatDoor
