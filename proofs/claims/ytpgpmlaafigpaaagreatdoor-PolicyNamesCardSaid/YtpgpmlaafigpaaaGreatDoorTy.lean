/- Put together out of parts. No conditions. -/
import Derived.Test.YtpgpmlaafigpaaaGreatDoorAmGd
import Derived.KernelRfl
import Derived.Test.YtpgpmlaafigpaaaGreatDoorProg
/- The plain data of the program. No package variable is looked at. -/
namespace Go.L
open Go.AM
def globsF (i : Nat) : Option (List AVal) := match i with
 | 0 => some [.sc (.int .i64 1), .sc (.int .u8 0), .sc (.int .u8 2), .sc (.int .i64 2), .sc (.int .u8 3), .sc (.int .u8 12), .sc (.int .i64 3), .sc (.int .u8 6), .sc (.int .u8 0), .sc (.int .i64 4), .sc (.int .u8 6), .sc (.int .u8 1), .sc (.int .i64 5), .sc (.int .u8 6), .sc (.int .u8 2), .sc (.int .i64 6), .sc (.int .u8 6), .sc (.int .u8 3), .sc (.int .i64 7), .sc (.int .u8 6), .sc (.int .u8 6)]
 | _ => none
instance globs : Globs := ⟨{ cells := globsF, lazy := true }⟩
structure Prefix where
 IP : Int
 Len : Int
def ePrefix (x : Prefix) : List AVal := [.sc (.int .u32 x.IP), .sc (.int .i64 x.Len)]
structure Import where
 Target : Int
 HasPrefix : Bool
 Prefix : Prefix
 Place : Int
def eImport (x : Import) : List AVal := [.sc (.int .u32 x.Target), .sc (.bool x.HasPrefix), .sc (.int .u32 x.Prefix.IP), .sc (.int .i64 x.Prefix.Len), .sc (.int .i64 x.Place)]
structure NLRI where
 Kind : Int
 RD : Int
 ESI : (V10 Int)
 Tag : Int
 MAC : Int
 IP : Int
 HasIP : Bool
 Prefix : Prefix
 Gateway : Int
 Label : Int
 Label2 : Int
def eNLRI (x : NLRI) : List AVal := [.sc (.int .i64 x.Kind), .sc (.int .u64 x.RD), .sc (.int .u8 x.ESI.a0), .sc (.int .u8 x.ESI.a1), .sc (.int .u8 x.ESI.a2), .sc (.int .u8 x.ESI.a3), .sc (.int .u8 x.ESI.a4), .sc (.int .u8 x.ESI.a5), .sc (.int .u8 x.ESI.a6), .sc (.int .u8 x.ESI.a7), .sc (.int .u8 x.ESI.a8), .sc (.int .u8 x.ESI.a9), .sc (.int .u32 x.Tag), .sc (.int .u64 x.MAC), .sc (.int .u32 x.IP), .sc (.bool x.HasIP), .sc (.int .u32 x.Prefix.IP), .sc (.int .i64 x.Prefix.Len), .sc (.int .u32 x.Gateway), .sc (.int .u32 x.Label), .sc (.int .u32 x.Label2)]
structure Tunnel where
 Kind : Int
 Label : Int
 Root : Int
 Group : Int
def eTunnel (x : Tunnel) : List AVal := [.sc (.int .i64 x.Kind), .sc (.int .u32 x.Label), .sc (.int .u32 x.Root), .sc (.int .u32 x.Group)]
structure Attrs where
 Origin : Int
 Path : (List Int)
 Next : Int
 HasMed : Bool
 Med : Int
 HasPref : Bool
 Pref : Int
 HasOriginator : Bool
 Originator : Int
 Clusters : (List Int)
 Comms : (List (V8 Int))
 Tunnel : Tunnel
def eAttrs (x : Attrs) : List AVal := [.sc (.int .i64 x.Origin), .lst (x.Path.map (eI .u32)), .sc (.int .u32 x.Next), .sc (.bool x.HasMed), .sc (.int .u32 x.Med), .sc (.bool x.HasPref), .sc (.int .u32 x.Pref), .sc (.bool x.HasOriginator), .sc (.int .u32 x.Originator), .lst (x.Clusters.map (eI .u32)), .lst (x.Comms.map (eV8 (cI .u8))), .sc (.int .i64 x.Tunnel.Kind), .sc (.int .u32 x.Tunnel.Label), .sc (.int .u32 x.Tunnel.Root), .sc (.int .u32 x.Tunnel.Group)]
structure Route where
 N : NLRI
 A : Attrs
 Peer : Int
 Stale : Bool
def eRoute (x : Route) : List AVal := [.sc (.int .i64 x.N.Kind), .sc (.int .u64 x.N.RD), .sc (.int .u8 x.N.ESI.a0), .sc (.int .u8 x.N.ESI.a1), .sc (.int .u8 x.N.ESI.a2), .sc (.int .u8 x.N.ESI.a3), .sc (.int .u8 x.N.ESI.a4), .sc (.int .u8 x.N.ESI.a5), .sc (.int .u8 x.N.ESI.a6), .sc (.int .u8 x.N.ESI.a7), .sc (.int .u8 x.N.ESI.a8), .sc (.int .u8 x.N.ESI.a9), .sc (.int .u32 x.N.Tag), .sc (.int .u64 x.N.MAC), .sc (.int .u32 x.N.IP), .sc (.bool x.N.HasIP), .sc (.int .u32 x.N.Prefix.IP), .sc (.int .i64 x.N.Prefix.Len), .sc (.int .u32 x.N.Gateway), .sc (.int .u32 x.N.Label), .sc (.int .u32 x.N.Label2), .sc (.int .i64 x.A.Origin), .lst (x.A.Path.map (eI .u32)), .sc (.int .u32 x.A.Next), .sc (.bool x.A.HasMed), .sc (.int .u32 x.A.Med), .sc (.bool x.A.HasPref), .sc (.int .u32 x.A.Pref), .sc (.bool x.A.HasOriginator), .sc (.int .u32 x.A.Originator), .lst (x.A.Clusters.map (eI .u32)), .lst (x.A.Comms.map (eV8 (cI .u8))), .sc (.int .i64 x.A.Tunnel.Kind), .sc (.int .u32 x.A.Tunnel.Label), .sc (.int .u32 x.A.Tunnel.Root), .sc (.int .u32 x.A.Tunnel.Group), .sc (.int .u32 x.Peer), .sc (.bool x.Stale)]
structure Rule where
 Kinds : (List Int)
 Targets : (List Int)
 Peer : Int
 HasPrefix : Bool
 Prefix : Prefix
 Ge : Int
 Le : Int
 Permit : Bool
 SetPref : Bool
 Pref : Int
 SetMed : Bool
 Med : Int
 Remove : (List (V8 Int))
 Add : (List (V8 Int))
end Go.L
/- The data without fields. -/
namespace Go.L
open Go.AM
structure S158 where
def eS158 (_ : S158) : List AVal := []
end Go.L
/- What the functions compute, each told by a guide that the kernel checks against the program. No conditions. -/
namespace Go.L
open Go.AM
def cfg : Cfg := { val := fun f => ![113,114,115,116,117,118,119,126,196,197,198,102,103,104,105,187,188,189,270,106,190,272,273,274,275,276,277,278,279,362,363,364,365,366,136,137,138,139,215,213,290,214,291,373,374,375,376,377,378,379,380,77,78,168,166,249,167,250,323,324,325,326,327,328,330,331,392,393,394,162,246,315,316,317,318,319,320,321,322,389,390,391].contains f, kill := fun _ _ => [] }
noncomputable abbrev prog := Go.Proofs.Tryz.prog
set_option maxRecDepth 100000
set_option linter.unusedVariables false
set_option linter.unusedSimpArgs false
instance plainProg : Plain prog := ⟨by kernel_rfl, fun f fn h => by
 have hall : prog.funcs.toList.all (fun fn => fn.name != "runtime.NumGoroutine") = true := by kernel_rfl
 have hm : fn ∈ prog.funcs.toList := by simpa using Array.mem_of_getElem? h
 have := List.all_eq_true.1 hall fn hm
 simpa using this⟩
/- leafmesh/addr.valid -/
noncomputable def g_addr_valid (x1 : Go.L.Prefix) : G prog (Sh.El (.one Bool)) :=
 .skip 6 <| .br 6 (decide (x1.Len ≥ (0 : Int))) (.skip 5 <| .done [] (decide (x1.Len ≤ (32 : Int)))) (.skip 5 <| .done [] false)
noncomputable def c_addr_valid : Ctr prog := Ctr.of cfg 10 165 (Go.L.Prefix) (fun x => [.agg (ePrefix x)]) (.one Bool) (fun r => .ret (.sc (.bool r))) (fun x => g_addr_valid x) (fun x => by kernel_rfl)
/- leafmesh/addr.mask -/
noncomputable def g_addr_mask (x1 : Int) : G prog (Sh.El (.one Int)) :=
 .skip 3 <| .op (shlO .u32 .i64 (4294967295 : Int) (Go.IntKind.wrap .i64 ((32 : Int) - x1))) fun _ => .skip 1 <| .done [] (Go.IntKind.wrap .u32 ((4294967295 : Int) * ((2 : Int) ^ (@Min.min Nat instMinNat (Int.toNat (Go.IntKind.wrap .i64 ((32 : Int) - x1))) (Go.IntKind.bits .u32)))))
noncomputable def c_addr_mask : Ctr prog := Ctr.of cfg 10 182 (Int) (fun x => [.sc (.int .i64 x)]) (.one Int) (fun r => .ret (.sc (.int .u32 r))) (fun x => g_addr_mask x) (fun x => by kernel_rfl)
/- leafmesh/addr.Contains -/
noncomputable def g_addr_Contains (x1 : Go.L.Prefix) (x2 : Int) : G prog (Sh.El (.one Bool)) :=
 .skip 3 <| .call c_addr_valid x1 fun (r3 : Bool) => .skip 1 <| .br 7 r3 (.skip 6 <| .call c_addr_mask x1.Len fun (r4 : Int) => .skip 4 <| .done [] ((Go.IntKind.wrap .u32 (((@BitVec.toNat (Go.IntKind.bits .u32) ((BitVec.ofInt (Go.IntKind.bits .u32) (Go.IntKind.wrap .u32 (((@BitVec.toNat (Go.IntKind.bits .u32) ((BitVec.ofInt (Go.IntKind.bits .u32) x1.IP) ^^^ (BitVec.ofInt (Go.IntKind.bits .u32) x2))) : Nat) : Int))) &&& (BitVec.ofInt (Go.IntKind.bits .u32) r4))) : Nat) : Int)) == (0 : Int))) (.skip 11 <| .done [] false)
noncomputable def c_addr_Contains : Ctr prog := Ctr.of cfg 10 98 (Go.L.Prefix × Int) (fun x => [.agg (ePrefix x.1), .sc (.int .u32 x.2)]) (.one Bool) (fun r => .ret (.sc (.bool r))) (fun x => g_addr_Contains x.1 x.2) (fun x => by kernel_rfl)
end Go.L
