/- Put together out of parts. No conditions. -/
import Derived.Test.YtfgigcdbcbgpoaaDoorAmGd
/- The plain data of the program. No package variable is looked at. -/
namespace Go.L
open Go.AM
def globsF (i : Nat) : Option (List AVal) := match i with
  | 0 => some [.sc (.int .i64 1), .sc (.int .u8 0), .sc (.int .u8 2), .sc (.int .i64 2), .sc (.int .u8 3), .sc (.int .u8 12), .sc (.int .i64 3), .sc (.int .u8 6), .sc (.int .u8 0), .sc (.int .i64 4), .sc (.int .u8 6), .sc (.int .u8 1), .sc (.int .i64 5), .sc (.int .u8 6), .sc (.int .u8 2), .sc (.int .i64 6), .sc (.int .u8 6), .sc (.int .u8 3), .sc (.int .i64 7), .sc (.int .u8 6), .sc (.int .u8 6)]
  | _ => none
instance globs : Globs := ⟨{ cells := globsF, lazy := true }⟩

structure Prefix where
  IP : Int
  Len : Int
def ePrefix (x : Prefix) : List AVal := [.sc (.int .u32 x.IP), .sc (.int .i64 x.Len)]
structure Rule where
  Kinds : (List Int)
  Targets : (List Int)
  Peer : Int
  HasPrefix : Bool
  Prefix : Prefix
  Ge : Int
  Le : Int
  Permit : Bool
  SetPref : Bool
  Pref : Int
  SetMed : Bool
  Med : Int
  Remove : (List (V8 Int))
  Add : (List (V8 Int))
def eRule (x : Rule) : List AVal := [.lst (x.Kinds.map (eI .i64)), .lst (x.Targets.map (eI .u32)), .sc (.int .u32 x.Peer), .sc (.bool x.HasPrefix), .sc (.int .u32 x.Prefix.IP), .sc (.int .i64 x.Prefix.Len), .sc (.int .i64 x.Ge), .sc (.int .i64 x.Le), .sc (.bool x.Permit), .sc (.bool x.SetPref), .sc (.int .u32 x.Pref), .sc (.bool x.SetMed), .sc (.int .u32 x.Med), .lst (x.Remove.map (eV8 (cI .u8))), .lst (x.Add.map (eV8 (cI .u8)))]
structure NLRI where
  Kind : Int
  RD : Int
  ESI : (V10 Int)
  Tag : Int
  MAC : Int
  IP : Int
  HasIP : Bool
  Prefix : Prefix
  Gateway : Int
  Label : Int
  Label2 : Int
def eNLRI (x : NLRI) : List AVal := [.sc (.int .i64 x.Kind), .sc (.int .u64 x.RD), .sc (.int .u8 x.ESI.a0), .sc (.int .u8 x.ESI.a1), .sc (.int .u8 x.ESI.a2), .sc (.int .u8 x.ESI.a3), .sc (.int .u8 x.ESI.a4), .sc (.int .u8 x.ESI.a5), .sc (.int .u8 x.ESI.a6), .sc (.int .u8 x.ESI.a7), .sc (.int .u8 x.ESI.a8), .sc (.int .u8 x.ESI.a9), .sc (.int .u32 x.Tag), .sc (.int .u64 x.MAC), .sc (.int .u32 x.IP), .sc (.bool x.HasIP), .sc (.int .u32 x.Prefix.IP), .sc (.int .i64 x.Prefix.Len), .sc (.int .u32 x.Gateway), .sc (.int .u32 x.Label), .sc (.int .u32 x.Label2)]
structure Tunnel where
  Kind : Int
  Label : Int
  Root : Int
  Group : Int
def eTunnel (x : Tunnel) : List AVal := [.sc (.int .i64 x.Kind), .sc (.int .u32 x.Label), .sc (.int .u32 x.Root), .sc (.int .u32 x.Group)]
structure Attrs where
  Origin : Int
  Path : (List Int)
  Next : Int
  HasMed : Bool
  Med : Int
  HasPref : Bool
  Pref : Int
  HasOriginator : Bool
  Originator : Int
  Clusters : (List Int)
  Comms : (List (V8 Int))
  Tunnel : Tunnel
def eAttrs (x : Attrs) : List AVal := [.sc (.int .i64 x.Origin), .lst (x.Path.map (eI .u32)), .sc (.int .u32 x.Next), .sc (.bool x.HasMed), .sc (.int .u32 x.Med), .sc (.bool x.HasPref), .sc (.int .u32 x.Pref), .sc (.bool x.HasOriginator), .sc (.int .u32 x.Originator), .lst (x.Clusters.map (eI .u32)), .lst (x.Comms.map (eV8 (cI .u8))), .sc (.int .i64 x.Tunnel.Kind), .sc (.int .u32 x.Tunnel.Label), .sc (.int .u32 x.Tunnel.Root), .sc (.int .u32 x.Tunnel.Group)]
structure Route where
  N : NLRI
  A : Attrs
  Peer : Int
  Stale : Bool
def eRoute (x : Route) : List AVal := [.sc (.int .i64 x.N.Kind), .sc (.int .u64 x.N.RD), .sc (.int .u8 x.N.ESI.a0), .sc (.int .u8 x.N.ESI.a1), .sc (.int .u8 x.N.ESI.a2), .sc (.int .u8 x.N.ESI.a3), .sc (.int .u8 x.N.ESI.a4), .sc (.int .u8 x.N.ESI.a5), .sc (.int .u8 x.N.ESI.a6), .sc (.int .u8 x.N.ESI.a7), .sc (.int .u8 x.N.ESI.a8), .sc (.int .u8 x.N.ESI.a9), .sc (.int .u32 x.N.Tag), .sc (.int .u64 x.N.MAC), .sc (.int .u32 x.N.IP), .sc (.bool x.N.HasIP), .sc (.int .u32 x.N.Prefix.IP), .sc (.int .i64 x.N.Prefix.Len), .sc (.int .u32 x.N.Gateway), .sc (.int .u32 x.N.Label), .sc (.int .u32 x.N.Label2), .sc (.int .i64 x.A.Origin), .lst (x.A.Path.map (eI .u32)), .sc (.int .u32 x.A.Next), .sc (.bool x.A.HasMed), .sc (.int .u32 x.A.Med), .sc (.bool x.A.HasPref), .sc (.int .u32 x.A.Pref), .sc (.bool x.A.HasOriginator), .sc (.int .u32 x.A.Originator), .lst (x.A.Clusters.map (eI .u32)), .lst (x.A.Comms.map (eV8 (cI .u8))), .sc (.int .i64 x.A.Tunnel.Kind), .sc (.int .u32 x.A.Tunnel.Label), .sc (.int .u32 x.A.Tunnel.Root), .sc (.int .u32 x.A.Tunnel.Group), .sc (.int .u32 x.Peer), .sc (.bool x.Stale)]
structure comm_part where
  size : Int
  value : Int
def ecomm_part (x : comm_part) : List AVal := [.sc (.int .i64 x.size), .sc (.int .u64 x.value)]
structure S103 where
  kind : Int
  head : (V2 Int)
def eS103 (x : S103) : List AVal := [.sc (.int .i64 x.kind), .sc (.int .u8 x.head.a0), .sc (.int .u8 x.head.a1)]
structure Import where
  Target : Int
  HasPrefix : Bool
  Prefix : Prefix
  Place : Int
def eImport (x : Import) : List AVal := [.sc (.int .u32 x.Target), .sc (.bool x.HasPrefix), .sc (.int .u32 x.Prefix.IP), .sc (.int .i64 x.Prefix.Len), .sc (.int .i64 x.Place)]

end Go.L
/- The data without fields. -/
namespace Go.L
open Go.AM
structure S138 where
def eS138 (_ : S138) : List AVal := []
end Go.L
