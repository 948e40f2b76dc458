/- The plain data of the program. No package variable is looked at. -/
import Derived.Test.YtfgigcdbcbgpoaaAmGd
namespace Go.L
open Go.AM
instance globs : Globs := ⟨{ cells := fun _ => none, lazy := true }⟩

structure Known where
  BD : Int
  IP : Int
  MAC : Int
def eKnown (x : Known) : List AVal := [.sc (.int .i64 x.BD), .sc (.int .u32 x.IP), .sc (.int .u64 x.MAC)]
structure ARP where
  Op : Int
  SenderMAC : Int
  SenderIP : Int
  TargetMAC : Int
  TargetIP : Int
def eARP (x : ARP) : List AVal := [.sc (.int .i64 x.Op), .sc (.int .u64 x.SenderMAC), .sc (.int .u32 x.SenderIP), .sc (.int .u64 x.TargetMAC), .sc (.int .u32 x.TargetIP)]
structure Head where
  Src : Int
  Dst : Int
  TTL : Int
  Proto : Int
  SrcPort : Int
  DstPort : Int
def eHead (x : Head) : List AVal := [.sc (.int .u32 x.Src), .sc (.int .u32 x.Dst), .sc (.int .i64 x.TTL), .sc (.int .i64 x.Proto), .sc (.int .i64 x.SrcPort), .sc (.int .i64 x.DstPort)]
structure Frame where
  Src : Int
  Dst : Int
  Kind : Int
  ARP : ARP
  IP : Head
  Data : Int
def eFrame (x : Frame) : List AVal := [.sc (.int .u64 x.Src), .sc (.int .u64 x.Dst), .sc (.int .i64 x.Kind), .sc (.int .i64 x.ARP.Op), .sc (.int .u64 x.ARP.SenderMAC), .sc (.int .u32 x.ARP.SenderIP), .sc (.int .u64 x.ARP.TargetMAC), .sc (.int .u32 x.ARP.TargetIP), .sc (.int .u32 x.IP.Src), .sc (.int .u32 x.IP.Dst), .sc (.int .i64 x.IP.TTL), .sc (.int .i64 x.IP.Proto), .sc (.int .i64 x.IP.SrcPort), .sc (.int .i64 x.IP.DstPort), .sc (.int .u64 x.Data)]
structure Link where
  A : Int
  B : Int
  Cost : Int
def eLink (x : Link) : List AVal := [.sc (.int .i64 x.A), .sc (.int .i64 x.B), .sc (.int .i64 x.Cost)]
structure Tenant where
  VNI : Int
  Target : Int
def eTenant (x : Tenant) : List AVal := [.sc (.int .u32 x.VNI), .sc (.int .u32 x.Target)]
structure Prefix where
  IP : Int
  Len : Int
def ePrefix (x : Prefix) : List AVal := [.sc (.int .u32 x.IP), .sc (.int .i64 x.Len)]
structure BD where
  Tenant : Int
  VNI : Int
  Target : Int
  Subnet : Prefix
  Gateway : Int
def eBD (x : BD) : List AVal := [.sc (.int .i64 x.Tenant), .sc (.int .u32 x.VNI), .sc (.int .u32 x.Target), .sc (.int .u32 x.Subnet.IP), .sc (.int .i64 x.Subnet.Len), .sc (.int .u32 x.Gateway)]
structure Segment where
  Leaves : (List Int)
  BDs : (List Int)
def eSegment (x : Segment) : List AVal := [.lst (x.Leaves.map (eI .i64)), .lst (x.BDs.map (eI .i64))]
structure Host where
  MAC : Int
  IP : Int
  BD : Int
  Segment : Int
def eHost (x : Host) : List AVal := [.sc (.int .u64 x.MAC), .sc (.int .u32 x.IP), .sc (.int .i64 x.BD), .sc (.int .i64 x.Segment)]
structure Leak where
  From : Int
  To : Int
  Prefix : Prefix
def eLeak (x : Leak) : List AVal := [.sc (.int .i64 x.From), .sc (.int .i64 x.To), .sc (.int .u32 x.Prefix.IP), .sc (.int .i64 x.Prefix.Len)]
structure Timers where
  Detect : Int
  Hold : Int
  Age : Int
  Restart : Int
  Moves : Int
  Window : Int
def eTimers (x : Timers) : List AVal := [.sc (.int .i64 x.Detect), .sc (.int .i64 x.Hold), .sc (.int .i64 x.Age), .sc (.int .i64 x.Restart), .sc (.int .i64 x.Moves), .sc (.int .i64 x.Window)]
structure Fabric where
  Leaves : Int
  Spines : Int
  Links : (List Link)
  Tenants : (List Tenant)
  BDs : (List BD)
  Segments : (List Segment)
  Hosts : (List Host)
  Leaks : (List Leak)
  Elect : Int
  Horizon : Int
  Router : Int
  Suppress : Bool
  Trees : Bool
  Timers : Timers
def eFabric (x : Fabric) : List AVal := [.sc (.int .i64 x.Leaves), .sc (.int .i64 x.Spines), .lst (x.Links.map eLink), .lst (x.Tenants.map eTenant), .lst (x.BDs.map eBD), .lst (x.Segments.map eSegment), .lst (x.Hosts.map eHost), .lst (x.Leaks.map eLeak), .sc (.int .i64 x.Elect), .sc (.int .i64 x.Horizon), .sc (.int .i64 x.Router), .sc (.bool x.Suppress), .sc (.bool x.Trees), .sc (.int .i64 x.Timers.Detect), .sc (.int .i64 x.Timers.Hold), .sc (.int .i64 x.Timers.Age), .sc (.int .i64 x.Timers.Restart), .sc (.int .i64 x.Timers.Moves), .sc (.int .i64 x.Timers.Window)]
structure kit_taker where
  l : (List Int)
  at_ : Int
def ekit_taker (x : kit_taker) : List AVal := [.lst (x.l.map (eI .i64)), .sc (.int .i64 x.at_)]
structure tenant_failure where
  err : Int
  part : ByteArray
  index : Int
def etenant_failure (x : tenant_failure) : List AVal := [.sc (.int .i64 x.err), .sc (.string x.part), .sc (.int .i64 x.index)]
structure tenant_checker where
  f : Fabric
def etenant_checker (x : tenant_checker) : List AVal := [.sc (.int .i64 x.f.Leaves), .sc (.int .i64 x.f.Spines), .lst (x.f.Links.map eLink), .lst (x.f.Tenants.map eTenant), .lst (x.f.BDs.map eBD), .lst (x.f.Segments.map eSegment), .lst (x.f.Hosts.map eHost), .lst (x.f.Leaks.map eLeak), .sc (.int .i64 x.f.Elect), .sc (.int .i64 x.f.Horizon), .sc (.int .i64 x.f.Router), .sc (.bool x.f.Suppress), .sc (.bool x.f.Trees), .sc (.int .i64 x.f.Timers.Detect), .sc (.int .i64 x.f.Timers.Hold), .sc (.int .i64 x.f.Timers.Age), .sc (.int .i64 x.f.Timers.Restart), .sc (.int .i64 x.f.Timers.Moves), .sc (.int .i64 x.f.Timers.Window)]
structure tenant_place where
  bd : Int
  addr : Int
def etenant_place (x : tenant_place) : List AVal := [.sc (.int .i64 x.bd), .sc (.int .u64 x.addr)]

end Go.L
