/- The plain data of the program. -/
import Derived.Test.YtomlhceogkfnlaaAmGd
namespace Go.L
open Go.AM
instance globs : Globs := ⟨{ cells := fun _ => none, lazy := true }⟩

structure Link where
  A : Int
  B : Int
  Cost : Int
def eLink (x : Link) : List AVal := [.sc (.int .i64 x.A), .sc (.int .i64 x.B), .sc (.int .i64 x.Cost)]
structure Tenant where
  VNI : Int
  Target : Int
def eTenant (x : Tenant) : List AVal := [.sc (.int .u32 x.VNI), .sc (.int .u32 x.Target)]
structure Prefix where
  IP : Int
  Len : Int
def ePrefix (x : Prefix) : List AVal := [.sc (.int .u32 x.IP), .sc (.int .i64 x.Len)]
structure BD where
  Tenant : Int
  VNI : Int
  Target : Int
  Subnet : Prefix
  Gateway : Int
def eBD (x : BD) : List AVal := [.sc (.int .i64 x.Tenant), .sc (.int .u32 x.VNI), .sc (.int .u32 x.Target), .sc (.int .u32 x.Subnet.IP), .sc (.int .i64 x.Subnet.Len), .sc (.int .u32 x.Gateway)]
structure Segment where
  Leaves : (List Int)
  BDs : (List Int)
def eSegment (x : Segment) : List AVal := [.lst (x.Leaves.map (eI .i64)), .lst (x.BDs.map (eI .i64))]
structure Host where
  MAC : Int
  IP : Int
  BD : Int
  Segment : Int
def eHost (x : Host) : List AVal := [.sc (.int .u64 x.MAC), .sc (.int .u32 x.IP), .sc (.int .i64 x.BD), .sc (.int .i64 x.Segment)]
structure Leak where
  From : Int
  To : Int
  Prefix : Prefix
def eLeak (x : Leak) : List AVal := [.sc (.int .i64 x.From), .sc (.int .i64 x.To), .sc (.int .u32 x.Prefix.IP), .sc (.int .i64 x.Prefix.Len)]
structure Timers where
  Detect : Int
  Hold : Int
  Age : Int
  Restart : Int
  Moves : Int
  Window : Int
def eTimers (x : Timers) : List AVal := [.sc (.int .i64 x.Detect), .sc (.int .i64 x.Hold), .sc (.int .i64 x.Age), .sc (.int .i64 x.Restart), .sc (.int .i64 x.Moves), .sc (.int .i64 x.Window)]
structure Fabric where
  Leaves : Int
  Spines : Int
  Links : (List Link)
  Tenants : (List Tenant)
  BDs : (List BD)
  Segments : (List Segment)
  Hosts : (List Host)
  Leaks : (List Leak)
  Elect : Int
  Horizon : Int
  Router : Int
  Suppress : Bool
  Trees : Bool
  Timers : Timers
def eFabric (x : Fabric) : List AVal := [.sc (.int .i64 x.Leaves), .sc (.int .i64 x.Spines), .lst (x.Links.map eLink), .lst (x.Tenants.map eTenant), .lst (x.BDs.map eBD), .lst (x.Segments.map eSegment), .lst (x.Hosts.map eHost), .lst (x.Leaks.map eLeak), .sc (.int .i64 x.Elect), .sc (.int .i64 x.Horizon), .sc (.int .i64 x.Router), .sc (.bool x.Suppress), .sc (.bool x.Trees), .sc (.int .i64 x.Timers.Detect), .sc (.int .i64 x.Timers.Hold), .sc (.int .i64 x.Timers.Age), .sc (.int .i64 x.Timers.Restart), .sc (.int .i64 x.Timers.Moves), .sc (.int .i64 x.Timers.Window)]
structure Far where
  BD : Int
  MAC : Int
  ESI : (V10 Int)
  Local : Int
  Next : (List Int)
def eFar (x : Far) : List AVal := [.sc (.int .i64 x.BD), .sc (.int .u64 x.MAC), .sc (.int .u8 x.ESI.a0), .sc (.int .u8 x.ESI.a1), .sc (.int .u8 x.ESI.a2), .sc (.int .u8 x.ESI.a3), .sc (.int .u8 x.ESI.a4), .sc (.int .u8 x.ESI.a5), .sc (.int .u8 x.ESI.a6), .sc (.int .u8 x.ESI.a7), .sc (.int .u8 x.ESI.a8), .sc (.int .u8 x.ESI.a9), .sc (.int .i64 x.Local), .lst (x.Next.map (eI .u32))]
structure Known where
  BD : Int
  IP : Int
  MAC : Int
def eKnown (x : Known) : List AVal := [.sc (.int .i64 x.BD), .sc (.int .u32 x.IP), .sc (.int .u64 x.MAC)]
structure Flood where
  BD : Int
  Peers : (List Int)
  Group : Int
def eFlood (x : Flood) : List AVal := [.sc (.int .i64 x.BD), .lst (x.Peers.map (eI .u32)), .sc (.int .u32 x.Group)]
structure Forwarder where
  ESI : (V10 Int)
  BD : Int
  IP : Int
def eForwarder (x : Forwarder) : List AVal := [.sc (.int .u8 x.ESI.a0), .sc (.int .u8 x.ESI.a1), .sc (.int .u8 x.ESI.a2), .sc (.int .u8 x.ESI.a3), .sc (.int .u8 x.ESI.a4), .sc (.int .u8 x.ESI.a5), .sc (.int .u8 x.ESI.a6), .sc (.int .u8 x.ESI.a7), .sc (.int .u8 x.ESI.a8), .sc (.int .u8 x.ESI.a9), .sc (.int .i64 x.BD), .sc (.int .u32 x.IP)]
structure Sharing where
  ESI : (V10 Int)
  Members : (List Int)
  Labels : (List Int)
def eSharing (x : Sharing) : List AVal := [.sc (.int .u8 x.ESI.a0), .sc (.int .u8 x.ESI.a1), .sc (.int .u8 x.ESI.a2), .sc (.int .u8 x.ESI.a3), .sc (.int .u8 x.ESI.a4), .sc (.int .u8 x.ESI.a5), .sc (.int .u8 x.ESI.a6), .sc (.int .u8 x.ESI.a7), .sc (.int .u8 x.ESI.a8), .sc (.int .u8 x.ESI.a9), .lst (x.Members.map (eI .u32)), .lst (x.Labels.map (eI .u32))]
structure Hop where
  Tenant : Int
  Prefix : Prefix
  BD : Int
  Next : Int
  VNI : Int
  MAC : Int
  Router : Int
def eHop (x : Hop) : List AVal := [.sc (.int .i64 x.Tenant), .sc (.int .u32 x.Prefix.IP), .sc (.int .i64 x.Prefix.Len), .sc (.int .i64 x.BD), .sc (.int .u32 x.Next), .sc (.int .u32 x.VNI), .sc (.int .u64 x.MAC), .sc (.int .u64 x.Router)]
structure Tables where
  Far : (List Far)
  Known : (List Known)
  Flood : (List Flood)
  Forwarders : (List Forwarder)
  Sharing : (List Sharing)
  Hops : (List Hop)
def eTables (x : Tables) : List AVal := [.lst (x.Far.map eFar), .lst (x.Known.map eKnown), .lst (x.Flood.map eFlood), .lst (x.Forwarders.map eForwarder), .lst (x.Sharing.map eSharing), .lst (x.Hops.map eHop)]
structure ARP where
  Op : Int
  SenderMAC : Int
  SenderIP : Int
  TargetMAC : Int
  TargetIP : Int
def eARP (x : ARP) : List AVal := [.sc (.int .i64 x.Op), .sc (.int .u64 x.SenderMAC), .sc (.int .u32 x.SenderIP), .sc (.int .u64 x.TargetMAC), .sc (.int .u32 x.TargetIP)]
structure Head where
  Src : Int
  Dst : Int
  TTL : Int
  Proto : Int
  SrcPort : Int
  DstPort : Int
def eHead (x : Head) : List AVal := [.sc (.int .u32 x.Src), .sc (.int .u32 x.Dst), .sc (.int .i64 x.TTL), .sc (.int .i64 x.Proto), .sc (.int .i64 x.SrcPort), .sc (.int .i64 x.DstPort)]
structure Frame where
  Src : Int
  Dst : Int
  Kind : Int
  ARP : ARP
  IP : Head
  Data : Int
def eFrame (x : Frame) : List AVal := [.sc (.int .u64 x.Src), .sc (.int .u64 x.Dst), .sc (.int .i64 x.Kind), .sc (.int .i64 x.ARP.Op), .sc (.int .u64 x.ARP.SenderMAC), .sc (.int .u32 x.ARP.SenderIP), .sc (.int .u64 x.ARP.TargetMAC), .sc (.int .u32 x.ARP.TargetIP), .sc (.int .u32 x.IP.Src), .sc (.int .u32 x.IP.Dst), .sc (.int .i64 x.IP.TTL), .sc (.int .i64 x.IP.Proto), .sc (.int .i64 x.IP.SrcPort), .sc (.int .i64 x.IP.DstPort), .sc (.int .u64 x.Data)]
structure Packet where
  Src : Int
  Dst : Int
  TTL : Int
  Entropy : Int
  VNI : Int
  Mark : Int
  Inner : Frame
def ePacket (x : Packet) : List AVal := [.sc (.int .u32 x.Src), .sc (.int .u32 x.Dst), .sc (.int .i64 x.TTL), .sc (.int .i64 x.Entropy), .sc (.int .u32 x.VNI), .sc (.int .u32 x.Mark), .sc (.int .u64 x.Inner.Src), .sc (.int .u64 x.Inner.Dst), .sc (.int .i64 x.Inner.Kind), .sc (.int .i64 x.Inner.ARP.Op), .sc (.int .u64 x.Inner.ARP.SenderMAC), .sc (.int .u32 x.Inner.ARP.SenderIP), .sc (.int .u64 x.Inner.ARP.TargetMAC), .sc (.int .u32 x.Inner.ARP.TargetIP), .sc (.int .u32 x.Inner.IP.Src), .sc (.int .u32 x.Inner.IP.Dst), .sc (.int .i64 x.Inner.IP.TTL), .sc (.int .i64 x.Inner.IP.Proto), .sc (.int .i64 x.Inner.IP.SrcPort), .sc (.int .i64 x.Inner.IP.DstPort), .sc (.int .u64 x.Inner.Data)]
structure Routed where
  How : Int
  BD : Int
  Frame : Frame
  Packet : Packet
def eRouted (x : Routed) : List AVal := [.sc (.int .i64 x.How), .sc (.int .i64 x.BD), .sc (.int .u64 x.Frame.Src), .sc (.int .u64 x.Frame.Dst), .sc (.int .i64 x.Frame.Kind), .sc (.int .i64 x.Frame.ARP.Op), .sc (.int .u64 x.Frame.ARP.SenderMAC), .sc (.int .u32 x.Frame.ARP.SenderIP), .sc (.int .u64 x.Frame.ARP.TargetMAC), .sc (.int .u32 x.Frame.ARP.TargetIP), .sc (.int .u32 x.Frame.IP.Src), .sc (.int .u32 x.Frame.IP.Dst), .sc (.int .i64 x.Frame.IP.TTL), .sc (.int .i64 x.Frame.IP.Proto), .sc (.int .i64 x.Frame.IP.SrcPort), .sc (.int .i64 x.Frame.IP.DstPort), .sc (.int .u64 x.Frame.Data), .sc (.int .u32 x.Packet.Src), .sc (.int .u32 x.Packet.Dst), .sc (.int .i64 x.Packet.TTL), .sc (.int .i64 x.Packet.Entropy), .sc (.int .u32 x.Packet.VNI), .sc (.int .u32 x.Packet.Mark), .sc (.int .u64 x.Packet.Inner.Src), .sc (.int .u64 x.Packet.Inner.Dst), .sc (.int .i64 x.Packet.Inner.Kind), .sc (.int .i64 x.Packet.Inner.ARP.Op), .sc (.int .u64 x.Packet.Inner.ARP.SenderMAC), .sc (.int .u32 x.Packet.Inner.ARP.SenderIP), .sc (.int .u64 x.Packet.Inner.ARP.TargetMAC), .sc (.int .u32 x.Packet.Inner.ARP.TargetIP), .sc (.int .u32 x.Packet.Inner.IP.Src), .sc (.int .u32 x.Packet.Inner.IP.Dst), .sc (.int .i64 x.Packet.Inner.IP.TTL), .sc (.int .i64 x.Packet.Inner.IP.Proto), .sc (.int .i64 x.Packet.Inner.IP.SrcPort), .sc (.int .i64 x.Packet.Inner.IP.DstPort), .sc (.int .u64 x.Packet.Inner.Data)]
structure tenant_failure where
  err : Int
  part : ByteArray
  index : Int
def etenant_failure (x : tenant_failure) : List AVal := [.sc (.int .i64 x.err), .sc (.string x.part), .sc (.int .i64 x.index)]
structure tenant_checker where
  f : Fabric
def etenant_checker (x : tenant_checker) : List AVal := [.sc (.int .i64 x.f.Leaves), .sc (.int .i64 x.f.Spines), .lst (x.f.Links.map eLink), .lst (x.f.Tenants.map eTenant), .lst (x.f.BDs.map eBD), .lst (x.f.Segments.map eSegment), .lst (x.f.Hosts.map eHost), .lst (x.f.Leaks.map eLeak), .sc (.int .i64 x.f.Elect), .sc (.int .i64 x.f.Horizon), .sc (.int .i64 x.f.Router), .sc (.bool x.f.Suppress), .sc (.bool x.f.Trees), .sc (.int .i64 x.f.Timers.Detect), .sc (.int .i64 x.f.Timers.Hold), .sc (.int .i64 x.f.Timers.Age), .sc (.int .i64 x.f.Timers.Restart), .sc (.int .i64 x.f.Timers.Moves), .sc (.int .i64 x.f.Timers.Window)]
structure kit_taker where
  l : (List Int)
  at_ : Int
def ekit_taker (x : kit_taker) : List AVal := [.lst (x.l.map (eI .i64)), .sc (.int .i64 x.at_)]
structure gateway_routing where
  fabric : Fabric
  leaf : Int
  tenant : Int
  tables : Tables
  frame : Frame
  tunnel : Bool
  hop : Hop
  host : Int
def egateway_routing (x : gateway_routing) : List AVal := [.sc (.int .i64 x.fabric.Leaves), .sc (.int .i64 x.fabric.Spines), .lst (x.fabric.Links.map eLink), .lst (x.fabric.Tenants.map eTenant), .lst (x.fabric.BDs.map eBD), .lst (x.fabric.Segments.map eSegment), .lst (x.fabric.Hosts.map eHost), .lst (x.fabric.Leaks.map eLeak), .sc (.int .i64 x.fabric.Elect), .sc (.int .i64 x.fabric.Horizon), .sc (.int .i64 x.fabric.Router), .sc (.bool x.fabric.Suppress), .sc (.bool x.fabric.Trees), .sc (.int .i64 x.fabric.Timers.Detect), .sc (.int .i64 x.fabric.Timers.Hold), .sc (.int .i64 x.fabric.Timers.Age), .sc (.int .i64 x.fabric.Timers.Restart), .sc (.int .i64 x.fabric.Timers.Moves), .sc (.int .i64 x.fabric.Timers.Window), .sc (.int .i64 x.leaf), .sc (.int .i64 x.tenant), .lst (x.tables.Far.map eFar), .lst (x.tables.Known.map eKnown), .lst (x.tables.Flood.map eFlood), .lst (x.tables.Forwarders.map eForwarder), .lst (x.tables.Sharing.map eSharing), .lst (x.tables.Hops.map eHop), .sc (.int .u64 x.frame.Src), .sc (.int .u64 x.frame.Dst), .sc (.int .i64 x.frame.Kind), .sc (.int .i64 x.frame.ARP.Op), .sc (.int .u64 x.frame.ARP.SenderMAC), .sc (.int .u32 x.frame.ARP.SenderIP), .sc (.int .u64 x.frame.ARP.TargetMAC), .sc (.int .u32 x.frame.ARP.TargetIP), .sc (.int .u32 x.frame.IP.Src), .sc (.int .u32 x.frame.IP.Dst), .sc (.int .i64 x.frame.IP.TTL), .sc (.int .i64 x.frame.IP.Proto), .sc (.int .i64 x.frame.IP.SrcPort), .sc (.int .i64 x.frame.IP.DstPort), .sc (.int .u64 x.frame.Data), .sc (.bool x.tunnel), .sc (.int .i64 x.hop.Tenant), .sc (.int .u32 x.hop.Prefix.IP), .sc (.int .i64 x.hop.Prefix.Len), .sc (.int .i64 x.hop.BD), .sc (.int .u32 x.hop.Next), .sc (.int .u32 x.hop.VNI), .sc (.int .u64 x.hop.MAC), .sc (.int .u64 x.hop.Router), .sc (.int .u64 x.host)]
structure gateway_rewritten where
  Src : Int
  Dst : Int
  Kind : Int
  ARP : ARP
  IP : Head
  Data : Int
def egateway_rewritten (x : gateway_rewritten) : List AVal := [.sc (.int .u64 x.Src), .sc (.int .u64 x.Dst), .sc (.int .i64 x.Kind), .sc (.int .i64 x.ARP.Op), .sc (.int .u64 x.ARP.SenderMAC), .sc (.int .u32 x.ARP.SenderIP), .sc (.int .u64 x.ARP.TargetMAC), .sc (.int .u32 x.ARP.TargetIP), .sc (.int .u32 x.IP.Src), .sc (.int .u32 x.IP.Dst), .sc (.int .i64 x.IP.TTL), .sc (.int .i64 x.IP.Proto), .sc (.int .i64 x.IP.SrcPort), .sc (.int .i64 x.IP.DstPort), .sc (.int .u64 x.Data)]
structure tenant_place where
  bd : Int
  addr : Int
def etenant_place (x : tenant_place) : List AVal := [.sc (.int .i64 x.bd), .sc (.int .u64 x.addr)]
structure route_found where
  Hop : Hop
  ok : Bool
def eroute_found (x : route_found) : List AVal := [.sc (.int .i64 x.Hop.Tenant), .sc (.int .u32 x.Hop.Prefix.IP), .sc (.int .i64 x.Hop.Prefix.Len), .sc (.int .i64 x.Hop.BD), .sc (.int .u32 x.Hop.Next), .sc (.int .u32 x.Hop.VNI), .sc (.int .u64 x.Hop.MAC), .sc (.int .u64 x.Hop.Router), .sc (.bool x.ok)]

end Go.L
