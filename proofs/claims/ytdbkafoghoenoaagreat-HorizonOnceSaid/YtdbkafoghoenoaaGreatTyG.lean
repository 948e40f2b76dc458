/- The plain data of the program. No package variable is looked at. -/
import Derived.Test.YtdbkafoghoenoaaGreatAc
namespace Go.L
open Go.AM
instance globs:Globs:=⟨{cells:=fun _=>none,lazy:=true}⟩
structure Forwarder where
 ESI:(V10 Int)
 BD:Int
 IP:Int
def eForwarder(x:Forwarder):List AVal:=[.sc (.int .u8 x.ESI.a0),.sc (.int .u8 x.ESI.a1),.sc (.int .u8 x.ESI.a2),.sc (.int .u8 x.ESI.a3),.sc (.int .u8 x.ESI.a4),.sc (.int .u8 x.ESI.a5),.sc (.int .u8 x.ESI.a6),.sc (.int .u8 x.ESI.a7),.sc (.int .u8 x.ESI.a8),.sc (.int .u8 x.ESI.a9),.sc (.int .i64 x.BD),.sc (.int .u32 x.IP)]
structure Sharing where
 ESI:(V10 Int)
 Members:(List Int)
 Labels:(List Int)
def eSharing(x:Sharing):List AVal:=[.sc (.int .u8 x.ESI.a0),.sc (.int .u8 x.ESI.a1),.sc (.int .u8 x.ESI.a2),.sc (.int .u8 x.ESI.a3),.sc (.int .u8 x.ESI.a4),.sc (.int .u8 x.ESI.a5),.sc (.int .u8 x.ESI.a6),.sc (.int .u8 x.ESI.a7),.sc (.int .u8 x.ESI.a8),.sc (.int .u8 x.ESI.a9),.lst (x.Members.map (eI .u32)),.lst (x.Labels.map (eI .u32))]
structure Link where
 A:Int
 B:Int
 Cost:Int
def eLink(x:Link):List AVal:=[.sc (.int .i64 x.A),.sc (.int .i64 x.B),.sc (.int .i64 x.Cost)]
structure Tenant where
 VNI:Int
 Target:Int
def eTenant(x:Tenant):List AVal:=[.sc (.int .u32 x.VNI),.sc (.int .u32 x.Target)]
abbrev si(x:Int):AVal:=.sc (.int .i64 x)
abbrev su(x:Int):AVal:=.sc (.int .u32 x)
abbrev sq(x:Int):AVal:=.sc (.int .u64 x)
abbrev s8(x:Int):AVal:=.sc (.int .u8 x)
abbrev sn:AVal:=.sc (.slice none 0 0)
abbrev sb(x:Bool):AVal:=.sc (.bool x)
structure Prefix where
 IP:Int
 Len:Int
def ePrefix(x:Prefix):List AVal:=[.sc (.int .u32 x.IP),.sc (.int .i64 x.Len)]
structure BD where
 Tenant:Int
 VNI:Int
 Target:Int
 Subnet:Prefix
 Gateway:Int
def eBD(x:BD):List AVal:=[.sc (.int .i64 x.Tenant),.sc (.int .u32 x.VNI),.sc (.int .u32 x.Target),.sc (.int .u32 x.Subnet.IP),.sc (.int .i64 x.Subnet.Len),.sc (.int .u32 x.Gateway)]
structure Segment where
 Leaves:(List Int)
 BDs:(List Int)
def eSegment(x:Segment):List AVal:=[.lst (x.Leaves.map (eI .i64)),.lst (x.BDs.map (eI .i64))]
structure Host where
 MAC:Int
 IP:Int
 BD:Int
 Segment:Int
def eHost(x:Host):List AVal:=[.sc (.int .u64 x.MAC),.sc (.int .u32 x.IP),.sc (.int .i64 x.BD),.sc (.int .i64 x.Segment)]
structure Leak where
 From:Int
 To:Int
 Prefix:Prefix
def eLeak(x:Leak):List AVal:=[.sc (.int .i64 x.From),.sc (.int .i64 x.To),.sc (.int .u32 x.Prefix.IP),.sc (.int .i64 x.Prefix.Len)]
structure Timers where
 Detect:Int
 Hold:Int
 Age:Int
 Restart:Int
 Moves:Int
 Window:Int
structure Fabric where
 Leaves:Int
 Spines:Int
 Links:(List Link)
 Tenants:(List Tenant)
 BDs:(List BD)
 Segments:(List Segment)
 Hosts:(List Host)
 Leaks:(List Leak)
 Elect:Int
 Horizon:Int
 Router:Int
 Suppress:Bool
 Trees:Bool
 Timers:Timers
def eFabric(x:Fabric):List AVal:=[.sc (.int .i64 x.Leaves),.sc (.int .i64 x.Spines),.lst (x.Links.map eLink),.lst (x.Tenants.map eTenant),.lst (x.BDs.map eBD),.lst (x.Segments.map eSegment),.lst (x.Hosts.map eHost),.lst (x.Leaks.map eLeak),.sc (.int .i64 x.Elect),.sc (.int .i64 x.Horizon),.sc (.int .i64 x.Router),.sc (.bool x.Suppress),.sc (.bool x.Trees),.sc (.int .i64 x.Timers.Detect),.sc (.int .i64 x.Timers.Hold),.sc (.int .i64 x.Timers.Age),.sc (.int .i64 x.Timers.Restart),.sc (.int .i64 x.Timers.Moves),.sc (.int .i64 x.Timers.Window)]
structure kit_taker where
 l:(List Int)
 at_:Int
def ekit_taker(x:kit_taker):List AVal:=[.lst (x.l.map (eI .i64)),.sc (.int .i64 x.at_)]
structure horizon_view where
 Fabric:Fabric
 leaf:Int
 own:Int
 up:(List Bool)
 forwarders:(List Forwarder)
 sharing:(List Sharing)
def ehorizon_view(x:horizon_view):List AVal:=[.sc (.int .i64 x.Fabric.Leaves),.sc (.int .i64 x.Fabric.Spines),.lst (x.Fabric.Links.map eLink),.lst (x.Fabric.Tenants.map eTenant),.lst (x.Fabric.BDs.map eBD),.lst (x.Fabric.Segments.map eSegment),.lst (x.Fabric.Hosts.map eHost),.lst (x.Fabric.Leaks.map eLeak),.sc (.int .i64 x.Fabric.Elect),.sc (.int .i64 x.Fabric.Horizon),.sc (.int .i64 x.Fabric.Router),.sc (.bool x.Fabric.Suppress),.sc (.bool x.Fabric.Trees),.sc (.int .i64 x.Fabric.Timers.Detect),.sc (.int .i64 x.Fabric.Timers.Hold),.sc (.int .i64 x.Fabric.Timers.Age),.sc (.int .i64 x.Fabric.Timers.Restart),.sc (.int .i64 x.Fabric.Timers.Moves),.sc (.int .i64 x.Fabric.Timers.Window),.sc (.int .i64 x.leaf),.sc (.int .u32 x.own),.lst (x.up.map eB),.lst (x.forwarders.map eForwarder),.lst (x.sharing.map eSharing)]
structure horizon_entering where
 view:horizon_view
 bd:Int
def ehorizon_entering(x:horizon_entering):List AVal:=[.sc (.int .i64 x.view.Fabric.Leaves),.sc (.int .i64 x.view.Fabric.Spines),.lst (x.view.Fabric.Links.map eLink),.lst (x.view.Fabric.Tenants.map eTenant),.lst (x.view.Fabric.BDs.map eBD),.lst (x.view.Fabric.Segments.map eSegment),.lst (x.view.Fabric.Hosts.map eHost),.lst (x.view.Fabric.Leaks.map eLeak),.sc (.int .i64 x.view.Fabric.Elect),.sc (.int .i64 x.view.Fabric.Horizon),.sc (.int .i64 x.view.Fabric.Router),.sc (.bool x.view.Fabric.Suppress),.sc (.bool x.view.Fabric.Trees),.sc (.int .i64 x.view.Fabric.Timers.Detect),.sc (.int .i64 x.view.Fabric.Timers.Hold),.sc (.int .i64 x.view.Fabric.Timers.Age),.sc (.int .i64 x.view.Fabric.Timers.Restart),.sc (.int .i64 x.view.Fabric.Timers.Moves),.sc (.int .i64 x.view.Fabric.Timers.Window),.sc (.int .i64 x.view.leaf),.sc (.int .u32 x.view.own),.lst (x.view.up.map eB),.lst (x.view.forwarders.map eForwarder),.lst (x.view.sharing.map eSharing),.sc (.int .i64 x.bd)]
structure horizon_leaving where
 view:horizon_view
 bd:Int
 source:Int
 mark:Int
def ehorizon_leaving(x:horizon_leaving):List AVal:=[.sc (.int .i64 x.view.Fabric.Leaves),.sc (.int .i64 x.view.Fabric.Spines),.lst (x.view.Fabric.Links.map eLink),.lst (x.view.Fabric.Tenants.map eTenant),.lst (x.view.Fabric.BDs.map eBD),.lst (x.view.Fabric.Segments.map eSegment),.lst (x.view.Fabric.Hosts.map eHost),.lst (x.view.Fabric.Leaks.map eLeak),.sc (.int .i64 x.view.Fabric.Elect),.sc (.int .i64 x.view.Fabric.Horizon),.sc (.int .i64 x.view.Fabric.Router),.sc (.bool x.view.Fabric.Suppress),.sc (.bool x.view.Fabric.Trees),.sc (.int .i64 x.view.Fabric.Timers.Detect),.sc (.int .i64 x.view.Fabric.Timers.Hold),.sc (.int .i64 x.view.Fabric.Timers.Age),.sc (.int .i64 x.view.Fabric.Timers.Restart),.sc (.int .i64 x.view.Fabric.Timers.Moves),.sc (.int .i64 x.view.Fabric.Timers.Window),.sc (.int .i64 x.view.leaf),.sc (.int .u32 x.view.own),.lst (x.view.up.map eB),.lst (x.view.forwarders.map eForwarder),.lst (x.view.sharing.map eSharing),.sc (.int .i64 x.bd),.sc (.int .u32 x.source),.sc (.int .u32 x.mark)]
structure tenant_checker where
 f:Fabric
def etenant_checker(x:tenant_checker):List AVal:=[.sc (.int .i64 x.f.Leaves),.sc (.int .i64 x.f.Spines),.lst (x.f.Links.map eLink),.lst (x.f.Tenants.map eTenant),.lst (x.f.BDs.map eBD),.lst (x.f.Segments.map eSegment),.lst (x.f.Hosts.map eHost),.lst (x.f.Leaks.map eLeak),.sc (.int .i64 x.f.Elect),.sc (.int .i64 x.f.Horizon),.sc (.int .i64 x.f.Router),.sc (.bool x.f.Suppress),.sc (.bool x.f.Trees),.sc (.int .i64 x.f.Timers.Detect),.sc (.int .i64 x.f.Timers.Hold),.sc (.int .i64 x.f.Timers.Age),.sc (.int .i64 x.f.Timers.Restart),.sc (.int .i64 x.f.Timers.Moves),.sc (.int .i64 x.f.Timers.Window)]
structure tenant_place where
 bd:Int
 addr:Int
def etenant_place(x:tenant_place):List AVal:=[.sc (.int .i64 x.bd),.sc (.int .u64 x.addr)]
end Go.L
