/- The plain data of the program. No package variable is looked at. -/
import Derived.Test.YtdbkafoghoenoaaGreatDoorAc
namespace Go.L
open Go.AM
def globsF(i:Nat):Option (List AVal):=match i with
 | 0=>some [.sc (.int .i64 1),.sc (.int .u8 0),.sc (.int .u8 2),.sc (.int .i64 2),.sc (.int .u8 3),.sc (.int .u8 12),.sc (.int .i64 3),.sc (.int .u8 6),.sc (.int .u8 0),.sc (.int .i64 4),.sc (.int .u8 6),.sc (.int .u8 1),.sc (.int .i64 5),.sc (.int .u8 6),.sc (.int .u8 2),.sc (.int .i64 6),.sc (.int .u8 6),.sc (.int .u8 3),.sc (.int .i64 7),.sc (.int .u8 6),.sc (.int .u8 6)]
 |_=>none
instance globs:Globs:=⟨{cells:=globsF,lazy:=true}⟩
structure Near where
 BD:Int
 Segment:Int
 MAC:Int
 IP:Int
 HasIP:Bool
 Time:Int
def eNear(x:Near):List AVal:=[.sc (.int .i64 x.BD),.sc (.int .i64 x.Segment),.sc (.int .u64 x.MAC),.sc (.int .u32 x.IP),.sc (.bool x.HasIP),.sc (.int .i64 x.Time)]
structure Link where
 A:Int
 B:Int
 Cost:Int
def eLink(x:Link):List AVal:=[.sc (.int .i64 x.A),.sc (.int .i64 x.B),.sc (.int .i64 x.Cost)]
structure Tenant where
 VNI:Int
 Target:Int
def eTenant(x:Tenant):List AVal:=[.sc (.int .u32 x.VNI),.sc (.int .u32 x.Target)]
abbrev si(x:Int):AVal:=.sc (.int .i64 x)
abbrev su(x:Int):AVal:=.sc (.int .u32 x)
abbrev sq(x:Int):AVal:=.sc (.int .u64 x)
abbrev s8(x:Int):AVal:=.sc (.int .u8 x)
abbrev sn:AVal:=.sc (.slice none 0 0)
abbrev sb(x:Bool):AVal:=.sc (.bool x)
structure Prefix where
 IP:Int
 Len:Int
def ePrefix(x:Prefix):List AVal:=[.sc (.int .u32 x.IP),.sc (.int .i64 x.Len)]
structure BD where
 Tenant:Int
 VNI:Int
 Target:Int
 Subnet:Prefix
 Gateway:Int
def eBD(x:BD):List AVal:=[.sc (.int .i64 x.Tenant),.sc (.int .u32 x.VNI),.sc (.int .u32 x.Target),.sc (.int .u32 x.Subnet.IP),.sc (.int .i64 x.Subnet.Len),.sc (.int .u32 x.Gateway)]
structure Segment where
 Leaves:(List Int)
 BDs:(List Int)
def eSegment(x:Segment):List AVal:=[.lst (x.Leaves.map (eI .i64)),.lst (x.BDs.map (eI .i64))]
structure Host where
 MAC:Int
 IP:Int
 BD:Int
 Segment:Int
def eHost(x:Host):List AVal:=[.sc (.int .u64 x.MAC),.sc (.int .u32 x.IP),.sc (.int .i64 x.BD),.sc (.int .i64 x.Segment)]
structure Leak where
 From:Int
 To:Int
 Prefix:Prefix
def eLeak(x:Leak):List AVal:=[.sc (.int .i64 x.From),.sc (.int .i64 x.To),.sc (.int .u32 x.Prefix.IP),.sc (.int .i64 x.Prefix.Len)]
structure Timers where
 Detect:Int
 Hold:Int
 Age:Int
 Restart:Int
 Moves:Int
 Window:Int
def eTimers(x:Timers):List AVal:=[.sc (.int .i64 x.Detect),.sc (.int .i64 x.Hold),.sc (.int .i64 x.Age),.sc (.int .i64 x.Restart),.sc (.int .i64 x.Moves),.sc (.int .i64 x.Window)]
structure Fabric where
 Leaves:Int
 Spines:Int
 Links:(List Link)
 Tenants:(List Tenant)
 BDs:(List BD)
 Segments:(List Segment)
 Hosts:(List Host)
 Leaks:(List Leak)
 Elect:Int
 Horizon:Int
 Router:Int
 Suppress:Bool
 Trees:Bool
 Timers:Timers
def eFabric(x:Fabric):List AVal:=[.sc (.int .i64 x.Leaves),.sc (.int .i64 x.Spines),.lst (x.Links.map eLink),.lst (x.Tenants.map eTenant),.lst (x.BDs.map eBD),.lst (x.Segments.map eSegment),.lst (x.Hosts.map eHost),.lst (x.Leaks.map eLeak),.sc (.int .i64 x.Elect),.sc (.int .i64 x.Horizon),.sc (.int .i64 x.Router),.sc (.bool x.Suppress),.sc (.bool x.Trees),.sc (.int .i64 x.Timers.Detect),.sc (.int .i64 x.Timers.Hold),.sc (.int .i64 x.Timers.Age),.sc (.int .i64 x.Timers.Restart),.sc (.int .i64 x.Timers.Moves),.sc (.int .i64 x.Timers.Window)]
structure Claim where
 BD:Int
 MAC:Int
 Seq:Int
 Frozen:Bool
def eClaim(x:Claim):List AVal:=[.sc (.int .i64 x.BD),.sc (.int .u64 x.MAC),.sc (.int .u32 x.Seq),.sc (.bool x.Frozen)]
structure NLRI where
 Kind:Int
 RD:Int
 ESI:(V10 Int)
 Tag:Int
 MAC:Int
 IP:Int
 HasIP:Bool
 Prefix:Prefix
 Gateway:Int
 Label:Int
 Label2:Int
def eNLRI(x:NLRI):List AVal:=[.sc (.int .i64 x.Kind),.sc (.int .u64 x.RD),.sc (.int .u8 x.ESI.a0),.sc (.int .u8 x.ESI.a1),.sc (.int .u8 x.ESI.a2),.sc (.int .u8 x.ESI.a3),.sc (.int .u8 x.ESI.a4),.sc (.int .u8 x.ESI.a5),.sc (.int .u8 x.ESI.a6),.sc (.int .u8 x.ESI.a7),.sc (.int .u8 x.ESI.a8),.sc (.int .u8 x.ESI.a9),.sc (.int .u32 x.Tag),.sc (.int .u64 x.MAC),.sc (.int .u32 x.IP),.sc (.bool x.HasIP),.sc (.int .u32 x.Prefix.IP),.sc (.int .i64 x.Prefix.Len),.sc (.int .u32 x.Gateway),.sc (.int .u32 x.Label),.sc (.int .u32 x.Label2)]
structure Tunnel where
 Kind:Int
 Label:Int
 Root:Int
 Group:Int
def eTunnel(x:Tunnel):List AVal:=[.sc (.int .i64 x.Kind),.sc (.int .u32 x.Label),.sc (.int .u32 x.Root),.sc (.int .u32 x.Group)]
structure Attrs where
 Origin:Int
 Path:(List Int)
 Next:Int
 HasMed:Bool
 Med:Int
 HasPref:Bool
 Pref:Int
 HasOriginator:Bool
 Originator:Int
 Clusters:(List Int)
 Comms:(List (V8 Int))
 Tunnel:Tunnel
def eAttrs(x:Attrs):List AVal:=[.sc (.int .i64 x.Origin),.lst (x.Path.map (eI .u32)),.sc (.int .u32 x.Next),.sc (.bool x.HasMed),.sc (.int .u32 x.Med),.sc (.bool x.HasPref),.sc (.int .u32 x.Pref),.sc (.bool x.HasOriginator),.sc (.int .u32 x.Originator),.lst (x.Clusters.map (eI .u32)),.lst (x.Comms.map (eV8 (cI .u8))),.sc (.int .i64 x.Tunnel.Kind),.sc (.int .u32 x.Tunnel.Label),.sc (.int .u32 x.Tunnel.Root),.sc (.int .u32 x.Tunnel.Group)]
structure Route where
 N:NLRI
 A:Attrs
 Peer:Int
 Stale:Bool
def eRoute(x:Route):List AVal:=[.sc (.int .i64 x.N.Kind),.sc (.int .u64 x.N.RD),.sc (.int .u8 x.N.ESI.a0),.sc (.int .u8 x.N.ESI.a1),.sc (.int .u8 x.N.ESI.a2),.sc (.int .u8 x.N.ESI.a3),.sc (.int .u8 x.N.ESI.a4),.sc (.int .u8 x.N.ESI.a5),.sc (.int .u8 x.N.ESI.a6),.sc (.int .u8 x.N.ESI.a7),.sc (.int .u8 x.N.ESI.a8),.sc (.int .u8 x.N.ESI.a9),.sc (.int .u32 x.N.Tag),.sc (.int .u64 x.N.MAC),.sc (.int .u32 x.N.IP),.sc (.bool x.N.HasIP),.sc (.int .u32 x.N.Prefix.IP),.sc (.int .i64 x.N.Prefix.Len),.sc (.int .u32 x.N.Gateway),.sc (.int .u32 x.N.Label),.sc (.int .u32 x.N.Label2),.sc (.int .i64 x.A.Origin),.lst (x.A.Path.map (eI .u32)),.sc (.int .u32 x.A.Next),.sc (.bool x.A.HasMed),.sc (.int .u32 x.A.Med),.sc (.bool x.A.HasPref),.sc (.int .u32 x.A.Pref),.sc (.bool x.A.HasOriginator),.sc (.int .u32 x.A.Originator),.lst (x.A.Clusters.map (eI .u32)),.lst (x.A.Comms.map (eV8 (cI .u8))),.sc (.int .i64 x.A.Tunnel.Kind),.sc (.int .u32 x.A.Tunnel.Label),.sc (.int .u32 x.A.Tunnel.Root),.sc (.int .u32 x.A.Tunnel.Group),.sc (.int .u32 x.Peer),.sc (.bool x.Stale)]
structure kit_taker where
 l:(List Int)
 at_:Int
def ekit_taker(x:kit_taker):List AVal:=[.lst (x.l.map (eI .i64)),.sc (.int .i64 x.at_)]
structure origin_origin where
 fabric:Fabric
 self:Int
 address:Int
 router:Int
 up:(List Bool)
 near:(List Near)
 claims:(List Claim)
def eorigin_origin(x:origin_origin):List AVal:=[.sc (.int .i64 x.fabric.Leaves),.sc (.int .i64 x.fabric.Spines),.lst (x.fabric.Links.map eLink),.lst (x.fabric.Tenants.map eTenant),.lst (x.fabric.BDs.map eBD),.lst (x.fabric.Segments.map eSegment),.lst (x.fabric.Hosts.map eHost),.lst (x.fabric.Leaks.map eLeak),.sc (.int .i64 x.fabric.Elect),.sc (.int .i64 x.fabric.Horizon),.sc (.int .i64 x.fabric.Router),.sc (.bool x.fabric.Suppress),.sc (.bool x.fabric.Trees),.sc (.int .i64 x.fabric.Timers.Detect),.sc (.int .i64 x.fabric.Timers.Hold),.sc (.int .i64 x.fabric.Timers.Age),.sc (.int .i64 x.fabric.Timers.Restart),.sc (.int .i64 x.fabric.Timers.Moves),.sc (.int .i64 x.fabric.Timers.Window),.sc (.int .i64 x.self),.sc (.int .u32 x.address),.sc (.int .u64 x.router),.lst (x.up.map eB),.lst (x.near.map eNear),.lst (x.claims.map eClaim)]
structure ref32_maker where
 f:Fabric
 self:Int
 up:(List Bool)
 out:(List Route)
def eref32_maker(x:ref32_maker):List AVal:=[.sc (.int .i64 x.f.Leaves),.sc (.int .i64 x.f.Spines),.lst (x.f.Links.map eLink),.lst (x.f.Tenants.map eTenant),.lst (x.f.BDs.map eBD),.lst (x.f.Segments.map eSegment),.lst (x.f.Hosts.map eHost),.lst (x.f.Leaks.map eLeak),.sc (.int .i64 x.f.Elect),.sc (.int .i64 x.f.Horizon),.sc (.int .i64 x.f.Router),.sc (.bool x.f.Suppress),.sc (.bool x.f.Trees),.sc (.int .i64 x.f.Timers.Detect),.sc (.int .i64 x.f.Timers.Hold),.sc (.int .i64 x.f.Timers.Age),.sc (.int .i64 x.f.Timers.Restart),.sc (.int .i64 x.f.Timers.Moves),.sc (.int .i64 x.f.Timers.Window),.sc (.int .i64 x.self),.lst (x.up.map eB),.lst (x.out.map eRoute)]
structure tenant_checker where
 f:Fabric
def etenant_checker(x:tenant_checker):List AVal:=[.sc (.int .i64 x.f.Leaves),.sc (.int .i64 x.f.Spines),.lst (x.f.Links.map eLink),.lst (x.f.Tenants.map eTenant),.lst (x.f.BDs.map eBD),.lst (x.f.Segments.map eSegment),.lst (x.f.Hosts.map eHost),.lst (x.f.Leaks.map eLeak),.sc (.int .i64 x.f.Elect),.sc (.int .i64 x.f.Horizon),.sc (.int .i64 x.f.Router),.sc (.bool x.f.Suppress),.sc (.bool x.f.Trees),.sc (.int .i64 x.f.Timers.Detect),.sc (.int .i64 x.f.Timers.Hold),.sc (.int .i64 x.f.Timers.Age),.sc (.int .i64 x.f.Timers.Restart),.sc (.int .i64 x.f.Timers.Moves),.sc (.int .i64 x.f.Timers.Window)]
structure origin_place where
 bd:Int
 mac:Int
def eorigin_place(x:origin_place):List AVal:=[.sc (.int .i64 x.bd),.sc (.int .u64 x.mac)]
structure tenant_place where
 bd:Int
 addr:Int
def etenant_place(x:tenant_place):List AVal:=[.sc (.int .i64 x.bd),.sc (.int .u64 x.addr)]
end Go.L
