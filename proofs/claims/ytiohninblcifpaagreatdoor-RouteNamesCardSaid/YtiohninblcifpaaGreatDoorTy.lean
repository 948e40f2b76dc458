/- The plain data of the program. No package variable is looked at. -/
import Derived.Test.YtiohninblcifpaaGreatDoorAc
namespace Go.L
open Go.AM
def K3(i:Nat):Option (List AVal):=match i with
 | 0=>some [.sc (.int .i64 1),.sc (.int .u8 0),.sc (.int .u8 2),.sc (.int .i64 2),.sc (.int .u8 3),.sc (.int .u8 12),.sc (.int .i64 3),.sc (.int .u8 6),.sc (.int .u8 0),.sc (.int .i64 4),.sc (.int .u8 6),.sc (.int .u8 1),.sc (.int .i64 5),.sc (.int .u8 6),.sc (.int .u8 2),.sc (.int .i64 6),.sc (.int .u8 6),.sc (.int .u8 3),.sc (.int .i64 7),.sc (.int .u8 6),.sc (.int .u8 6)]
 |_=>none
instance b9:ax:=⟨{cells:=K3,lazy:=true}⟩
abbrev si(x:Int):AVal:=.sc (.int .i64 x)
abbrev su(x:Int):AVal:=.sc (.int .u32 x)
abbrev sq(x:Int):AVal:=.sc (.int .u64 x)
abbrev s8(x:Int):AVal:=.sc (.int .u8 x)
abbrev sn:AVal:=.sc (.slice none 0 0)
abbrev sb(x:Bool):AVal:=.sc (.bool x)
structure ah where
 IP:Int
 Len:Int
def eH(x:ah):List AVal:=[.sc (.int .u32 x.IP),.sc (.int .i64 x.Len)]
structure eO where
 Kind:Int
 RD:Int
 az:(bE Int)
 Tag:Int
 bU:Int
 IP:Int
 dD:Bool
 ah:ah
 bg:Int
 Label:Int
 cV:Int
def D0(x:eO):List AVal:=[.sc (.int .i64 x.Kind),.sc (.int .u64 x.RD),.sc (.int .u8 x.az.a0),.sc (.int .u8 x.az.a1),.sc (.int .u8 x.az.a2),.sc (.int .u8 x.az.a3),.sc (.int .u8 x.az.a4),.sc (.int .u8 x.az.a5),.sc (.int .u8 x.az.a6),.sc (.int .u8 x.az.a7),.sc (.int .u8 x.az.a8),.sc (.int .u8 x.az.a9),.sc (.int .u32 x.Tag),.sc (.int .u64 x.bU),.sc (.int .u32 x.IP),.sc (.bool x.dD),.sc (.int .u32 x.ah.IP),.sc (.int .i64 x.ah.Len),.sc (.int .u32 x.bg),.sc (.int .u32 x.Label),.sc (.int .u32 x.cV)]
structure um where
 Kind:Int
 Label:Int
 Mb:Int
 LD:Int
structure J3 where
 Origin:Int
 Path:(List Int)
 Next:Int
 K4:Bool
 Mw:Int
 Kt:Bool
 Mc:Int
 DH:Bool
 Hg:Int
 Jz:(List Int)
 dF:(List (V8 Int))
 um:um
structure bL where
 N:eO
 A:J3
 Md:Int
 LF:Bool
def c6(x:bL):List AVal:=[.sc (.int .i64 x.N.Kind),.sc (.int .u64 x.N.RD),.sc (.int .u8 x.N.az.a0),.sc (.int .u8 x.N.az.a1),.sc (.int .u8 x.N.az.a2),.sc (.int .u8 x.N.az.a3),.sc (.int .u8 x.N.az.a4),.sc (.int .u8 x.N.az.a5),.sc (.int .u8 x.N.az.a6),.sc (.int .u8 x.N.az.a7),.sc (.int .u8 x.N.az.a8),.sc (.int .u8 x.N.az.a9),.sc (.int .u32 x.N.Tag),.sc (.int .u64 x.N.bU),.sc (.int .u32 x.N.IP),.sc (.bool x.N.dD),.sc (.int .u32 x.N.ah.IP),.sc (.int .i64 x.N.ah.Len),.sc (.int .u32 x.N.bg),.sc (.int .u32 x.N.Label),.sc (.int .u32 x.N.cV),.sc (.int .i64 x.A.Origin),.aD (x.A.Path.map (eI .u32)),.sc (.int .u32 x.A.Next),.sc (.bool x.A.K4),.sc (.int .u32 x.A.Mw),.sc (.bool x.A.Kt),.sc (.int .u32 x.A.Mc),.sc (.bool x.A.DH),.sc (.int .u32 x.A.Hg),.aD (x.A.Jz.map (eI .u32)),.aD (x.A.dF.map (qo (cI .u8))),.sc (.int .i64 x.A.um.Kind),.sc (.int .u32 x.A.um.Label),.sc (.int .u32 x.A.um.Mb),.sc (.int .u32 x.A.um.LD),.sc (.int .u32 x.Md),.sc (.bool x.LF)]
structure au where
 aF:Int
 ah:ah
 BD:Int
 Next:Int
 eN:Int
 bU:Int
 cG:Int
def bF(x:au):List AVal:=[.sc (.int .i64 x.aF),.sc (.int .u32 x.ah.IP),.sc (.int .i64 x.ah.Len),.sc (.int .i64 x.BD),.sc (.int .u32 x.Next),.sc (.int .u32 x.eN),.sc (.int .u64 x.bU),.sc (.int .u64 x.cG)]
structure vF where
 A:Int
 B:Int
 EV:Int
def kq(x:vF):List AVal:=[.sc (.int .i64 x.A),.sc (.int .i64 x.B),.sc (.int .i64 x.EV)]
structure aF where
 eN:Int
 Target:Int
def bM(x:aF):List AVal:=[.sc (.int .u32 x.eN),.sc (.int .u32 x.Target)]
structure BD where
 aF:Int
 eN:Int
 Target:Int
 bK:ah
 bg:Int
def fh(x:BD):List AVal:=[.sc (.int .i64 x.aF),.sc (.int .u32 x.eN),.sc (.int .u32 x.Target),.sc (.int .u32 x.bK.IP),.sc (.int .i64 x.bK.Len),.sc (.int .u32 x.bg)]
structure ew where
 Leaves:(List Int)
 aQ:(List Int)
def cA(x:ew):List AVal:=[.aD (x.Leaves.map (eI .i64)),.aD (x.aQ.map (eI .i64))]
structure Host where
 bU:Int
 IP:Int
 BD:Int
 ew:Int
def ji(x:Host):List AVal:=[.sc (.int .u64 x.bU),.sc (.int .u32 x.IP),.sc (.int .i64 x.BD),.sc (.int .i64 x.ew)]
structure fH where
 From:Int
 To:Int
 ah:ah
def ey(x:fH):List AVal:=[.sc (.int .i64 x.From),.sc (.int .i64 x.To),.sc (.int .u32 x.ah.IP),.sc (.int .i64 x.ah.Len)]
structure dz where
 uo:Int
 Cr:Int
 EW:Int
 tP:Int
 zw:Int
 Window:Int
def Ku(x:dz):List AVal:=[.sc (.int .i64 x.uo),.sc (.int .i64 x.Cr),.sc (.int .i64 x.EW),.sc (.int .i64 x.tP),.sc (.int .i64 x.zw),.sc (.int .i64 x.Window)]
structure aB where
 Leaves:Int
 kO:Int
 Links:(List vF)
 bh:(List aF)
 aQ:(List BD)
 aP:(List ew)
 Hosts:(List Host)
 Leaks:(List fH)
 zx:Int
 tQ:Int
 cG:Int
 EX:Bool
 J4:Bool
 dz:dz
def aC(x:aB):List AVal:=[.sc (.int .i64 x.Leaves),.sc (.int .i64 x.kO),.aD (x.Links.map kq),.aD (x.bh.map bM),.aD (x.aQ.map fh),.aD (x.aP.map cA),.aD (x.Hosts.map ji),.aD (x.Leaks.map ey),.sc (.int .i64 x.zx),.sc (.int .i64 x.tQ),.sc (.int .i64 x.cG),.sc (.bool x.EX),.sc (.bool x.J4),.sc (.int .i64 x.dz.uo),.sc (.int .i64 x.dz.Cr),.sc (.int .i64 x.dz.EW),.sc (.int .i64 x.dz.tP),.sc (.int .i64 x.dz.zw),.sc (.int .i64 x.dz.Window)]
structure LY where
 Op:Int
 LZ:Int
 Me:Int
 L0:Int
 Mf:Int
structure Head where
 Src:Int
 Mx:Int
 Nj:Int
 Nd:Int
 Mp:Int
 Mq:Int
structure Frame where
 Src:Int
 Mx:Int
 Kind:Int
 LY:LY
 IP:Head
 Data:Int
structure ee where
 au:au
 ok:Bool
def pT(x:ee):List AVal:=[.sc (.int .i64 x.au.aF),.sc (.int .u32 x.au.ah.IP),.sc (.int .i64 x.au.ah.Len),.sc (.int .i64 x.au.BD),.sc (.int .u32 x.au.Next),.sc (.int .u32 x.au.eN),.sc (.int .u64 x.au.bU),.sc (.int .u64 x.au.cG),.sc (.bool x.ok)]
structure bt where
 f:aB
def fQ(x:bt):List AVal:=[.sc (.int .i64 x.f.Leaves),.sc (.int .i64 x.f.kO),.aD (x.f.Links.map kq),.aD (x.f.bh.map bM),.aD (x.f.aQ.map fh),.aD (x.f.aP.map cA),.aD (x.f.Hosts.map ji),.aD (x.f.Leaks.map ey),.sc (.int .i64 x.f.zx),.sc (.int .i64 x.f.tQ),.sc (.int .i64 x.f.cG),.sc (.bool x.f.EX),.sc (.bool x.f.J4),.sc (.int .i64 x.f.dz.uo),.sc (.int .i64 x.f.dz.Cr),.sc (.int .i64 x.f.dz.EW),.sc (.int .i64 x.f.dz.tP),.sc (.int .i64 x.f.dz.zw),.sc (.int .i64 x.f.dz.Window)]
structure aa where
 yB:Int
 prefix_:ah
def uq(x:aa):List AVal:=[.sc (.int .i64 x.yB),.sc (.int .u32 x.prefix_.IP),.sc (.int .i64 x.prefix_.Len)]
structure cE where
 level:Int
 away:Int
 seq:Int
 bare:Int
 next:Int
 n:eO
def Ag(x:cE):List AVal:=[.sc (.int .i64 x.level),.sc (.int .i64 x.away),.sc (.int .u32 x.seq),.sc (.int .i64 x.bare),.sc (.int .u32 x.next),.sc (.int .i64 x.n.Kind),.sc (.int .u64 x.n.RD),.sc (.int .u8 x.n.az.a0),.sc (.int .u8 x.n.az.a1),.sc (.int .u8 x.n.az.a2),.sc (.int .u8 x.n.az.a3),.sc (.int .u8 x.n.az.a4),.sc (.int .u8 x.n.az.a5),.sc (.int .u8 x.n.az.a6),.sc (.int .u8 x.n.az.a7),.sc (.int .u8 x.n.az.a8),.sc (.int .u8 x.n.az.a9),.sc (.int .u32 x.n.Tag),.sc (.int .u64 x.n.bU),.sc (.int .u32 x.n.IP),.sc (.bool x.n.dD),.sc (.int .u32 x.n.ah.IP),.sc (.int .i64 x.n.ah.Len),.sc (.int .u32 x.n.bg),.sc (.int .u32 x.n.Label),.sc (.int .u32 x.n.cV)]
structure aj where
 au:au
 fV:cE
def oB(x:aj):List AVal:=[.sc (.int .i64 x.au.aF),.sc (.int .u32 x.au.ah.IP),.sc (.int .i64 x.au.ah.Len),.sc (.int .i64 x.au.BD),.sc (.int .u32 x.au.Next),.sc (.int .u32 x.au.eN),.sc (.int .u64 x.au.bU),.sc (.int .u64 x.au.cG),.sc (.int .i64 x.fV.level),.sc (.int .i64 x.fV.away),.sc (.int .u32 x.fV.seq),.sc (.int .i64 x.fV.bare),.sc (.int .u32 x.fV.next),.sc (.int .i64 x.fV.n.Kind),.sc (.int .u64 x.fV.n.RD),.sc (.int .u8 x.fV.n.az.a0),.sc (.int .u8 x.fV.n.az.a1),.sc (.int .u8 x.fV.n.az.a2),.sc (.int .u8 x.fV.n.az.a3),.sc (.int .u8 x.fV.n.az.a4),.sc (.int .u8 x.fV.n.az.a5),.sc (.int .u8 x.fV.n.az.a6),.sc (.int .u8 x.fV.n.az.a7),.sc (.int .u8 x.fV.n.az.a8),.sc (.int .u8 x.fV.n.az.a9),.sc (.int .u32 x.fV.n.Tag),.sc (.int .u64 x.fV.n.bU),.sc (.int .u32 x.fV.n.IP),.sc (.bool x.fV.n.dD),.sc (.int .u32 x.fV.n.ah.IP),.sc (.int .i64 x.fV.n.ah.Len),.sc (.int .u32 x.fV.n.bg),.sc (.int .u32 x.fV.n.Label),.sc (.int .u32 x.fV.n.cV)]
structure eY where
 bd:Int
 addr:Int
def oC(x:eY):List AVal:=[.sc (.int .i64 x.bd),.sc (.int .u64 x.addr)]
end Go.L
