/- The plain data of the program. No package variable is looked at. -/
import Derived.Test.YtiohninblcifpaaGreatDoorAc
namespace Go.L
open Go.AM
def Rc(i:Nat):Option (List AVal):=match i with
 | 0=>some [.sc (.int .i64 1),.sc (.int .u8 0),.sc (.int .u8 2),.sc (.int .i64 2),.sc (.int .u8 3),.sc (.int .u8 12),.sc (.int .i64 3),.sc (.int .u8 6),.sc (.int .u8 0),.sc (.int .i64 4),.sc (.int .u8 6),.sc (.int .u8 1),.sc (.int .i64 5),.sc (.int .u8 6),.sc (.int .u8 2),.sc (.int .i64 6),.sc (.int .u8 6),.sc (.int .u8 3),.sc (.int .i64 7),.sc (.int .u8 6),.sc (.int .u8 6)]
 |_=>none
instance dw:aH:=⟨{cells:=Rc,lazy:=true}⟩
abbrev si(x:Int):AVal:=.sc (.int .i64 x)
abbrev su(x:Int):AVal:=.sc (.int .u32 x)
abbrev sq(x:Int):AVal:=.sc (.int .u64 x)
abbrev s8(x:Int):AVal:=.sc (.int .u8 x)
abbrev sn:AVal:=.sc (.slice none 0 0)
abbrev sb(x:Bool):AVal:=.sc (.bool x)
structure af where
 IP:Int
 Len:Int
def gF(x:af):List AVal:=[.sc (.int .u32 x.IP),.sc (.int .i64 x.Len)]
structure ia where
 Kind:Int
 RD:Int
 aI:(cF Int)
 Tag:Int
 aS:Int
 IP:Int
 eO:Bool
 af:af
 aM:Int
 Label:Int
 dU:Int
def Ig(x:ia):List AVal:=[.sc (.int .i64 x.Kind),.sc (.int .u64 x.RD),.sc (.int .u8 x.aI.a0),.sc (.int .u8 x.aI.a1),.sc (.int .u8 x.aI.a2),.sc (.int .u8 x.aI.a3),.sc (.int .u8 x.aI.a4),.sc (.int .u8 x.aI.a5),.sc (.int .u8 x.aI.a6),.sc (.int .u8 x.aI.a7),.sc (.int .u8 x.aI.a8),.sc (.int .u8 x.aI.a9),.sc (.int .u32 x.Tag),.sc (.int .u64 x.aS),.sc (.int .u32 x.IP),.sc (.bool x.eO),.sc (.int .u32 x.af.IP),.sc (.int .i64 x.af.Len),.sc (.int .u32 x.aM),.sc (.int .u32 x.Label),.sc (.int .u32 x.dU)]
structure xz where
 Kind:Int
 Label:Int
 Sg:Int
 RU:Int
structure L6 where
 Origin:Int
 Path:(List Int)
 Next:Int
 Re:Bool
 SD:Int
 Qn:Bool
 Si:Int
 HQ:Bool
 L7:Int
 Jk:(List Int)
 dR:(List (V8 Int))
 xz:xz
structure bZ where
 N:ia
 A:L6
 Sj:Int
 RV:Bool
def eY(x:bZ):List AVal:=[.sc (.int .i64 x.N.Kind),.sc (.int .u64 x.N.RD),.sc (.int .u8 x.N.aI.a0),.sc (.int .u8 x.N.aI.a1),.sc (.int .u8 x.N.aI.a2),.sc (.int .u8 x.N.aI.a3),.sc (.int .u8 x.N.aI.a4),.sc (.int .u8 x.N.aI.a5),.sc (.int .u8 x.N.aI.a6),.sc (.int .u8 x.N.aI.a7),.sc (.int .u8 x.N.aI.a8),.sc (.int .u8 x.N.aI.a9),.sc (.int .u32 x.N.Tag),.sc (.int .u64 x.N.aS),.sc (.int .u32 x.N.IP),.sc (.bool x.N.eO),.sc (.int .u32 x.N.af.IP),.sc (.int .i64 x.N.af.Len),.sc (.int .u32 x.N.aM),.sc (.int .u32 x.N.Label),.sc (.int .u32 x.N.dU),.sc (.int .i64 x.A.Origin),.aB (x.A.Path.map (eI .u32)),.sc (.int .u32 x.A.Next),.sc (.bool x.A.Re),.sc (.int .u32 x.A.SD),.sc (.bool x.A.Qn),.sc (.int .u32 x.A.Si),.sc (.bool x.A.HQ),.sc (.int .u32 x.A.L7),.aB (x.A.Jk.map (eI .u32)),.aB (x.A.dR.map (tK (cI .u8))),.sc (.int .i64 x.A.xz.Kind),.sc (.int .u32 x.A.xz.Label),.sc (.int .u32 x.A.xz.Sg),.sc (.int .u32 x.A.xz.RU),.sc (.int .u32 x.Sj),.sc (.bool x.RV)]
structure az where
 au:Int
 af:af
 BD:Int
 Next:Int
 aZ:Int
 aS:Int
 bD:Int
def dF(x:az):List AVal:=[.sc (.int .i64 x.au),.sc (.int .u32 x.af.IP),.sc (.int .i64 x.af.Len),.sc (.int .i64 x.BD),.sc (.int .u32 x.Next),.sc (.int .u32 x.aZ),.sc (.int .u64 x.aS),.sc (.int .u64 x.bD)]
structure cE where
 A:Int
 B:Int
 wm:Int
def dn(x:cE):List AVal:=[.sc (.int .i64 x.A),.sc (.int .i64 x.B),.sc (.int .i64 x.wm)]
structure au where
 aZ:Int
 Target:Int
def aQ(x:au):List AVal:=[.sc (.int .u32 x.aZ),.sc (.int .u32 x.Target)]
structure BD where
 au:Int
 aZ:Int
 Target:Int
 ay:af
 aM:Int
def cU(x:BD):List AVal:=[.sc (.int .i64 x.au),.sc (.int .u32 x.aZ),.sc (.int .u32 x.Target),.sc (.int .u32 x.ay.IP),.sc (.int .i64 x.ay.Len),.sc (.int .u32 x.aM)]
structure aU where
 Leaves:(List Int)
 aG:(List Int)
def bz(x:aU):List AVal:=[.aB (x.Leaves.map (eI .i64)),.aB (x.aG.map (eI .i64))]
structure Host where
 aS:Int
 IP:Int
 BD:Int
 aU:Int
def bO(x:Host):List AVal:=[.sc (.int .u64 x.aS),.sc (.int .u32 x.IP),.sc (.int .i64 x.BD),.sc (.int .i64 x.aU)]
structure bS where
 From:Int
 To:Int
 af:af
def bR(x:bS):List AVal:=[.sc (.int .i64 x.From),.sc (.int .i64 x.To),.sc (.int .u32 x.af.IP),.sc (.int .i64 x.af.Len)]
structure bC where
 nQ:Int
 wo:Int
 z6:Int
 mK:Int
 sM:Int
 Window:Int
def Qo(x:bC):List AVal:=[.sc (.int .i64 x.nQ),.sc (.int .i64 x.wo),.sc (.int .i64 x.z6),.sc (.int .i64 x.mK),.sc (.int .i64 x.sM),.sc (.int .i64 x.Window)]
structure av where
 Leaves:Int
 cO:Int
 Links:(List cE)
 aA:(List au)
 aG:(List BD)
 ax:(List aU)
 Hosts:(List Host)
 Leaks:(List bS)
 nR:Int
 jq:Int
 bD:Int
 ou:Bool
 xb:Bool
 bC:bC
def aJ(x:av):List AVal:=[.sc (.int .i64 x.Leaves),.sc (.int .i64 x.cO),.aB (x.Links.map dn),.aB (x.aA.map aQ),.aB (x.aG.map cU),.aB (x.ax.map bz),.aB (x.Hosts.map bO),.aB (x.Leaks.map bR),.sc (.int .i64 x.nR),.sc (.int .i64 x.jq),.sc (.int .i64 x.bD),.sc (.bool x.ou),.sc (.bool x.xb),.sc (.int .i64 x.bC.nQ),.sc (.int .i64 x.bC.wo),.sc (.int .i64 x.bC.z6),.sc (.int .i64 x.bC.mK),.sc (.int .i64 x.bC.sM),.sc (.int .i64 x.bC.Window)]
structure R6 where
 Op:Int
 R7:Int
 Sk:Int
 R8:Int
 Sl:Int
structure Head where
 Src:Int
 SE:Int
 Tg:Int
 Te:Int
 Sz:Int
 SA:Int
structure Frame where
 Src:Int
 SE:Int
 Kind:Int
 R6:R6
 IP:Head
 Data:Int
structure cA where
 az:az
 ok:Bool
def vh(x:cA):List AVal:=[.sc (.int .i64 x.az.au),.sc (.int .u32 x.az.af.IP),.sc (.int .i64 x.az.af.Len),.sc (.int .i64 x.az.BD),.sc (.int .u32 x.az.Next),.sc (.int .u32 x.az.aZ),.sc (.int .u64 x.az.aS),.sc (.int .u64 x.az.bD),.sc (.bool x.ok)]
structure aC where
 l:(List Int)
 at_:Int
def sN(x:aC):List AVal:=[.aB (x.l.map (eI .i64)),.sc (.int .i64 x.at_)]
structure bT where
 f:av
def iG(x:bT):List AVal:=[.sc (.int .i64 x.f.Leaves),.sc (.int .i64 x.f.cO),.aB (x.f.Links.map dn),.aB (x.f.aA.map aQ),.aB (x.f.aG.map cU),.aB (x.f.ax.map bz),.aB (x.f.Hosts.map bO),.aB (x.f.Leaks.map bR),.sc (.int .i64 x.f.nR),.sc (.int .i64 x.f.jq),.sc (.int .i64 x.f.bD),.sc (.bool x.f.ou),.sc (.bool x.f.xb),.sc (.int .i64 x.f.bC.nQ),.sc (.int .i64 x.f.bC.wo),.sc (.int .i64 x.f.bC.z6),.sc (.int .i64 x.f.bC.mK),.sc (.int .i64 x.f.bC.sM),.sc (.int .i64 x.f.bC.Window)]
structure aa where
 tenant:Int
 prefix_:af
def y7(x:aa):List AVal:=[.sc (.int .i64 x.tenant),.sc (.int .u32 x.prefix_.IP),.sc (.int .i64 x.prefix_.Len)]
structure dr where
 level:Int
 y8:Int
 seq:Int
 bare:Int
 next:Int
 n:ia
def Ej(x:dr):List AVal:=[.sc (.int .i64 x.level),.sc (.int .i64 x.y8),.sc (.int .u32 x.seq),.sc (.int .i64 x.bare),.sc (.int .u32 x.next),.sc (.int .i64 x.n.Kind),.sc (.int .u64 x.n.RD),.sc (.int .u8 x.n.aI.a0),.sc (.int .u8 x.n.aI.a1),.sc (.int .u8 x.n.aI.a2),.sc (.int .u8 x.n.aI.a3),.sc (.int .u8 x.n.aI.a4),.sc (.int .u8 x.n.aI.a5),.sc (.int .u8 x.n.aI.a6),.sc (.int .u8 x.n.aI.a7),.sc (.int .u8 x.n.aI.a8),.sc (.int .u8 x.n.aI.a9),.sc (.int .u32 x.n.Tag),.sc (.int .u64 x.n.aS),.sc (.int .u32 x.n.IP),.sc (.bool x.n.eO),.sc (.int .u32 x.n.af.IP),.sc (.int .i64 x.n.af.Len),.sc (.int .u32 x.n.aM),.sc (.int .u32 x.n.Label),.sc (.int .u32 x.n.dU)]
structure aj where
 az:az
 cN:dr
def uc(x:aj):List AVal:=[.sc (.int .i64 x.az.au),.sc (.int .u32 x.az.af.IP),.sc (.int .i64 x.az.af.Len),.sc (.int .i64 x.az.BD),.sc (.int .u32 x.az.Next),.sc (.int .u32 x.az.aZ),.sc (.int .u64 x.az.aS),.sc (.int .u64 x.az.bD),.sc (.int .i64 x.cN.level),.sc (.int .i64 x.cN.y8),.sc (.int .u32 x.cN.seq),.sc (.int .i64 x.cN.bare),.sc (.int .u32 x.cN.next),.sc (.int .i64 x.cN.n.Kind),.sc (.int .u64 x.cN.n.RD),.sc (.int .u8 x.cN.n.aI.a0),.sc (.int .u8 x.cN.n.aI.a1),.sc (.int .u8 x.cN.n.aI.a2),.sc (.int .u8 x.cN.n.aI.a3),.sc (.int .u8 x.cN.n.aI.a4),.sc (.int .u8 x.cN.n.aI.a5),.sc (.int .u8 x.cN.n.aI.a6),.sc (.int .u8 x.cN.n.aI.a7),.sc (.int .u8 x.cN.n.aI.a8),.sc (.int .u8 x.cN.n.aI.a9),.sc (.int .u32 x.cN.n.Tag),.sc (.int .u64 x.cN.n.aS),.sc (.int .u32 x.cN.n.IP),.sc (.bool x.cN.n.eO),.sc (.int .u32 x.cN.n.af.IP),.sc (.int .i64 x.cN.n.af.Len),.sc (.int .u32 x.cN.n.aM),.sc (.int .u32 x.cN.n.Label),.sc (.int .u32 x.cN.n.dU)]
structure aL where
 bd:Int
 addr:Int
def fq(x:aL):List AVal:=[.sc (.int .i64 x.bd),.sc (.int .u64 x.addr)]
end Go.L
