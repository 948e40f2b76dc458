/- The plain data of the program. No package variable is looked at. -/
import Derived.Test.YtiohninblcifpaaGreatDoorAc
namespace Go.L
open Go.AM
def Td(i:Nat):Option (List AVal):=match i with
 | 0=>some [.sc (.int .i64 1),.sc (.int .u8 0),.sc (.int .u8 2),.sc (.int .i64 2),.sc (.int .u8 3),.sc (.int .u8 12),.sc (.int .i64 3),.sc (.int .u8 6),.sc (.int .u8 0),.sc (.int .i64 4),.sc (.int .u8 6),.sc (.int .u8 1),.sc (.int .i64 5),.sc (.int .u8 6),.sc (.int .u8 2),.sc (.int .i64 6),.sc (.int .u8 6),.sc (.int .u8 3),.sc (.int .i64 7),.sc (.int .u8 6),.sc (.int .u8 6)]
 |_=>none
instance dc:aF:=⟨{cells:=Td,lazy:=true}⟩
abbrev si(x:Int):AVal:=.sc (.int .i64 x)
abbrev su(x:Int):AVal:=.sc (.int .u32 x)
abbrev sq(x:Int):AVal:=.sc (.int .u64 x)
abbrev s8(x:Int):AVal:=.sc (.int .u8 x)
abbrev sn:AVal:=.sc (.slice none 0 0)
abbrev sb(x:Bool):AVal:=.sc (.bool x)
structure ah where
 IP:Int
 Len:Int
def gJ(x:ah):List AVal:=[.sc (.int .u32 x.IP),.sc (.int .i64 x.Len)]
structure iO where
 Kind:Int
 RD:Int
 aC:(cB Int)
 Tag:Int
 bq:Int
 IP:Int
 eH:Bool
 ah:ah
 aL:Int
 Label:Int
 dg:Int
def Gl(x:iO):List AVal:=[.sc (.int .i64 x.Kind),.sc (.int .u64 x.RD),.sc (.int .u8 x.aC.a0),.sc (.int .u8 x.aC.a1),.sc (.int .u8 x.aC.a2),.sc (.int .u8 x.aC.a3),.sc (.int .u8 x.aC.a4),.sc (.int .u8 x.aC.a5),.sc (.int .u8 x.aC.a6),.sc (.int .u8 x.aC.a7),.sc (.int .u8 x.aC.a8),.sc (.int .u8 x.aC.a9),.sc (.int .u32 x.Tag),.sc (.int .u64 x.bq),.sc (.int .u32 x.IP),.sc (.bool x.eH),.sc (.int .u32 x.ah.IP),.sc (.int .i64 x.ah.Len),.sc (.int .u32 x.aL),.sc (.int .u32 x.Label),.sc (.int .u32 x.dg)]
structure nO where
 Kind:Int
 Label:Int
 Kj:Int
 Gm:Int
def Sk(x:nO):List AVal:=[.sc (.int .i64 x.Kind),.sc (.int .u32 x.Label),.sc (.int .u32 x.Kj),.sc (.int .u32 x.Gm)]
structure Nl where
 Origin:Int
 Path:(List Int)
 Next:Int
 Kk:Bool
 RM:Int
 Hu:Bool
 Nn:Int
 yh:Bool
 yS:Int
 pX:(List Int)
 bT:(List (V8 Int))
 nO:nO
def Te(x:Nl):List AVal:=[.sc (.int .i64 x.Origin),.aB (x.Path.map (eI .u32)),.sc (.int .u32 x.Next),.sc (.bool x.Kk),.sc (.int .u32 x.RM),.sc (.bool x.Hu),.sc (.int .u32 x.Nn),.sc (.bool x.yh),.sc (.int .u32 x.yS),.aB (x.pX.map (eI .u32)),.aB (x.bT.map (lD (cI .u8))),.sc (.int .i64 x.nO.Kind),.sc (.int .u32 x.nO.Label),.sc (.int .u32 x.nO.Kj),.sc (.int .u32 x.nO.Gm)]
structure bF where
 N:iO
 A:Nl
 QM:Int
 RN:Bool
def cz(x:bF):List AVal:=[.sc (.int .i64 x.N.Kind),.sc (.int .u64 x.N.RD),.sc (.int .u8 x.N.aC.a0),.sc (.int .u8 x.N.aC.a1),.sc (.int .u8 x.N.aC.a2),.sc (.int .u8 x.N.aC.a3),.sc (.int .u8 x.N.aC.a4),.sc (.int .u8 x.N.aC.a5),.sc (.int .u8 x.N.aC.a6),.sc (.int .u8 x.N.aC.a7),.sc (.int .u8 x.N.aC.a8),.sc (.int .u8 x.N.aC.a9),.sc (.int .u32 x.N.Tag),.sc (.int .u64 x.N.bq),.sc (.int .u32 x.N.IP),.sc (.bool x.N.eH),.sc (.int .u32 x.N.ah.IP),.sc (.int .i64 x.N.ah.Len),.sc (.int .u32 x.N.aL),.sc (.int .u32 x.N.Label),.sc (.int .u32 x.N.dg),.sc (.int .i64 x.A.Origin),.aB (x.A.Path.map (eI .u32)),.sc (.int .u32 x.A.Next),.sc (.bool x.A.Kk),.sc (.int .u32 x.A.RM),.sc (.bool x.A.Hu),.sc (.int .u32 x.A.Nn),.sc (.bool x.A.yh),.sc (.int .u32 x.A.yS),.aB (x.A.pX.map (eI .u32)),.aB (x.A.bT.map (lD (cI .u8))),.sc (.int .i64 x.A.nO.Kind),.sc (.int .u32 x.A.nO.Label),.sc (.int .u32 x.A.nO.Kj),.sc (.int .u32 x.A.nO.Gm),.sc (.int .u32 x.QM),.sc (.bool x.RN)]
structure aG where
 av:Int
 ah:ah
 BD:Int
 Next:Int
 bL:Int
 bq:Int
 cW:Int
def cO(x:aG):List AVal:=[.sc (.int .i64 x.av),.sc (.int .u32 x.ah.IP),.sc (.int .i64 x.ah.Len),.sc (.int .i64 x.BD),.sc (.int .u32 x.Next),.sc (.int .u32 x.bL),.sc (.int .u64 x.bq),.sc (.int .u64 x.cW)]
structure eV where
 A:Int
 B:Int
 wH:Int
def eN(x:eV):List AVal:=[.sc (.int .i64 x.A),.sc (.int .i64 x.B),.sc (.int .i64 x.wH)]
structure av where
 bL:Int
 Target:Int
def aZ(x:av):List AVal:=[.sc (.int .u32 x.bL),.sc (.int .u32 x.Target)]
structure BD where
 av:Int
 bL:Int
 Target:Int
 aJ:ah
 aL:Int
def dX(x:BD):List AVal:=[.sc (.int .i64 x.av),.sc (.int .u32 x.bL),.sc (.int .u32 x.Target),.sc (.int .u32 x.aJ.IP),.sc (.int .i64 x.aJ.Len),.sc (.int .u32 x.aL)]
structure bf where
 Leaves:(List Int)
 aI:(List Int)
def bR(x:bf):List AVal:=[.aB (x.Leaves.map (eI .i64)),.aB (x.aI.map (eI .i64))]
structure Host where
 bq:Int
 IP:Int
 BD:Int
 bf:Int
def gY(x:Host):List AVal:=[.sc (.int .u64 x.bq),.sc (.int .u32 x.IP),.sc (.int .i64 x.BD),.sc (.int .i64 x.bf)]
structure dH where
 From:Int
 To:Int
 ah:ah
def cu(x:dH):List AVal:=[.sc (.int .i64 x.From),.sc (.int .i64 x.To),.sc (.int .u32 x.ah.IP),.sc (.int .i64 x.ah.Len)]
structure cC where
 rE:Int
 A8:Int
 Dy:Int
 qG:Int
 xx:Int
 Window:Int
def Sl(x:cC):List AVal:=[.sc (.int .i64 x.rE),.sc (.int .i64 x.A8),.sc (.int .i64 x.Dy),.sc (.int .i64 x.qG),.sc (.int .i64 x.xx),.sc (.int .i64 x.Window)]
structure au where
 Leaves:Int
 dK:Int
 Links:(List eV)
 aA:(List av)
 aI:(List BD)
 az:(List bf)
 Hosts:(List Host)
 Leaks:(List dH)
 xy:Int
 qH:Int
 cW:Int
 Fu:Bool
 Np:Bool
 cC:cC
def aK(x:au):List AVal:=[.sc (.int .i64 x.Leaves),.sc (.int .i64 x.dK),.aB (x.Links.map eN),.aB (x.aA.map aZ),.aB (x.aI.map dX),.aB (x.az.map bR),.aB (x.Hosts.map gY),.aB (x.Leaks.map cu),.sc (.int .i64 x.xy),.sc (.int .i64 x.qH),.sc (.int .i64 x.cW),.sc (.bool x.Fu),.sc (.bool x.Np),.sc (.int .i64 x.cC.rE),.sc (.int .i64 x.cC.A8),.sc (.int .i64 x.cC.Dy),.sc (.int .i64 x.cC.qG),.sc (.int .i64 x.cC.xx),.sc (.int .i64 x.cC.Window)]
structure Um where
 Op:Int
 Un:Int
 Uz:Int
 Uo:Int
 UA:Int
structure Head where
 Src:Int
 UP:Int
 Vs:Int
 Vq:Int
 UL:Int
 UM:Int
structure Frame where
 Src:Int
 UP:Int
 Kind:Int
 Um:Um
 IP:Head
 Data:Int
structure ax where
 l:(List Int)
 at_:Int
def sO(x:ax):List AVal:=[.aB (x.l.map (eI .i64)),.sc (.int .i64 x.at_)]
structure bK where
 f:au
def iV(x:bK):List AVal:=[.sc (.int .i64 x.f.Leaves),.sc (.int .i64 x.f.dK),.aB (x.f.Links.map eN),.aB (x.f.aA.map aZ),.aB (x.f.aI.map dX),.aB (x.f.az.map bR),.aB (x.f.Hosts.map gY),.aB (x.f.Leaks.map cu),.sc (.int .i64 x.f.xy),.sc (.int .i64 x.f.qH),.sc (.int .i64 x.f.cW),.sc (.bool x.f.Fu),.sc (.bool x.f.Np),.sc (.int .i64 x.f.cC.rE),.sc (.int .i64 x.f.cC.A8),.sc (.int .i64 x.f.cC.Dy),.sc (.int .i64 x.f.cC.qG),.sc (.int .i64 x.f.cC.xx),.sc (.int .i64 x.f.cC.Window)]
structure aa where
 tenant:Int
 prefix_:ah
def zz(x:aa):List AVal:=[.sc (.int .i64 x.tenant),.sc (.int .u32 x.prefix_.IP),.sc (.int .i64 x.prefix_.Len)]
structure cZ where
 level:Int
 zA:Int
 seq:Int
 bare:Int
 next:Int
 n:iO
def EY(x:cZ):List AVal:=[.sc (.int .i64 x.level),.sc (.int .i64 x.zA),.sc (.int .u32 x.seq),.sc (.int .i64 x.bare),.sc (.int .u32 x.next),.sc (.int .i64 x.n.Kind),.sc (.int .u64 x.n.RD),.sc (.int .u8 x.n.aC.a0),.sc (.int .u8 x.n.aC.a1),.sc (.int .u8 x.n.aC.a2),.sc (.int .u8 x.n.aC.a3),.sc (.int .u8 x.n.aC.a4),.sc (.int .u8 x.n.aC.a5),.sc (.int .u8 x.n.aC.a6),.sc (.int .u8 x.n.aC.a7),.sc (.int .u8 x.n.aC.a8),.sc (.int .u8 x.n.aC.a9),.sc (.int .u32 x.n.Tag),.sc (.int .u64 x.n.bq),.sc (.int .u32 x.n.IP),.sc (.bool x.n.eH),.sc (.int .u32 x.n.ah.IP),.sc (.int .i64 x.n.ah.Len),.sc (.int .u32 x.n.aL),.sc (.int .u32 x.n.Label),.sc (.int .u32 x.n.dg)]
structure aj where
 aG:aG
 cG:cZ
def uh(x:aj):List AVal:=[.sc (.int .i64 x.aG.av),.sc (.int .u32 x.aG.ah.IP),.sc (.int .i64 x.aG.ah.Len),.sc (.int .i64 x.aG.BD),.sc (.int .u32 x.aG.Next),.sc (.int .u32 x.aG.bL),.sc (.int .u64 x.aG.bq),.sc (.int .u64 x.aG.cW),.sc (.int .i64 x.cG.level),.sc (.int .i64 x.cG.zA),.sc (.int .u32 x.cG.seq),.sc (.int .i64 x.cG.bare),.sc (.int .u32 x.cG.next),.sc (.int .i64 x.cG.n.Kind),.sc (.int .u64 x.cG.n.RD),.sc (.int .u8 x.cG.n.aC.a0),.sc (.int .u8 x.cG.n.aC.a1),.sc (.int .u8 x.cG.n.aC.a2),.sc (.int .u8 x.cG.n.aC.a3),.sc (.int .u8 x.cG.n.aC.a4),.sc (.int .u8 x.cG.n.aC.a5),.sc (.int .u8 x.cG.n.aC.a6),.sc (.int .u8 x.cG.n.aC.a7),.sc (.int .u8 x.cG.n.aC.a8),.sc (.int .u8 x.cG.n.aC.a9),.sc (.int .u32 x.cG.n.Tag),.sc (.int .u64 x.cG.n.bq),.sc (.int .u32 x.cG.n.IP),.sc (.bool x.cG.n.eH),.sc (.int .u32 x.cG.n.ah.IP),.sc (.int .i64 x.cG.n.ah.Len),.sc (.int .u32 x.cG.n.aL),.sc (.int .u32 x.cG.n.Label),.sc (.int .u32 x.cG.n.dg)]
structure bp where
 bd:Int
 addr:Int
def uj(x:bp):List AVal:=[.sc (.int .i64 x.bd),.sc (.int .u64 x.addr)]
end Go.L
