/- The plain data of the program. No package variable is looked at. -/
import Derived.Test.YtiohninblcifpaaGreatDoorAc
namespace Go.L
open Go.AM
def MM(i:Nat):Option (List AVal):=match i with
 | 0=>some [.sc (.int .i64 1),.sc (.int .u8 0),.sc (.int .u8 2),.sc (.int .i64 2),.sc (.int .u8 3),.sc (.int .u8 12),.sc (.int .i64 3),.sc (.int .u8 6),.sc (.int .u8 0),.sc (.int .i64 4),.sc (.int .u8 6),.sc (.int .u8 1),.sc (.int .i64 5),.sc (.int .u8 6),.sc (.int .u8 2),.sc (.int .i64 6),.sc (.int .u8 6),.sc (.int .u8 3),.sc (.int .i64 7),.sc (.int .u8 6),.sc (.int .u8 6)]
 |_=>none
instance cz:az:=⟨{cells:=MM,lazy:=true}⟩
abbrev si(x:Int):AVal:=.sc (.int .i64 x)
abbrev su(x:Int):AVal:=.sc (.int .u32 x)
abbrev sq(x:Int):AVal:=.sc (.int .u64 x)
abbrev sn:AVal:=.sc (.slice none 0 0)
abbrev sb(x:Bool):AVal:=.sc (.bool x)
structure aM where
 IP:Int
 Len:Int
def tf(x:aM):List AVal:=[.sc (.int .u32 x.IP),.sc (.int .i64 x.Len)]
structure K0 where
 Kind:Int
 RD:Int
 dY:(NI Int)
 Tag:Int
 MAC:Int
 IP:Int
 iz:Bool
 aM:aM
 bW:Int
 Label:Int
 Ci:Int
def Nt(x:K0):List AVal:=[.sc (.int .i64 x.Kind),.sc (.int .u64 x.RD),.sc (.int .u8 x.dY.a0),.sc (.int .u8 x.dY.a1),.sc (.int .u8 x.dY.a2),.sc (.int .u8 x.dY.a3),.sc (.int .u8 x.dY.a4),.sc (.int .u8 x.dY.a5),.sc (.int .u8 x.dY.a6),.sc (.int .u8 x.dY.a7),.sc (.int .u8 x.dY.a8),.sc (.int .u8 x.dY.a9),.sc (.int .u32 x.Tag),.sc (.int .u64 x.MAC),.sc (.int .u32 x.IP),.sc (.bool x.iz),.sc (.int .u32 x.aM.IP),.sc (.int .i64 x.aM.Len),.sc (.int .u32 x.bW),.sc (.int .u32 x.Label),.sc (.int .u32 x.Ci)]
structure lW where
 Kind:Int
 Label:Int
 Fv:Int
 Cj:Int
def Mf(x:lW):List AVal:=[.sc (.int .i64 x.Kind),.sc (.int .u32 x.Label),.sc (.int .u32 x.Fv),.sc (.int .u32 x.Cj)]
structure Ik where
 Origin:Int
 Path:(List Int)
 Next:Int
 Fw:Bool
 LP:Int
 Da:Bool
 Il:Int
 uh:Bool
 uI:Int
 th:(List Int)
 jW:(List (V8 Int))
 lW:lW
def MN(x:Ik):List AVal:=[.sc (.int .i64 x.Origin),.au (x.Path.map (eI .u32)),.sc (.int .u32 x.Next),.sc (.bool x.Fw),.sc (.int .u32 x.LP),.sc (.bool x.Da),.sc (.int .u32 x.Il),.sc (.bool x.uh),.sc (.int .u32 x.uI),.au (x.th.map (eI .u32)),.au (x.jW.map (vj (cI .u8))),.sc (.int .i64 x.lW.Kind),.sc (.int .u32 x.lW.Label),.sc (.int .u32 x.lW.Fv),.sc (.int .u32 x.lW.Cj)]
structure bw where
 N:K0
 A:Ik
 K3:Int
 LQ:Bool
def bQ(x:bw):List AVal:=[.sc (.int .i64 x.N.Kind),.sc (.int .u64 x.N.RD),.sc (.int .u8 x.N.dY.a0),.sc (.int .u8 x.N.dY.a1),.sc (.int .u8 x.N.dY.a2),.sc (.int .u8 x.N.dY.a3),.sc (.int .u8 x.N.dY.a4),.sc (.int .u8 x.N.dY.a5),.sc (.int .u8 x.N.dY.a6),.sc (.int .u8 x.N.dY.a7),.sc (.int .u8 x.N.dY.a8),.sc (.int .u8 x.N.dY.a9),.sc (.int .u32 x.N.Tag),.sc (.int .u64 x.N.MAC),.sc (.int .u32 x.N.IP),.sc (.bool x.N.iz),.sc (.int .u32 x.N.aM.IP),.sc (.int .i64 x.N.aM.Len),.sc (.int .u32 x.N.bW),.sc (.int .u32 x.N.Label),.sc (.int .u32 x.N.Ci),.sc (.int .i64 x.A.Origin),.au (x.A.Path.map (eI .u32)),.sc (.int .u32 x.A.Next),.sc (.bool x.A.Fw),.sc (.int .u32 x.A.LP),.sc (.bool x.A.Da),.sc (.int .u32 x.A.Il),.sc (.bool x.A.uh),.sc (.int .u32 x.A.uI),.au (x.A.th.map (eI .u32)),.au (x.A.jW.map (vj (cI .u8))),.sc (.int .i64 x.A.lW.Kind),.sc (.int .u32 x.A.lW.Label),.sc (.int .u32 x.A.lW.Fv),.sc (.int .u32 x.A.lW.Cj),.sc (.int .u32 x.K3),.sc (.bool x.LQ)]
structure bV where
 A:Int
 B:Int
 zD:Int
def cO(x:bV):List AVal:=[.sc (.int .i64 x.A),.sc (.int .i64 x.B),.sc (.int .i64 x.zD)]
structure aC where
 eT:Int
 Target:Int
def aT(x:aC):List AVal:=[.sc (.int .u32 x.eT),.sc (.int .u32 x.Target)]
structure BD where
 aC:Int
 eT:Int
 Target:Int
 bx:aM
 bW:Int
def ew(x:BD):List AVal:=[.sc (.int .i64 x.aC),.sc (.int .u32 x.eT),.sc (.int .u32 x.Target),.sc (.int .u32 x.bx.IP),.sc (.int .i64 x.bx.Len),.sc (.int .u32 x.bW)]
structure aB where
 Leaves:(List Int)
 aW:(List Int)
def aZ(x:aB):List AVal:=[.au (x.Leaves.map (eI .i64)),.au (x.aW.map (eI .i64))]
structure Host where
 MAC:Int
 IP:Int
 BD:Int
 aB:Int
def dn(x:Host):List AVal:=[.sc (.int .u64 x.MAC),.sc (.int .u32 x.IP),.sc (.int .i64 x.BD),.sc (.int .i64 x.aB)]
structure cc where
 From:Int
 To:Int
 aM:aM
def cB(x:cc):List AVal:=[.sc (.int .i64 x.From),.sc (.int .i64 x.To),.sc (.int .u32 x.aM.IP),.sc (.int .i64 x.aM.Len)]
structure bJ where
 qp:Int
 yw:Int
 A7:Int
 pq:Int
 uJ:Int
 Window:Int
structure aQ where
 Leaves:Int
 fG:Int
 Links:(List bV)
 aR:(List aC)
 aW:(List BD)
 ax:(List aB)
 dS:(List Host)
 ff:(List cc)
 tP:Int
 og:Int
 qq:Int
 vo:Bool
 Ck:Bool
 bJ:bJ
def bt(x:aQ):List AVal:=[.sc (.int .i64 x.Leaves),.sc (.int .i64 x.fG),.au (x.Links.map cO),.au (x.aR.map aT),.au (x.aW.map ew),.au (x.ax.map aZ),.au (x.dS.map dn),.au (x.ff.map cB),.sc (.int .i64 x.tP),.sc (.int .i64 x.og),.sc (.int .i64 x.qq),.sc (.bool x.vo),.sc (.bool x.Ck),.sc (.int .i64 x.bJ.qp),.sc (.int .i64 x.bJ.yw),.sc (.int .i64 x.bJ.A7),.sc (.int .i64 x.bJ.pq),.sc (.int .i64 x.bJ.uJ),.sc (.int .i64 x.bJ.Window)]
structure Known where
 BD:Int
 IP:Int
 MAC:Int
def cg(x:Known):List AVal:=[.sc (.int .i64 x.BD),.sc (.int .u32 x.IP),.sc (.int .u64 x.MAC)]
structure NJ where
 Op:Int
 NK:Int
 NR:Int
 NL:Int
 NS:Int
structure Head where
 Src:Int
 N5:Int
 Oz:Int
 Oy:Int
 N1:Int
 N2:Int
structure Frame where
 Src:Int
 N5:Int
 Kind:Int
 NJ:NJ
 IP:Head
 Data:Int
structure hU where
 BD:Int
 aB:Int
 MAC:Int
 IP:Int
 iz:Bool
 Time:Int
def fH(x:hU):List AVal:=[.sc (.int .i64 x.BD),.sc (.int .i64 x.aB),.sc (.int .u64 x.MAC),.sc (.int .u32 x.IP),.sc (.bool x.iz),.sc (.int .i64 x.Time)]
structure aq where
 l:(List Int)
 at_:Int
def pz(x:aq):List AVal:=[.au (x.l.map (eI .i64)),.sc (.int .i64 x.at_)]
structure aj where
 bd:Int
 ip:Int
def ck(x:aj):List AVal:=[.sc (.int .i64 x.bd),.sc (.int .u32 x.ip)]
structure ah where
 ov:Int
 gO:Bool
 time:Int
 seq:Int
 kN:Bool
 next:Int
def cK(x:ah):List AVal:=[.sc (.int .u64 x.ov),.sc (.bool x.gO),.sc (.int .i64 x.time),.sc (.int .u32 x.seq),.sc (.bool x.kN),.sc (.int .u32 x.next)]
structure bk where
 f:aQ
def gE(x:bk):List AVal:=[.sc (.int .i64 x.f.Leaves),.sc (.int .i64 x.f.fG),.au (x.f.Links.map cO),.au (x.f.aR.map aT),.au (x.f.aW.map ew),.au (x.f.ax.map aZ),.au (x.f.dS.map dn),.au (x.f.ff.map cB),.sc (.int .i64 x.f.tP),.sc (.int .i64 x.f.og),.sc (.int .i64 x.f.qq),.sc (.bool x.f.vo),.sc (.bool x.f.Ck),.sc (.int .i64 x.f.bJ.qp),.sc (.int .i64 x.f.bJ.yw),.sc (.int .i64 x.f.bJ.A7),.sc (.int .i64 x.f.bJ.pq),.sc (.int .i64 x.f.bJ.uJ),.sc (.int .i64 x.f.bJ.Window)]
structure aG where
 bd:Int
 addr:Int
def dL(x:aG):List AVal:=[.sc (.int .i64 x.bd),.sc (.int .u64 x.addr)]
end Go.L
