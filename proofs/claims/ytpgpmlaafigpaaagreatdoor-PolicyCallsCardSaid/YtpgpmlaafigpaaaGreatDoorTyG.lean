/- The plain data of the program. No package variable is looked at. -/
import Derived.Test.YtpgpmlaafigpaaaGreatDoorAc
namespace Go.L
open Go.AM
def Vg(i:Nat):Option (List AVal):=match i with
 | 0=>some [.sc (.int .i64 1),.sc (.int .u8 0),.sc (.int .u8 2),.sc (.int .i64 2),.sc (.int .u8 3),.sc (.int .u8 12),.sc (.int .i64 3),.sc (.int .u8 6),.sc (.int .u8 0),.sc (.int .i64 4),.sc (.int .u8 6),.sc (.int .u8 1),.sc (.int .i64 5),.sc (.int .u8 6),.sc (.int .u8 2),.sc (.int .i64 6),.sc (.int .u8 6),.sc (.int .u8 3),.sc (.int .i64 7),.sc (.int .u8 6),.sc (.int .u8 6)]
 |_=>none
instance di:aD:=⟨{cells:=Vg,lazy:=true}⟩
structure Prefix where
 IP:Int
 Len:Int
def dN(x:Prefix):List AVal:=[.sc (.int .u32 x.IP),.sc (.int .i64 x.Len)]
structure Import where
 Target:Int
 dB:Bool
 Prefix:Prefix
 Place:Int
def cB(x:Import):List AVal:=[.sc (.int .u32 x.Target),.sc (.bool x.dB),.sc (.int .u32 x.Prefix.IP),.sc (.int .i64 x.Prefix.Len),.sc (.int .i64 x.Place)]
structure gO where
 Kind:Int
 RD:Int
 aH:(kZ Int)
 Tag:Int
 dM:Int
 IP:Int
 fM:Bool
 Prefix:Prefix
 bC:Int
 Label:Int
 gP:Int
def Wl(x:gO):List AVal:=[.sc (.int .i64 x.Kind),.sc (.int .u64 x.RD),.sc (.int .u8 x.aH.a0),.sc (.int .u8 x.aH.a1),.sc (.int .u8 x.aH.a2),.sc (.int .u8 x.aH.a3),.sc (.int .u8 x.aH.a4),.sc (.int .u8 x.aH.a5),.sc (.int .u8 x.aH.a6),.sc (.int .u8 x.aH.a7),.sc (.int .u8 x.aH.a8),.sc (.int .u8 x.aH.a9),.sc (.int .u32 x.Tag),.sc (.int .u64 x.dM),.sc (.int .u32 x.IP),.sc (.bool x.fM),.sc (.int .u32 x.Prefix.IP),.sc (.int .i64 x.Prefix.Len),.sc (.int .u32 x.bC),.sc (.int .u32 x.Label),.sc (.int .u32 x.gP)]
structure aC where
 Kind:Int
 Label:Int
 l8:Int
 je:Int
def Uz(x:aC):List AVal:=[.sc (.int .i64 x.Kind),.sc (.int .u32 x.Label),.sc (.int .u32 x.l8),.sc (.int .u32 x.je)]
structure bE where
 Origin:Int
 Path:(List Int)
 Next:Int
 gw:Bool
 gx:Int
 fI:Bool
 dR:Int
 aK:Bool
 aU:Int
 cg:(List Int)
 aY:(List (V8 Int))
 aC:aC
def EA(x:bE):List AVal:=[.sc (.int .i64 x.Origin),.aj (x.Path.map (eI .u32)),.sc (.int .u32 x.Next),.sc (.bool x.gw),.sc (.int .u32 x.gx),.sc (.bool x.fI),.sc (.int .u32 x.dR),.sc (.bool x.aK),.sc (.int .u32 x.aU),.aj (x.cg.map (eI .u32)),.aj (x.aY.map (ay (cI .u8))),.sc (.int .i64 x.aC.Kind),.sc (.int .u32 x.aC.Label),.sc (.int .u32 x.aC.l8),.sc (.int .u32 x.aC.je)]
structure aq where
 N:gO
 A:bE
 bS:Int
 cR:Bool
def aG(x:aq):List AVal:=[.sc (.int .i64 x.N.Kind),.sc (.int .u64 x.N.RD),.sc (.int .u8 x.N.aH.a0),.sc (.int .u8 x.N.aH.a1),.sc (.int .u8 x.N.aH.a2),.sc (.int .u8 x.N.aH.a3),.sc (.int .u8 x.N.aH.a4),.sc (.int .u8 x.N.aH.a5),.sc (.int .u8 x.N.aH.a6),.sc (.int .u8 x.N.aH.a7),.sc (.int .u8 x.N.aH.a8),.sc (.int .u8 x.N.aH.a9),.sc (.int .u32 x.N.Tag),.sc (.int .u64 x.N.dM),.sc (.int .u32 x.N.IP),.sc (.bool x.N.fM),.sc (.int .u32 x.N.Prefix.IP),.sc (.int .i64 x.N.Prefix.Len),.sc (.int .u32 x.N.bC),.sc (.int .u32 x.N.Label),.sc (.int .u32 x.N.gP),.sc (.int .i64 x.A.Origin),.aj (x.A.Path.map (eI .u32)),.sc (.int .u32 x.A.Next),.sc (.bool x.A.gw),.sc (.int .u32 x.A.gx),.sc (.bool x.A.fI),.sc (.int .u32 x.A.dR),.sc (.bool x.A.aK),.sc (.int .u32 x.A.aU),.aj (x.A.cg.map (eI .u32)),.aj (x.A.aY.map (ay (cI .u8))),.sc (.int .i64 x.A.aC.Kind),.sc (.int .u32 x.A.aC.Label),.sc (.int .u32 x.A.aC.l8),.sc (.int .u32 x.A.aC.je),.sc (.int .u32 x.bS),.sc (.bool x.cR)]
structure cu where
 iw:(List Int)
 Targets:(List Int)
 bS:Int
 dB:Bool
 Prefix:Prefix
 Ge:Int
 Le:Int
 qT:Bool
 jQ:Bool
 dR:Int
 kA:Bool
 gx:Int
 aW:(List (V8 Int))
 Add:(List (V8 Int))
def bI(x:cu):List AVal:=[.aj (x.iw.map (eI .i64)),.aj (x.Targets.map (eI .u32)),.sc (.int .u32 x.bS),.sc (.bool x.dB),.sc (.int .u32 x.Prefix.IP),.sc (.int .i64 x.Prefix.Len),.sc (.int .i64 x.Ge),.sc (.int .i64 x.Le),.sc (.bool x.qT),.sc (.bool x.jQ),.sc (.int .u32 x.dR),.sc (.bool x.kA),.sc (.int .u32 x.gx),.aj (x.aW.map (ay (cI .u8))),.aj (x.Add.map (ay (cI .u8)))]
structure cK where
 A:Int
 B:Int
 EB:Int
def dK(x:cK):List AVal:=[.sc (.int .i64 x.A),.sc (.int .i64 x.B),.sc (.int .i64 x.EB)]
structure aJ where
 gy:Int
 Target:Int
def bx(x:aJ):List AVal:=[.sc (.int .u32 x.gy),.sc (.int .u32 x.Target)]
structure BD where
 aJ:Int
 gy:Int
 Target:Int
 bT:Prefix
 bC:Int
def fB(x:BD):List AVal:=[.sc (.int .i64 x.aJ),.sc (.int .u32 x.gy),.sc (.int .u32 x.Target),.sc (.int .u32 x.bT.IP),.sc (.int .i64 x.bT.Len),.sc (.int .u32 x.bC)]
structure aO where
 Leaves:(List Int)
 bB:(List Int)
def bP(x:aO):List AVal:=[.aj (x.Leaves.map (eI .i64)),.aj (x.bB.map (eI .i64))]
structure Host where
 dM:Int
 IP:Int
 BD:Int
 aO:Int
def ew(x:Host):List AVal:=[.sc (.int .u64 x.dM),.sc (.int .u32 x.IP),.sc (.int .i64 x.BD),.sc (.int .i64 x.aO)]
structure cW where
 From:Int
 To:Int
 Prefix:Prefix
def dr(x:cW):List AVal:=[.sc (.int .i64 x.From),.sc (.int .i64 x.To),.sc (.int .u32 x.Prefix.IP),.sc (.int .i64 x.Prefix.Len)]
structure cq where
 uo:Int
 Dn:Int
 F7:Int
 tu:Int
 zy:Int
 Window:Int
structure bH where
 Leaves:Int
 iy:Int
 Links:(List cK)
 bq:(List aJ)
 bB:(List BD)
 aF:(List aO)
 ff:(List Host)
 gJ:(List cW)
 xV:Int
 ry:Int
 uq:Int
 Ai:Bool
 HB:Bool
 cq:cq
def dJ(x:bH):List AVal:=[.sc (.int .i64 x.Leaves),.sc (.int .i64 x.iy),.aj (x.Links.map dK),.aj (x.bq.map bx),.aj (x.bB.map fB),.aj (x.aF.map bP),.aj (x.ff.map ew),.aj (x.gJ.map dr),.sc (.int .i64 x.xV),.sc (.int .i64 x.ry),.sc (.int .i64 x.uq),.sc (.bool x.Ai),.sc (.bool x.HB),.sc (.int .i64 x.cq.uo),.sc (.int .i64 x.cq.Dn),.sc (.int .i64 x.cq.F7),.sc (.int .i64 x.cq.tu),.sc (.int .i64 x.cq.zy),.sc (.int .i64 x.cq.Window)]
structure Known where
 BD:Int
 IP:Int
 dM:Int
def vR(x:Known):List AVal:=[.sc (.int .i64 x.BD),.sc (.int .u32 x.IP),.sc (.int .u64 x.dM)]
structure WJ where
 Op:Int
 WK:Int
 WU:Int
 WM:Int
 WV:Int
structure Head where
 Src:Int
 Xb:Int
 Xh:Int
 Xg:Int
 W8:Int
 W9:Int
structure Frame where
 Src:Int
 Xb:Int
 Kind:Int
 WJ:WJ
 IP:Head
 Data:Int
structure Gy where
 BD:Int
 aO:Int
 dM:Int
 IP:Int
 fM:Bool
 Time:Int
def KE(x:Gy):List AVal:=[.sc (.int .i64 x.BD),.sc (.int .i64 x.aO),.sc (.int .u64 x.dM),.sc (.int .u32 x.IP),.sc (.bool x.fM),.sc (.int .i64 x.Time)]
structure az where
 l:(List Int)
 at_:Int
def tv(x:az):List AVal:=[.aj (x.l.map (eI .i64)),.sc (.int .i64 x.at_)]
structure au where
 bd:Int
 ip:Int
def cZ(x:au):List AVal:=[.sc (.int .i64 x.bd),.sc (.int .u32 x.ip)]
structure ak where
 qU:Int
 kB:Bool
 time:Int
 seq:Int
 nu:Bool
 next:Int
def dF(x:ak):List AVal:=[.sc (.int .u64 x.qU),.sc (.bool x.kB),.sc (.int .i64 x.time),.sc (.int .u32 x.seq),.sc (.bool x.nu),.sc (.int .u32 x.next)]
structure bR where
 f:bH
def jf(x:bR):List AVal:=[.sc (.int .i64 x.f.Leaves),.sc (.int .i64 x.f.iy),.aj (x.f.Links.map dK),.aj (x.f.bq.map bx),.aj (x.f.bB.map fB),.aj (x.f.aF.map bP),.aj (x.f.ff.map ew),.aj (x.f.gJ.map dr),.sc (.int .i64 x.f.xV),.sc (.int .i64 x.f.ry),.sc (.int .i64 x.f.uq),.sc (.bool x.f.Ai),.sc (.bool x.f.HB),.sc (.int .i64 x.f.cq.uo),.sc (.int .i64 x.f.cq.Dn),.sc (.int .i64 x.f.cq.F7),.sc (.int .i64 x.f.cq.tu),.sc (.int .i64 x.f.cq.zy),.sc (.int .i64 x.f.cq.Window)]
structure aS where
 bd:Int
 addr:Int
def eV(x:aS):List AVal:=[.sc (.int .i64 x.bd),.sc (.int .u64 x.addr)]
end Go.L
