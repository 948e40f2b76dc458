/- Parts put together. No conditions. -/
import Derived.Test.YtiohninblcifpaaGreatDoorAc
section
namespace Go.L
open Go.AM
def Ql(i:Nat):Option (List AVal):=match i with
 | 0=>some [.sc (.int .i64 1),.sc (.int .u8 0),.sc (.int .u8 2),.sc (.int .i64 2),.sc (.int .u8 3),.sc (.int .u8 12),.sc (.int .i64 3),.sc (.int .u8 6),.sc (.int .u8 0),.sc (.int .i64 4),.sc (.int .u8 6),.sc (.int .u8 1),.sc (.int .i64 5),.sc (.int .u8 6),.sc (.int .u8 2),.sc (.int .i64 6),.sc (.int .u8 6),.sc (.int .u8 3),.sc (.int .i64 7),.sc (.int .u8 6),.sc (.int .u8 6)]
 |_=>none
instance cD:aB:=⟨{cells:=Ql,lazy:=true}⟩
abbrev si(x:Int):AVal:=.sc (.int .i64 x)
abbrev su(x:Int):AVal:=.sc (.int .u32 x)
abbrev sq(x:Int):AVal:=.sc (.int .u64 x)
abbrev sn:AVal:=.sc (.slice none 0 0)
abbrev sb(x:Bool):AVal:=.sc (.bool x)
structure aN where
 IP:Int
 Len:Int
def gY(x:aN):List AVal:=[.sc (.int .u32 x.IP),.sc (.int .i64 x.Len)]
structure N6 where
 Kind:Int
 RD:Int
 cF:(Rf Int)
 Tag:Int
 bN:Int
 IP:Int
 qm:Bool
 aN:aN
 aZ:Int
 Label:Int
 Ew:Int
def Q0(x:N6):List AVal:=[.sc (.int .i64 x.Kind),.sc (.int .u64 x.RD),.sc (.int .u8 x.cF.a0),.sc (.int .u8 x.cF.a1),.sc (.int .u8 x.cF.a2),.sc (.int .u8 x.cF.a3),.sc (.int .u8 x.cF.a4),.sc (.int .u8 x.cF.a5),.sc (.int .u8 x.cF.a6),.sc (.int .u8 x.cF.a7),.sc (.int .u8 x.cF.a8),.sc (.int .u8 x.cF.a9),.sc (.int .u32 x.Tag),.sc (.int .u64 x.bN),.sc (.int .u32 x.IP),.sc (.bool x.qm),.sc (.int .u32 x.aN.IP),.sc (.int .i64 x.aN.Len),.sc (.int .u32 x.aZ),.sc (.int .u32 x.Label),.sc (.int .u32 x.Ew)]
structure lu where
 Kind:Int
 Label:Int
 Im:Int
 Ex:Int
def Pr(x:lu):List AVal:=[.sc (.int .i64 x.Kind),.sc (.int .u32 x.Label),.sc (.int .u32 x.Im),.sc (.int .u32 x.Ex)]
structure vk where
 Origin:Int
 Path:(List Int)
 Next:Int
 Ey:Bool
 MH:Int
 CG:Bool
 Io:Int
 rE:Bool
 tA:Int
 jE:(List Int)
 fh:(List (V8 Int))
 lu:lu
def Ip(x:vk):List AVal:=[.sc (.int .i64 x.Origin),.aC (x.Path.map (eI .u32)),.sc (.int .u32 x.Next),.sc (.bool x.Ey),.sc (.int .u32 x.MH),.sc (.bool x.CG),.sc (.int .u32 x.Io),.sc (.bool x.rE),.sc (.int .u32 x.tA),.aC (x.jE.map (eI .u32)),.aC (x.fh.map (ki (cI .u8))),.sc (.int .i64 x.lu.Kind),.sc (.int .u32 x.lu.Label),.sc (.int .u32 x.lu.Im),.sc (.int .u32 x.lu.Ex)]
structure bt where
 N:N6
 A:vk
 Ld:Int
 Le:Bool
def cc(x:bt):List AVal:=[.sc (.int .i64 x.N.Kind),.sc (.int .u64 x.N.RD),.sc (.int .u8 x.N.cF.a0),.sc (.int .u8 x.N.cF.a1),.sc (.int .u8 x.N.cF.a2),.sc (.int .u8 x.N.cF.a3),.sc (.int .u8 x.N.cF.a4),.sc (.int .u8 x.N.cF.a5),.sc (.int .u8 x.N.cF.a6),.sc (.int .u8 x.N.cF.a7),.sc (.int .u8 x.N.cF.a8),.sc (.int .u8 x.N.cF.a9),.sc (.int .u32 x.N.Tag),.sc (.int .u64 x.N.bN),.sc (.int .u32 x.N.IP),.sc (.bool x.N.qm),.sc (.int .u32 x.N.aN.IP),.sc (.int .i64 x.N.aN.Len),.sc (.int .u32 x.N.aZ),.sc (.int .u32 x.N.Label),.sc (.int .u32 x.N.Ew),.sc (.int .i64 x.A.Origin),.aC (x.A.Path.map (eI .u32)),.sc (.int .u32 x.A.Next),.sc (.bool x.A.Ey),.sc (.int .u32 x.A.MH),.sc (.bool x.A.CG),.sc (.int .u32 x.A.Io),.sc (.bool x.A.rE),.sc (.int .u32 x.A.tA),.aC (x.A.jE.map (eI .u32)),.aC (x.A.fh.map (ki (cI .u8))),.sc (.int .i64 x.A.lu.Kind),.sc (.int .u32 x.A.lu.Label),.sc (.int .u32 x.A.lu.Im),.sc (.int .u32 x.A.lu.Ex),.sc (.int .u32 x.Ld),.sc (.bool x.Le)]
structure dG where
 A:Int
 B:Int
 uF:Int
def dA(x:dG):List AVal:=[.sc (.int .i64 x.A),.sc (.int .i64 x.B),.sc (.int .i64 x.uF)]
structure aU where
 cg:Int
 Target:Int
def bp(x:aU):List AVal:=[.sc (.int .u32 x.cg),.sc (.int .u32 x.Target)]
structure BD where
 aU:Int
 cg:Int
 Target:Int
 aJ:aN
 aZ:Int
def eu(x:BD):List AVal:=[.sc (.int .i64 x.aU),.sc (.int .u32 x.cg),.sc (.int .u32 x.Target),.sc (.int .u32 x.aJ.IP),.sc (.int .i64 x.aJ.Len),.sc (.int .u32 x.aZ)]
structure aH where
 Leaves:(List Int)
 aI:(List Int)
def bu(x:aH):List AVal:=[.aC (x.Leaves.map (eI .i64)),.aC (x.aI.map (eI .i64))]
structure Host where
 bN:Int
 IP:Int
 BD:Int
 aH:Int
def gb(x:Host):List AVal:=[.sc (.int .u64 x.bN),.sc (.int .u32 x.IP),.sc (.int .i64 x.BD),.sc (.int .i64 x.aH)]
structure fW where
 From:Int
 To:Int
 aN:aN
def dX(x:fW):List AVal:=[.sc (.int .i64 x.From),.sc (.int .i64 x.To),.sc (.int .u32 x.aN.IP),.sc (.int .i64 x.aN.Len)]
structure bT where
 pF:Int
 y9:Int
 BK:Int
 oH:Int
 vl:Int
 Window:Int
def Pt(x:bT):List AVal:=[.sc (.int .i64 x.pF),.sc (.int .i64 x.y9),.sc (.int .i64 x.BK),.sc (.int .i64 x.oH),.sc (.int .i64 x.vl),.sc (.int .i64 x.Window)]
structure aD where
 Leaves:Int
 cZ:Int
 Links:(List dG)
 aG:(List aU)
 aI:(List BD)
 au:(List aH)
 bh:(List Host)
 dn:(List fW)
 vm:Int
 oI:Int
 qY:Int
 DB:Bool
 Lf:Bool
 bT:bT
def aL(x:aD):List AVal:=[.sc (.int .i64 x.Leaves),.sc (.int .i64 x.cZ),.aC (x.Links.map dA),.aC (x.aG.map bp),.aC (x.aI.map eu),.aC (x.au.map bu),.aC (x.bh.map gb),.aC (x.dn.map dX),.sc (.int .i64 x.vm),.sc (.int .i64 x.oI),.sc (.int .i64 x.qY),.sc (.bool x.DB),.sc (.bool x.Lf),.sc (.int .i64 x.bT.pF),.sc (.int .i64 x.bT.y9),.sc (.int .i64 x.bT.BK),.sc (.int .i64 x.bT.oH),.sc (.int .i64 x.bT.vl),.sc (.int .i64 x.bT.Window)]
structure Known where
 BD:Int
 IP:Int
 bN:Int
def gd(x:Known):List AVal:=[.sc (.int .i64 x.BD),.sc (.int .u32 x.IP),.sc (.int .u64 x.bN)]
structure Rg where
 Op:Int
 Rh:Int
 Rs:Int
 Ri:Int
 Rt:Int
structure Head where
 Src:Int
 RH:Int
 Sd:Int
 Sc:Int
 RB:Int
 RE:Int
structure Frame where
 Src:Int
 RH:Int
 Kind:Int
 Rg:Rg
 IP:Head
 Data:Int
structure jh where
 BD:Int
 aH:Int
 bN:Int
 IP:Int
 qm:Bool
 Time:Int
def lX(x:jh):List AVal:=[.sc (.int .i64 x.BD),.sc (.int .i64 x.aH),.sc (.int .u64 x.bN),.sc (.int .u32 x.IP),.sc (.bool x.qm),.sc (.int .i64 x.Time)]
structure ax where
 l:(List Int)
 at_:Int
def qn(x:ax):List AVal:=[.aC (x.l.map (eI .i64)),.sc (.int .i64 x.at_)]
structure aq where
 bd:Int
 ip:Int
def cq(x:aq):List AVal:=[.sc (.int .i64 x.bd),.sc (.int .u32 x.ip)]
structure ak where
 qx:Int
 cG:Bool
 time:Int
 seq:Int
 eC:Bool
 next:Int
def cT(x:ak):List AVal:=[.sc (.int .u64 x.qx),.sc (.bool x.cG),.sc (.int .i64 x.time),.sc (.int .u32 x.seq),.sc (.bool x.eC),.sc (.int .u32 x.next)]
structure bB where
 f:aD
def gR(x:bB):List AVal:=[.sc (.int .i64 x.f.Leaves),.sc (.int .i64 x.f.cZ),.aC (x.f.Links.map dA),.aC (x.f.aG.map bp),.aC (x.f.aI.map eu),.aC (x.f.au.map bu),.aC (x.f.bh.map gb),.aC (x.f.dn.map dX),.sc (.int .i64 x.f.vm),.sc (.int .i64 x.f.oI),.sc (.int .i64 x.f.qY),.sc (.bool x.f.DB),.sc (.bool x.f.Lf),.sc (.int .i64 x.f.bT.pF),.sc (.int .i64 x.f.bT.y9),.sc (.int .i64 x.f.bT.BK),.sc (.int .i64 x.f.bT.oH),.sc (.int .i64 x.f.bT.vl),.sc (.int .i64 x.f.bT.Window)]
structure aY where
 bd:Int
 addr:Int
def rF(x:aY):List AVal:=[.sc (.int .i64 x.bd),.sc (.int .u64 x.addr)]
end Go.L
end
section
namespace Go.L
open Go.AM
end Go.L
end
