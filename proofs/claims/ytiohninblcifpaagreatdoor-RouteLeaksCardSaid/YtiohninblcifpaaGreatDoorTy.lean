/- The plain data of the program. No package variable is looked at. -/
import Derived.Test.YtiohninblcifpaaGreatDoorAc
namespace Go.L
open Go.AM
def Ql(i:Nat):Option (List AVal):=match i with
 | 0=>some [.sc (.int .i64 1),.sc (.int .u8 0),.sc (.int .u8 2),.sc (.int .i64 2),.sc (.int .u8 3),.sc (.int .u8 12),.sc (.int .i64 3),.sc (.int .u8 6),.sc (.int .u8 0),.sc (.int .i64 4),.sc (.int .u8 6),.sc (.int .u8 1),.sc (.int .i64 5),.sc (.int .u8 6),.sc (.int .u8 2),.sc (.int .i64 6),.sc (.int .u8 6),.sc (.int .u8 3),.sc (.int .i64 7),.sc (.int .u8 6),.sc (.int .u8 6)]
 |_=>none
instance dr:aD:=⟨{cells:=Ql,lazy:=true}⟩
abbrev si(x:Int):AVal:=.sc (.int .i64 x)
abbrev su(x:Int):AVal:=.sc (.int .u32 x)
abbrev sq(x:Int):AVal:=.sc (.int .u64 x)
abbrev s8(x:Int):AVal:=.sc (.int .u8 x)
abbrev sb(x:Bool):AVal:=.sc (.bool x)
structure af where
 IP:Int
 Len:Int
def k9(x:af):List AVal:=[.sc (.int .u32 x.IP),.sc (.int .i64 x.Len)]
structure iW where
 Kind:Int
 RD:Int
 aC:(dn Int)
 Tag:Int
 bV:Int
 IP:Int
 eX:Bool
 af:af
 bk:Int
 Label:Int
 ee:Int
def EL(x:iW):List AVal:=[.sc (.int .i64 x.Kind),.sc (.int .u64 x.RD),.sc (.int .u8 x.aC.a0),.sc (.int .u8 x.aC.a1),.sc (.int .u8 x.aC.a2),.sc (.int .u8 x.aC.a3),.sc (.int .u8 x.aC.a4),.sc (.int .u8 x.aC.a5),.sc (.int .u8 x.aC.a6),.sc (.int .u8 x.aC.a7),.sc (.int .u8 x.aC.a8),.sc (.int .u8 x.aC.a9),.sc (.int .u32 x.Tag),.sc (.int .u64 x.bV),.sc (.int .u32 x.IP),.sc (.bool x.eX),.sc (.int .u32 x.af.IP),.sc (.int .i64 x.af.Len),.sc (.int .u32 x.bk),.sc (.int .u32 x.Label),.sc (.int .u32 x.ee)]
structure og where
 Kind:Int
 Label:Int
 Iu:Int
 EM:Int
def Pw(x:og):List AVal:=[.sc (.int .i64 x.Kind),.sc (.int .u32 x.Label),.sc (.int .u32 x.Iu),.sc (.int .u32 x.EM)]
structure Li where
 Origin:Int
 Path:(List Int)
 Next:Int
 Iv:Bool
 O3:Int
 FD:Bool
 Lj:Int
 wY:Bool
 xI:Int
 qh:(List Int)
 dW:(List (V8 Int))
 og:og
def Qm(x:Li):List AVal:=[.sc (.int .i64 x.Origin),.ax (x.Path.map (eI .u32)),.sc (.int .u32 x.Next),.sc (.bool x.Iv),.sc (.int .u32 x.O3),.sc (.bool x.FD),.sc (.int .u32 x.Lj),.sc (.bool x.wY),.sc (.int .u32 x.xI),.ax (x.qh.map (eI .u32)),.ax (x.dW.map (um (cI .u8))),.sc (.int .i64 x.og.Kind),.sc (.int .u32 x.og.Label),.sc (.int .u32 x.og.Iu),.sc (.int .u32 x.og.EM)]
structure cz where
 N:iW
 A:Li
 N5:Int
 O4:Bool
def cN(x:cz):List AVal:=[.sc (.int .i64 x.N.Kind),.sc (.int .u64 x.N.RD),.sc (.int .u8 x.N.aC.a0),.sc (.int .u8 x.N.aC.a1),.sc (.int .u8 x.N.aC.a2),.sc (.int .u8 x.N.aC.a3),.sc (.int .u8 x.N.aC.a4),.sc (.int .u8 x.N.aC.a5),.sc (.int .u8 x.N.aC.a6),.sc (.int .u8 x.N.aC.a7),.sc (.int .u8 x.N.aC.a8),.sc (.int .u8 x.N.aC.a9),.sc (.int .u32 x.N.Tag),.sc (.int .u64 x.N.bV),.sc (.int .u32 x.N.IP),.sc (.bool x.N.eX),.sc (.int .u32 x.N.af.IP),.sc (.int .i64 x.N.af.Len),.sc (.int .u32 x.N.bk),.sc (.int .u32 x.N.Label),.sc (.int .u32 x.N.ee),.sc (.int .i64 x.A.Origin),.ax (x.A.Path.map (eI .u32)),.sc (.int .u32 x.A.Next),.sc (.bool x.A.Iv),.sc (.int .u32 x.A.O3),.sc (.bool x.A.FD),.sc (.int .u32 x.A.Lj),.sc (.bool x.A.wY),.sc (.int .u32 x.A.xI),.ax (x.A.qh.map (eI .u32)),.ax (x.A.dW.map (um (cI .u8))),.sc (.int .i64 x.A.og.Kind),.sc (.int .u32 x.A.og.Label),.sc (.int .u32 x.A.og.Iu),.sc (.int .u32 x.A.og.EM),.sc (.int .u32 x.N5),.sc (.bool x.O4)]
structure aB where
 av:Int
 af:af
 BD:Int
 Next:Int
 dz:Int
 bV:Int
 cF:Int
def bB(x:aB):List AVal:=[.sc (.int .i64 x.av),.sc (.int .u32 x.af.IP),.sc (.int .i64 x.af.Len),.sc (.int .i64 x.BD),.sc (.int .u32 x.Next),.sc (.int .u32 x.dz),.sc (.int .u64 x.bV),.sc (.int .u64 x.cF)]
structure cT where
 A:Int
 B:Int
 B7:Int
def dP(x:cT):List AVal:=[.sc (.int .i64 x.A),.sc (.int .i64 x.B),.sc (.int .i64 x.B7)]
structure av where
 dz:Int
 Target:Int
def bp(x:av):List AVal:=[.sc (.int .u32 x.dz),.sc (.int .u32 x.Target)]
structure BD where
 av:Int
 dz:Int
 Target:Int
 bq:af
 bk:Int
def eH(x:BD):List AVal:=[.sc (.int .i64 x.av),.sc (.int .u32 x.dz),.sc (.int .u32 x.Target),.sc (.int .u32 x.bq.IP),.sc (.int .i64 x.bq.Len),.sc (.int .u32 x.bk)]
structure bh where
 Leaves:(List Int)
 aO:(List Int)
def bJ(x:bh):List AVal:=[.ax (x.Leaves.map (eI .i64)),.ax (x.aO.map (eI .i64))]
structure Host where
 bV:Int
 IP:Int
 BD:Int
 bh:Int
def eF(x:Host):List AVal:=[.sc (.int .u64 x.bV),.sc (.int .u32 x.IP),.sc (.int .i64 x.BD),.sc (.int .i64 x.bh)]
structure bK where
 From:Int
 To:Int
 af:af
def bL(x:bK):List AVal:=[.sc (.int .i64 x.From),.sc (.int .i64 x.To),.sc (.int .u32 x.af.IP),.sc (.int .i64 x.af.Len)]
structure bw where
 pz:Int
 wZ:Int
 Ak:Int
 nQ:Int
 tO:Int
 Window:Int
structure aG where
 Leaves:Int
 fD:Int
 Links:(List cT)
 aT:(List av)
 aO:(List BD)
 aH:(List bh)
 Hosts:(List Host)
 Leaks:(List bK)
 qW:Int
 mj:Int
 cF:Int
 qi:Bool
 xJ:Bool
 bw:bw
def aI(x:aG):List AVal:=[.sc (.int .i64 x.Leaves),.sc (.int .i64 x.fD),.ax (x.Links.map dP),.ax (x.aT.map bp),.ax (x.aO.map eH),.ax (x.aH.map bJ),.ax (x.Hosts.map eF),.ax (x.Leaks.map bL),.sc (.int .i64 x.qW),.sc (.int .i64 x.mj),.sc (.int .i64 x.cF),.sc (.bool x.qi),.sc (.bool x.xJ),.sc (.int .i64 x.bw.pz),.sc (.int .i64 x.bw.wZ),.sc (.int .i64 x.bw.Ak),.sc (.int .i64 x.bw.nQ),.sc (.int .i64 x.bw.tO),.sc (.int .i64 x.bw.Window)]
structure Rp where
 Op:Int
 Rq:Int
 Ry:Int
 Rr:Int
 Rz:Int
structure Head where
 Src:Int
 RP:Int
 Sr:Int
 Sn:Int
 RK:Int
 RM:Int
structure Frame where
 Src:Int
 RP:Int
 Kind:Int
 Rp:Rp
 IP:Head
 Data:Int
structure az where
 l:(List Int)
 at_:Int
def sG(x:az):List AVal:=[.ax (x.l.map (eI .i64)),.sc (.int .i64 x.at_)]
structure bQ where
 f:aG
def jd(x:bQ):List AVal:=[.sc (.int .i64 x.f.Leaves),.sc (.int .i64 x.f.fD),.ax (x.f.Links.map dP),.ax (x.f.aT.map bp),.ax (x.f.aO.map eH),.ax (x.f.aH.map bJ),.ax (x.f.Hosts.map eF),.ax (x.f.Leaks.map bL),.sc (.int .i64 x.f.qW),.sc (.int .i64 x.f.mj),.sc (.int .i64 x.f.cF),.sc (.bool x.f.qi),.sc (.bool x.f.xJ),.sc (.int .i64 x.f.bw.pz),.sc (.int .i64 x.f.bw.wZ),.sc (.int .i64 x.f.bw.Ak),.sc (.int .i64 x.f.bw.nQ),.sc (.int .i64 x.f.bw.tO),.sc (.int .i64 x.f.bw.Window)]
structure aa where
 tenant:Int
 prefix_:af
def yz(x:aa):List AVal:=[.sc (.int .i64 x.tenant),.sc (.int .u32 x.prefix_.IP),.sc (.int .i64 x.prefix_.Len)]
structure dM where
 level:Int
 yA:Int
 seq:Int
 bare:Int
 next:Int
 n:iW
def Dv(x:dM):List AVal:=[.sc (.int .i64 x.level),.sc (.int .i64 x.yA),.sc (.int .u32 x.seq),.sc (.int .i64 x.bare),.sc (.int .u32 x.next),.sc (.int .i64 x.n.Kind),.sc (.int .u64 x.n.RD),.sc (.int .u8 x.n.aC.a0),.sc (.int .u8 x.n.aC.a1),.sc (.int .u8 x.n.aC.a2),.sc (.int .u8 x.n.aC.a3),.sc (.int .u8 x.n.aC.a4),.sc (.int .u8 x.n.aC.a5),.sc (.int .u8 x.n.aC.a6),.sc (.int .u8 x.n.aC.a7),.sc (.int .u8 x.n.aC.a8),.sc (.int .u8 x.n.aC.a9),.sc (.int .u32 x.n.Tag),.sc (.int .u64 x.n.bV),.sc (.int .u32 x.n.IP),.sc (.bool x.n.eX),.sc (.int .u32 x.n.af.IP),.sc (.int .i64 x.n.af.Len),.sc (.int .u32 x.n.bk),.sc (.int .u32 x.n.Label),.sc (.int .u32 x.n.ee)]
structure aj where
 aB:aB
 jq:dM
def tP(x:aj):List AVal:=[.sc (.int .i64 x.aB.av),.sc (.int .u32 x.aB.af.IP),.sc (.int .i64 x.aB.af.Len),.sc (.int .i64 x.aB.BD),.sc (.int .u32 x.aB.Next),.sc (.int .u32 x.aB.dz),.sc (.int .u64 x.aB.bV),.sc (.int .u64 x.aB.cF),.sc (.int .i64 x.jq.level),.sc (.int .i64 x.jq.yA),.sc (.int .u32 x.jq.seq),.sc (.int .i64 x.jq.bare),.sc (.int .u32 x.jq.next),.sc (.int .i64 x.jq.n.Kind),.sc (.int .u64 x.jq.n.RD),.sc (.int .u8 x.jq.n.aC.a0),.sc (.int .u8 x.jq.n.aC.a1),.sc (.int .u8 x.jq.n.aC.a2),.sc (.int .u8 x.jq.n.aC.a3),.sc (.int .u8 x.jq.n.aC.a4),.sc (.int .u8 x.jq.n.aC.a5),.sc (.int .u8 x.jq.n.aC.a6),.sc (.int .u8 x.jq.n.aC.a7),.sc (.int .u8 x.jq.n.aC.a8),.sc (.int .u8 x.jq.n.aC.a9),.sc (.int .u32 x.jq.n.Tag),.sc (.int .u64 x.jq.n.bV),.sc (.int .u32 x.jq.n.IP),.sc (.bool x.jq.n.eX),.sc (.int .u32 x.jq.n.af.IP),.sc (.int .i64 x.jq.n.af.Len),.sc (.int .u32 x.jq.n.bk),.sc (.int .u32 x.jq.n.Label),.sc (.int .u32 x.jq.n.ee)]
structure aM where
 bd:Int
 addr:Int
def fN(x:aM):List AVal:=[.sc (.int .i64 x.bd),.sc (.int .u64 x.addr)]
end Go.L
