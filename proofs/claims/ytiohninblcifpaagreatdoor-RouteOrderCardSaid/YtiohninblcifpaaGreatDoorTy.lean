/- The plain data of the program. No package variable is looked at. -/
import Derived.Test.YtiohninblcifpaaGreatDoorAc
namespace Go.L
open Go.AM
def RB(i:Nat):Option (List AVal):=match i with
 | 0=>some [.sc (.int .i64 1),.sc (.int .u8 0),.sc (.int .u8 2),.sc (.int .i64 2),.sc (.int .u8 3),.sc (.int .u8 12),.sc (.int .i64 3),.sc (.int .u8 6),.sc (.int .u8 0),.sc (.int .i64 4),.sc (.int .u8 6),.sc (.int .u8 1),.sc (.int .i64 5),.sc (.int .u8 6),.sc (.int .u8 2),.sc (.int .i64 6),.sc (.int .u8 6),.sc (.int .u8 3),.sc (.int .i64 7),.sc (.int .u8 6),.sc (.int .u8 6)]
 |_=>none
instance di:aD:=⟨{cells:=RB,lazy:=true}⟩
abbrev si(x:Int):AVal:=.sc (.int .i64 x)
abbrev su(x:Int):AVal:=.sc (.int .u32 x)
abbrev sq(x:Int):AVal:=.sc (.int .u64 x)
abbrev s8(x:Int):AVal:=.sc (.int .u8 x)
abbrev sn:AVal:=.sc (.slice none 0 0)
abbrev sb(x:Bool):AVal:=.sc (.bool x)
structure ah where
 IP:Int
 Len:Int
def nD(x:ah):List AVal:=[.sc (.int .u32 x.IP),.sc (.int .i64 x.Len)]
structure eE where
 Kind:Int
 RD:Int
 aA:(cA Int)
 Tag:Int
 bO:Int
 IP:Int
 dG:Bool
 ah:ah
 aS:Int
 Label:Int
 ee:Int
def xg(x:eE):List AVal:=[.sc (.int .i64 x.Kind),.sc (.int .u64 x.RD),.sc (.int .u8 x.aA.a0),.sc (.int .u8 x.aA.a1),.sc (.int .u8 x.aA.a2),.sc (.int .u8 x.aA.a3),.sc (.int .u8 x.aA.a4),.sc (.int .u8 x.aA.a5),.sc (.int .u8 x.aA.a6),.sc (.int .u8 x.aA.a7),.sc (.int .u8 x.aA.a8),.sc (.int .u8 x.aA.a9),.sc (.int .u32 x.Tag),.sc (.int .u64 x.bO),.sc (.int .u32 x.IP),.sc (.bool x.dG),.sc (.int .u32 x.ah.IP),.sc (.int .i64 x.ah.Len),.sc (.int .u32 x.aS),.sc (.int .u32 x.Label),.sc (.int .u32 x.ee)]
structure nK where
 Kind:Int
 Label:Int
 Jz:Int
 FM:Int
def QK(x:nK):List AVal:=[.sc (.int .i64 x.Kind),.sc (.int .u32 x.Label),.sc (.int .u32 x.Jz),.sc (.int .u32 x.FM)]
structure xh where
 Origin:Int
 Path:(List Int)
 Next:Int
 FN:Bool
 NQ:Int
 DO:Bool
 JA:Int
 uq:Bool
 vt:Int
 nL:(List Int)
 dy:(List (V8 Int))
 nK:nK
def JB(x:xh):List AVal:=[.sc (.int .i64 x.Origin),.av (x.Path.map (eI .u32)),.sc (.int .u32 x.Next),.sc (.bool x.FN),.sc (.int .u32 x.NQ),.sc (.bool x.DO),.sc (.int .u32 x.JA),.sc (.bool x.uq),.sc (.int .u32 x.vt),.av (x.nL.map (eI .u32)),.av (x.dy.map (rC (cI .u8))),.sc (.int .i64 x.nK.Kind),.sc (.int .u32 x.nK.Label),.sc (.int .u32 x.nK.Jz),.sc (.int .u32 x.nK.FM)]
structure aK where
 N:eE
 A:xh
 Mi:Int
 Mj:Bool
def aL(x:aK):List AVal:=[.sc (.int .i64 x.N.Kind),.sc (.int .u64 x.N.RD),.sc (.int .u8 x.N.aA.a0),.sc (.int .u8 x.N.aA.a1),.sc (.int .u8 x.N.aA.a2),.sc (.int .u8 x.N.aA.a3),.sc (.int .u8 x.N.aA.a4),.sc (.int .u8 x.N.aA.a5),.sc (.int .u8 x.N.aA.a6),.sc (.int .u8 x.N.aA.a7),.sc (.int .u8 x.N.aA.a8),.sc (.int .u8 x.N.aA.a9),.sc (.int .u32 x.N.Tag),.sc (.int .u64 x.N.bO),.sc (.int .u32 x.N.IP),.sc (.bool x.N.dG),.sc (.int .u32 x.N.ah.IP),.sc (.int .i64 x.N.ah.Len),.sc (.int .u32 x.N.aS),.sc (.int .u32 x.N.Label),.sc (.int .u32 x.N.ee),.sc (.int .i64 x.A.Origin),.av (x.A.Path.map (eI .u32)),.sc (.int .u32 x.A.Next),.sc (.bool x.A.FN),.sc (.int .u32 x.A.NQ),.sc (.bool x.A.DO),.sc (.int .u32 x.A.JA),.sc (.bool x.A.uq),.sc (.int .u32 x.A.vt),.av (x.A.nL.map (eI .u32)),.av (x.A.dy.map (rC (cI .u8))),.sc (.int .i64 x.A.nK.Kind),.sc (.int .u32 x.A.nK.Label),.sc (.int .u32 x.A.nK.Jz),.sc (.int .u32 x.A.nK.FM),.sc (.int .u32 x.Mi),.sc (.bool x.Mj)]
structure aF where
 au:Int
 ah:ah
 BD:Int
 Next:Int
 dM:Int
 bO:Int
 dP:Int
def dz(x:aF):List AVal:=[.sc (.int .i64 x.au),.sc (.int .u32 x.ah.IP),.sc (.int .i64 x.ah.Len),.sc (.int .i64 x.BD),.sc (.int .u32 x.Next),.sc (.int .u32 x.dM),.sc (.int .u64 x.bO),.sc (.int .u64 x.dP)]
structure cV where
 A:Int
 B:Int
 CV:Int
def eo(x:cV):List AVal:=[.sc (.int .i64 x.A),.sc (.int .i64 x.B),.sc (.int .i64 x.CV)]
structure au where
 dM:Int
 Target:Int
def bx(x:au):List AVal:=[.sc (.int .u32 x.dM),.sc (.int .u32 x.Target)]
structure BD where
 au:Int
 dM:Int
 Target:Int
 bt:ah
 aS:Int
def eY(x:BD):List AVal:=[.sc (.int .i64 x.au),.sc (.int .u32 x.dM),.sc (.int .u32 x.Target),.sc (.int .u32 x.bt.IP),.sc (.int .i64 x.bt.Len),.sc (.int .u32 x.aS)]
structure bq where
 Leaves:(List Int)
 aR:(List Int)
def bS(x:bq):List AVal:=[.av (x.Leaves.map (eI .i64)),.av (x.aR.map (eI .i64))]
structure Host where
 bO:Int
 IP:Int
 BD:Int
 bq:Int
def fm(x:Host):List AVal:=[.sc (.int .u64 x.bO),.sc (.int .u32 x.IP),.sc (.int .i64 x.BD),.sc (.int .i64 x.bq)]
structure bP where
 From:Int
 To:Int
 ah:ah
def cc(x:bP):List AVal:=[.sc (.int .i64 x.From),.sc (.int .i64 x.To),.sc (.int .u32 x.ah.IP),.sc (.int .i64 x.ah.Len)]
structure cw where
 tZ:Int
 BS:Int
 Er:Int
 sZ:Int
 yy:Int
 Window:Int
structure aG where
 Leaves:Int
 ij:Int
 Links:(List cV)
 bf:(List au)
 aR:(List BD)
 aH:(List bq)
 Hosts:(List Host)
 Leaks:(List bP)
 xk:Int
 qZ:Int
 dP:Int
 zc:Bool
 FO:Bool
 cw:cw
def bu(x:aG):List AVal:=[.sc (.int .i64 x.Leaves),.sc (.int .i64 x.ij),.av (x.Links.map eo),.av (x.bf.map bx),.av (x.aR.map eY),.av (x.aH.map bS),.av (x.Hosts.map fm),.av (x.Leaks.map cc),.sc (.int .i64 x.xk),.sc (.int .i64 x.qZ),.sc (.int .i64 x.dP),.sc (.bool x.zc),.sc (.bool x.FO),.sc (.int .i64 x.cw.tZ),.sc (.int .i64 x.cw.BS),.sc (.int .i64 x.cw.Er),.sc (.int .i64 x.cw.sZ),.sc (.int .i64 x.cw.yy),.sc (.int .i64 x.cw.Window)]
structure SM where
 Op:Int
 SN:Int
 SX:Int
 SO:Int
 SY:Int
structure Head where
 Src:Int
 Tf:Int
 TO:Int
 TN:Int
 Tb:Int
 Tc:Int
structure Frame where
 Src:Int
 Tf:Int
 Kind:Int
 SM:SM
 IP:Head
 Data:Int
structure ay where
 l:(List Int)
 at_:Int
def s5(x:ay):List AVal:=[.av (x.l.map (eI .i64)),.sc (.int .i64 x.at_)]
structure bM where
 f:aG
def je(x:bM):List AVal:=[.sc (.int .i64 x.f.Leaves),.sc (.int .i64 x.f.ij),.av (x.f.Links.map eo),.av (x.f.bf.map bx),.av (x.f.aR.map eY),.av (x.f.aH.map bS),.av (x.f.Hosts.map fm),.av (x.f.Leaks.map cc),.sc (.int .i64 x.f.xk),.sc (.int .i64 x.f.qZ),.sc (.int .i64 x.f.dP),.sc (.bool x.f.zc),.sc (.bool x.f.FO),.sc (.int .i64 x.f.cw.tZ),.sc (.int .i64 x.f.cw.BS),.sc (.int .i64 x.f.cw.Er),.sc (.int .i64 x.f.cw.sZ),.sc (.int .i64 x.f.cw.yy),.sc (.int .i64 x.f.cw.Window)]
structure aa where
 tenant:Int
 prefix_:ah
def ze(x:aa):List AVal:=[.sc (.int .i64 x.tenant),.sc (.int .u32 x.prefix_.IP),.sc (.int .i64 x.prefix_.Len)]
structure cT where
 level:Int
 zf:Int
 seq:Int
 bare:Int
 next:Int
 n:eE
def Es(x:cT):List AVal:=[.sc (.int .i64 x.level),.sc (.int .i64 x.zf),.sc (.int .u32 x.seq),.sc (.int .i64 x.bare),.sc (.int .u32 x.next),.sc (.int .i64 x.n.Kind),.sc (.int .u64 x.n.RD),.sc (.int .u8 x.n.aA.a0),.sc (.int .u8 x.n.aA.a1),.sc (.int .u8 x.n.aA.a2),.sc (.int .u8 x.n.aA.a3),.sc (.int .u8 x.n.aA.a4),.sc (.int .u8 x.n.aA.a5),.sc (.int .u8 x.n.aA.a6),.sc (.int .u8 x.n.aA.a7),.sc (.int .u8 x.n.aA.a8),.sc (.int .u8 x.n.aA.a9),.sc (.int .u32 x.n.Tag),.sc (.int .u64 x.n.bO),.sc (.int .u32 x.n.IP),.sc (.bool x.n.dG),.sc (.int .u32 x.n.ah.IP),.sc (.int .i64 x.n.ah.Len),.sc (.int .u32 x.n.aS),.sc (.int .u32 x.n.Label),.sc (.int .u32 x.n.ee)]
structure ai where
 aF:aF
 bX:cT
def ur(x:ai):List AVal:=[.sc (.int .i64 x.aF.au),.sc (.int .u32 x.aF.ah.IP),.sc (.int .i64 x.aF.ah.Len),.sc (.int .i64 x.aF.BD),.sc (.int .u32 x.aF.Next),.sc (.int .u32 x.aF.dM),.sc (.int .u64 x.aF.bO),.sc (.int .u64 x.aF.dP),.sc (.int .i64 x.bX.level),.sc (.int .i64 x.bX.zf),.sc (.int .u32 x.bX.seq),.sc (.int .i64 x.bX.bare),.sc (.int .u32 x.bX.next),.sc (.int .i64 x.bX.n.Kind),.sc (.int .u64 x.bX.n.RD),.sc (.int .u8 x.bX.n.aA.a0),.sc (.int .u8 x.bX.n.aA.a1),.sc (.int .u8 x.bX.n.aA.a2),.sc (.int .u8 x.bX.n.aA.a3),.sc (.int .u8 x.bX.n.aA.a4),.sc (.int .u8 x.bX.n.aA.a5),.sc (.int .u8 x.bX.n.aA.a6),.sc (.int .u8 x.bX.n.aA.a7),.sc (.int .u8 x.bX.n.aA.a8),.sc (.int .u8 x.bX.n.aA.a9),.sc (.int .u32 x.bX.n.Tag),.sc (.int .u64 x.bX.n.bO),.sc (.int .u32 x.bX.n.IP),.sc (.bool x.bX.n.dG),.sc (.int .u32 x.bX.n.ah.IP),.sc (.int .i64 x.bX.n.ah.Len),.sc (.int .u32 x.bX.n.aS),.sc (.int .u32 x.bX.n.Label),.sc (.int .u32 x.bX.n.ee)]
structure aN where
 bd:Int
 addr:Int
def fN(x:aN):List AVal:=[.sc (.int .i64 x.bd),.sc (.int .u64 x.addr)]
end Go.L
