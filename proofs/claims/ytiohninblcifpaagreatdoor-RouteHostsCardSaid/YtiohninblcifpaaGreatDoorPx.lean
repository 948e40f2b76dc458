/- Parts put together. No conditions. -/
import Derived.Test.YtiohninblcifpaaGreatDoorWt
import Derived.Test.YtiohninblcifpaaGreatDoorAd
import Derived.Test.YtiohninblcifpaaGreatDoorPa
set_option linter.unusedSimpArgs false
set_option linter.unusedVariables false
set_option maxRecDepth 100000
section
namespace Go.L
open Go.AM
def DH(c:V8 Int):Int:=
 if c.a0=0∧c.a1=2 then 1 else if c.a0=3∧c.a1=12 then 2 else if c.a0=6∧c.a1=0 then 3 else if c.a0=6∧c.a1=1 then 4 else if c.a0=6∧c.a1=2 then 5 else if c.a0=6∧c.a1=3 then 6 else if c.a0=6∧c.a1=6 then 7 else 0
theorem O5(n:Nat)(c:V8 Int):tN.S n c=some (DH c):=by
 show(tM c).run n=_;simp only[tM,G.run,aN,if_true,DH,Bool.and_true,Bool.and_eq_true,beq_iff_eq];have e:∀(a b:Int),(a=b)=(b=a):=fun a b=>propext eq_comm
 simp only[e 0,e 1,e 2,e 3,e 6,e 12]
 repeat' split
 all_goals rfl
def xC(a x:Int):Int:=IntKind.wrap .u64 (((@BitVec.toNat (IntKind.bits .u64) ((BitVec.ofInt (IntKind.bits .u64) (IntKind.wrap .u64 (a*((2:Int) ^ (@Min.min Nat instMinNat (Int.toNat (8:Int)) (IntKind.bits .u64))))))||| (BitVec.ofInt (IntKind.bits .u64) (IntKind.wrap .u64 x)))):Nat):Int)
end Go.L
end
section
namespace Go.L
open Go.AM
def R9(x:V8 Int):Prop:=(0≤x.a0∧x.a0<256)∧(0≤x.a1∧x.a1<256)∧(0≤x.a2∧x.a2<256)∧(0≤x.a3∧x.a3<256)∧(0≤x.a4∧x.a4<256)∧(0≤x.a5∧x.a5<256)∧(0≤x.a6∧x.a6<256)∧(0≤x.a7∧x.a7<256)
theorem A8{a x:Int}(h0:0≤a)(h1:a<72057594037927936)(g0:0≤x)(g1:x<256):xC a x=a*256+x:=by
 obtain⟨p,rfl⟩:=Int.eq_ofNat_of_zero_le h0;obtain⟨q,rfl⟩:=Int.eq_ofNat_of_zero_le g0;have e1:IntKind.wrap .u64 ((p:Int)*((2:Int) ^ (@Min.min Nat instMinNat (Int.toNat (8:Int)) (IntKind.bits .u64))))=((2 ^ 8*p:Nat):Int):=by
  simp[IntKind.wrap,IntKind.bits,IntKind.signed];omega
 have e2:IntKind.wrap .u64 (q:Int)=(q:Int):=by
  simp[IntKind.wrap,IntKind.bits,IntKind.signed];omega
 unfold xC;rw[e1,e2];have hor:2 ^ 8*p|||q=2 ^ 8*p+q:=(Nat.two_pow_add_eq_or_of_lt (i:=8) (by omega) p).symm
 have e3:((BitVec.ofInt (IntKind.bits .u64) ((2 ^ 8*p:Nat):Int))||| (BitVec.ofInt (IntKind.bits .u64) (q:Int))).toNat=2 ^ 8*p+q:=by
  rw[BitVec.toNat_or,BitVec.ofInt_natCast,BitVec.ofInt_natCast,BitVec.toNat_ofNat,BitVec.toNat_ofNat,Nat.mod_eq_of_lt,Nat.mod_eq_of_lt,hor]
  ·simp only[IntKind.bits];omega
  ·simp only[IntKind.bits];omega
 rw[e3];simp[IntKind.wrap,IntKind.bits,IntKind.signed];omega
theorem st2{a b:Int}(ha:0≤a∧a<256)(hb:0≤b∧b<256):xC (xC 0 a) b=a*256+b:=by
 rw[A8 (a:=0) (by omega) (by omega) ha.1 ha.2,A8 (by omega) (by omega) hb.1 hb.2];omega
theorem SF{a b c:Int}(ha:0≤a∧a<256)(hb:0≤b∧b<256)(hc:0≤c∧c<256):xC (xC (xC 0 a) b) c=(a*256+b)*256+c:=by
 rw[st2 ha hb,A8 (by omega) (by omega) hc.1 hc.2]
theorem SG{a b c d:Int}(ha:0≤a∧a<256)(hb:0≤b∧b<256)(hc:0≤c∧c<256)(hd:0≤d∧d<256):xC (xC (xC (xC 0 a) b) c) d=((a*256+b)*256+c)*256+d:=by
 rw[SF ha hb hc,A8 (by omega) (by omega) hd.1 hd.2]
def O6(c:V8 Int):Int:=((((c.a2*256+c.a3)*256+c.a4)*256+c.a5)*256+c.a6)*256+c.a7
def Gx(c:V8 Int):Int:=xC (xC (xC (xC (xC (xC 0 c.a2) c.a3) c.a4) c.a5) c.a6) c.a7
theorem SH{c:V8 Int}(h:R9 c):Gx c=O6 c:=by
 obtain⟨h0,h1,h2,h3,h4,h5,h6,h7⟩:=h;unfold Gx;rw[SG h2 h3 h4 h5,A8 (by omega) (by omega) h6.1 h6.2,A8 (by omega) (by omega) h7.1 h7.2]
 unfold O6;omega
def A9(l:List (V8 Int))(K:Int):Option (V8 Int):=l.find? fun c=>DH c==K
theorem O7(n:Nat)(c:V8 Int):Aw.S n c=some (Gx c):=by
 show(tO c).run n=_;simp only[tO,G.run,aN,if_true];rfl
def Em(l:List (V8 Int)):Int×Bool:=match A9 l 6 with |some c=>(Gx c,true) |none=>((0:Int),false)
theorem Sm(n:Nat)(l:List (V8 Int))(hl:l.length<100000)(hn:l.length<n):At (dY.S n l) (fun(r:Int×Bool)=>r=Em l):=by
 refine(?_ :cD n (nU l) _);unfold nU;refine .skip (.inl (.skip (.op () rfl (.skip (.loop (fun a:Int=>dW l (fun pre (_:Unit)=>A9 pre 6=none) (a,())) (fun a=>l.length - a.toNat) (Sum.elim (fun(t:Int)=>Em l=(t,true)) fun _=>Em l=(0,false)) rfl (dW.start rfl) (by simpa using hn) (fun a ha=>?_) (fun t ht=>?_))))))
 ·refine .skip (.br (fun h=>?_) fun h=>.skip (.done rfl ?_))
  ·obtain⟨x,pre,h1,h2,h3,⟨_,post,hp⟩,h5⟩:=ha.get h;refine .skip (.op x h1 (.skip (.call (fun(k:Int)=>k=DH x) ⟨_,O5 n x,rfl⟩ fun(k:Int) hk=>.skip (.br (fun g=>?_) fun g=>.skip (.done rfl (h5 hl () ?_))))))
   ·refine .skip (.call (fun(r:Int)=>r=Gx x) ⟨_,O7 n x,rfl⟩ fun(r:Int) hr=>.skip (.done rfl ?_))
    simp only[beq_iff_eq]at g;have:A9 l 6=some x:=by
     unfold A9 at*;rw[hp,List.find?_append,h3];simp[← hk,g]
    show Em l=(r,true);unfold Em;rw[this,hr]
   ·rw[beq_eq_false_iff_ne]at g;unfold A9 at*;rw[List.find?_append,h3];simp[← hk,g]
  ·have:=ha.fin h;show Em l=(0,false);unfold Em;rw[this]
 ·cases t with
  |inl t=>exact .tidy rfl (.inl (.skip (.done rfl (Eq.symm ht))))
  |inr t=>exact .skip (.tidy rfl (.inl (.skip (.done rfl (Eq.symm ht)))))
end Go.L
end
