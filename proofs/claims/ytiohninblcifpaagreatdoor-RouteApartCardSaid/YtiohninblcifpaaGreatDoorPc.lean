/- Parts put together. No conditions. -/
import Derived.Test.YtiohninblcifpaaGreatDoorPv
import Derived.Test.YtiohninblcifpaaGreatDoorWx
import Derived.Test.YtiohninblcifpaaGreatDoorWLr0
set_option linter.unusedSimpArgs false
set_option linter.unusedVariables false
set_option maxRecDepth 100000
section
namespace Go.L
open Go.AM
theorem wrap_u32(x:Int):IntKind.wrap .u32 x=x % 4294967296:=by
 simp[IntKind.wrap,IntKind.bits,IntKind.signed]
theorem Ey(x:BitVec 32):IntKind.wrap .u32 (x.toNat:Int)=(x.toNat:Int):=by
 rw[wrap_u32];have:=x.isLt;omega
theorem E3(x:BitVec 32):BitVec.ofInt 32 (x.toNat:Int)=x:=by
 apply BitVec.eq_of_toNat_eq;rw[BitVec.toNat_ofInt];have:=x.isLt;omega
theorem DX(a b m:BitVec 32):(a ^^^ b)&&& m=0↔a&&& m=b&&& m:=by
 constructor
 ·intro h;apply BitVec.eq_of_getElem_eq;intro i hi;have:=congrArg (fun v:BitVec 32=>v[i]) h
  simp only[BitVec.getElem_and,BitVec.getElem_xor,BitVec.getElem_zero]at this ⊢
  revert this;cases a[i]<;>cases b[i]<;>cases m[i]<;>simp
 ·intro h;apply BitVec.eq_of_getElem_eq;intro i hi;have:=congrArg (fun v:BitVec 32=>v[i]) h
  simp only[BitVec.getElem_and,BitVec.getElem_xor,BitVec.getElem_zero]at this ⊢
  revert this;cases a[i]<;>cases b[i]<;>cases m[i]<;>simp
theorem Rb(a b m:Int):(zZ (Q4 a b) m==0)=(zZ a m==zZ b m):=by
 unfold zZ Q4;simp only[Ey,E3];rw[Bool.eq_iff_iff];simp only[beq_iff_eq];constructor
 ·intro h;have h2:((BitVec.ofInt 32 a ^^^ BitVec.ofInt 32 b)&&& BitVec.ofInt 32 m)=0:=by
   apply BitVec.eq_of_toNat_eq;simpa using h
  rw[(DX _ _ _).1 h2]
 ·intro h;have h2:(BitVec.ofInt 32 a&&& BitVec.ofInt 32 m)=(BitVec.ofInt 32 b&&& BitVec.ofInt 32 m):=by
   apply BitVec.eq_of_toNat_eq;omega
  rw[(DX _ _ _).2 h2];rfl
section
variable {β:Type} (n:Nat)
theorem IA(p:ah)(k:qt.sh.El→Option β):(qt.S n p).bind k=k (gB p):=by
 have:qt.S n p=some (gB p):=by
  show(ym p).run n=_;simp only[ym,G.run,aO,gB,ge_iff_le];by_cases h:0≤p.Len<;>simp[h]<;>rfl
 rw[this];rfl
theorem KW(x:Int)(h0:0≤x)(h1:x≤32)(k:o7.sh.El→Option β):(o7.S n x).bind k=k (um x):=by
 have:o7.S n x=some (GL x):=by
  show(zP x).run n=_;simp only[zP,G.run,aO,AH];rw[if_pos (by rw[wrap32 h0 h1];simp;omega)]
  rfl
 rw[this,Mn h0 h1];rfl
theorem Ac(p:ah)(ip:Int)(k:jB.sh.El→Option β):(jB.S n (p,ip)).bind k=k (fk p ip):=by
 have:jB.S n (p,ip)=some (fk p ip):=by
  show(uz p ip).run n=_;simp only[uz,G.run,aO,IA,fk,Rb];by_cases h:gB p=true
  ·simp only[h,if_true,Bool.true_and];simp only[gB,Bool.and_eq_true,decide_eq_true_eq]at h;simp only[KW n p.Len h.1 h.2];rfl
  ·simp[h];rfl
 rw[this];rfl
end
end Go.L
end
section
namespace Go.L
open Go.AM
theorem nh{α γ:Type}{n:Nat}(l:List α)(i:Nat)(p:α→Bool){f:Int→Option (Int⊕(Unit⊕Unit))}{k:Unit⊕Unit→Option γ}(hn:l.length<n)(hi:i≤l.length)
 (hf:∀(j:Nat) x,j<i→l[j]? =some x→f (j:Int)=some (if p x=true then .inr (.inl ())else .inl ((j+1:Nat):Int))) (he:f (i:Int)=some (.inr (.inr ()))):
 (bV f n 0).bind k=if(l.take i).any p=true then k (.inl ())else k (.inr ()):=by
 have hl:(l.take i).length=i:=by simp;omega
 refine Eq.trans (Aa (fun j=>(j:Int)) (l.take i) (fun _ x=>if p x=true then 1 else 0) (fun _ _=>k (.inl ())) (k (.inr ())) rfl (by omega) (fun j x hx _ hE=>?_) (fun j x hx _ hE=>?_) (fun _=>?_)) ?_
 ·grind
 ·grind
 ·grind
 ·generalize l.take i=m;have key:∀(m:List α) (j:Nat),(match bI (fun _ x=>if p x=true then(1:Int)else 0) j m with |none=>k (.inr ()) |some (_,_)=>k (.inl ()))=if m.any p=true then k (.inl ())else k (.inr ()):=by
   intro m;induction m with
   |nil=>intro j;rfl
   |cons x xs ih=>
    grind [bI]
  exact key m 0
theorem Ai{α K:Type}[DecidableEq K](key:α→K)(l:List α)(i:Nat)(x:α)(hx:l[i]? =some x):(bg key [] l).getD i false=(l.take i).any fun y=>decide (key y=key x):=by
 grind [CE]
theorem mI{β:Type}(n:Nat)(x lo hi:Int)(k:bC.sh.El→Option β):(bC.S n (x,lo,hi)).bind k=k (!out x lo hi):=by
 have:bC.S n (x,lo,hi)=some (!out x lo hi):=by
  show(pE x lo hi).run n=_;simp only[pE,G.run,aO,out,ge_iff_le];by_cases h:lo≤x
  ·have h2:¬x<lo:=by omega
   have h3:decide (x≤hi)= !decide (hi<x):=by by_cases h:x≤hi<;>simp[h]<;>omega
   simp only[h,h2,decide_true,decide_false,if_true,Bool.false_or,h3];rfl
  ·have h2:x<lo:=by omega
   simp only[h,h2,decide_true,decide_false,if_false,Bool.true_or,Bool.not_true,Bool.false_eq_true];rfl
 rw[this];rfl
def G0(b:Bool):Int:=match b with |true=>2|false=>0
theorem LU{β:Type}(n:Nat)(f:au)(k:qU.sh.El→Option β):(qU.S n f).bind k=k (G0 (ez f)):=by
 have:qU.S n f=some (G0 (ez f)):=by
  show(vN f).run n=_;simp only[vN,G.run,aO,mI,Bool.not_not,gt_iff_lt,if_true];by_cases h1:out f.Leaves 1 32=true
  ·have:ez f=true:=by simp[ez,h1]
   rw[this,if_pos h1];rfl
  rw[if_neg h1];by_cases h2:out f.dK 0 32=true
  ·have:ez f=true:=by simp[ez,h2]
   rw[this,if_pos h2];rfl
  rw[if_neg h2];by_cases h3:decide (32<IntKind.wrap .i64 (f.Leaves+f.dK))=true
  ·have:ez f=true:=by simp only[ez,h3,Bool.or_true,Bool.true_or]
   rw[this,if_pos h3];rfl
  rw[if_neg h3];by_cases h4:out f.xy 0 2=true
  ·have:ez f=true:=by simp only[ez,h4,Bool.or_true,Bool.true_or]
   rw[this,if_pos h4];rfl
  rw[if_neg h4];by_cases h5:out f.qH 0 1=true
  ·have:ez f=true:=by simp only[ez,h5,Bool.or_true,Bool.true_or]
   rw[this,if_pos h5];rfl
  rw[if_neg h5];by_cases h6:out f.cW 0 1=true
  ·have:ez f=true:=by simp only[ez,h6,Bool.or_true]
   rw[this,if_pos h6];rfl
  rw[if_neg h6];simp only[Bool.not_eq_true]at h1 h2 h3 h4 h5 h6;have:ez f=false:=by simp only[ez,h1,h2,h3,h4,h5,h6,Bool.or_self]
  rw[this];rfl
 rw[this];rfl
theorem N1{β:Type}(n:Nat)(t:cC)(k:sY.sh.El→Option β):(sY.S n t).bind k=k (G0 (eF t)):=by
 have:sY.S n t=some (G0 (eF t)):=by
  show(wX t).run n=_;simp only[wX,G.run,aO,mI,Bool.not_not,gt_iff_lt,if_true];by_cases h1:out t.rE 1 100=true
  ·have:eF t=true:=by simp[eF,h1]
   rw[this,if_pos h1];rfl
  rw[if_neg h1];by_cases h2:out t.A8 3 1000=true
  ·have:eF t=true:=by simp[eF,h2]
   rw[this,if_pos h2];rfl
  rw[if_neg h2];by_cases h3:out t.Dy 1 10000=true
  ·have:eF t=true:=by simp only[eF,h3,Bool.or_true,Bool.true_or]
   rw[this,if_pos h3];rfl
  rw[if_neg h3];by_cases h4:out t.qG 0 1000=true
  ·have:eF t=true:=by simp only[eF,h4,Bool.or_true,Bool.true_or]
   rw[this,if_pos h4];rfl
  rw[if_neg h4];by_cases h5:out t.xx 1 100=true
  ·have:eF t=true:=by simp only[eF,h5,Bool.or_true,Bool.true_or]
   rw[this,if_pos h5];rfl
  rw[if_neg h5];by_cases h6:out t.Window 1 10000=true
  ·have:eF t=true:=by simp only[eF,h6,Bool.or_true]
   rw[this,if_pos h6];rfl
  rw[if_neg h6];simp only[Bool.not_eq_true]at h1 h2 h3 h4 h5 h6;have:eF t=false:=by simp only[eF,h1,h2,h3,h4,h5,h6,Bool.or_self]
  rw[this];rfl
 rw[this];rfl
theorem N2{β:Type}(n:Nat)(f:au)(i:Nat)(x:av)(hx:f.aA[i]? =some x)(hn:f.aA.length<n)(hs:f.aA.length≤4000)(k:sZ.sh.El→Option β):
 (sZ.S n (f,(i:Int))).bind k=k (sW (bg (fun x:av=>x.bL) [] f.aA) (bg (fun x:av=>x.Target) [] f.aA) i x):=by
 have:sZ.S n (f,(i:Int))=some (sW (bg (fun x:av=>x.bL) [] f.aA) (bg (fun x:av=>x.Target) [] f.aA) i x):=by
  show(wY f (i:Int)).run n=_;have hi:=(List.getElem?_eq_some_iff.1 hx).1;simp only[wY,G.run,aO,cw,bN,hx,Option.bind_some,sW,Ai _ _ _ _ hx,gt_iff_lt];cases decide (x.bL<1)
  case true=>rfl
  cases decide (16777215<x.bL)
  case true=>rfl
  cases(x.Target==0)
  case true=>rfl
  simp only[Bool.false_eq_true,if_false,if_true];refine Eq.trans (nh f.aA i (fun y=>y.bL==x.bL||y.Target==x.Target) hn (by omega) (fun j y hj hy=>?_) ?_) ?_
  ·have hlt:(j:Int)<(i:Int):=by omega
   simp only[hlt,decide_true,if_true,bN,hy,Option.bind_some,ep (show j<9223372036854775807 by omega)]
   cases(y.bL==x.bL)<;>cases(y.Target==x.Target)<;>rfl
  ·simp;rfl
  ·have e:((f.aA.take i).any fun y=>y.bL==x.bL||y.Target==x.Target)=(((f.aA.take i).any fun y=>decide (y.bL=x.bL))||((f.aA.take i).any fun y=>decide (y.Target=x.Target))):=by
    generalize f.aA.take i=m;induction m with
    |nil=>rfl
    |cons a m ih=>
     grind
   rw[e];cases((f.aA.take i).any fun y=>decide (y.bL=x.bL))<;>cases((f.aA.take i).any fun y=>decide (y.Target=x.Target))<;>rfl
 rw[this];rfl
end Go.L
namespace Go.L
open Go.AM
theorem yA{x:Int}(h0:0≤x)(h1:x≤4294967295):((BitVec.ofInt 32 x).toNat:Int)=x:=by
 rw[BitVec.toNat_ofInt];omega
theorem SF{p:ah}(h0:0≤p.IP)(h1:p.IP≤4294967295)(hc:gF p=true):IntKind.wrap .u32 (p.IP+z6 p.Len)=Tu p.IP (z6 p.Len):=by
 simp only[gF,gB,Bool.and_eq_true,decide_eq_true_eq,beq_iff_eq]at hc;obtain⟨⟨l0,l1⟩,hb⟩:=hc;rw[← Mn l0 l1]at hb;generalize hlow:z6 p.Len=low at*;have hlr:0≤low∧low≤4294967295:=by
  rw[← hlow];unfold z6;rw[wrap_u32];omega
 unfold zZ at hb;rw[Ey]at hb;have hm:BitVec.ofInt 32 (GL p.Len)=BitVec.ofInt 32 4294967295 ^^^ BitVec.ofInt 32 low:=by
  unfold GL;rw[hlow,Ey,E3]
 rw[hm]at hb;have hA:(BitVec.ofInt 32 p.IP&&& (BitVec.ofInt 32 4294967295 ^^^ BitVec.ofInt 32 low))=BitVec.ofInt 32 p.IP:=by
  apply BitVec.eq_of_toNat_eq;have:=yA h0 h1;omega
 have hz:BitVec.ofInt 32 p.IP&&& BitVec.ofInt 32 low=0:=by
  apply BitVec.eq_of_getElem_eq;intro i hi;have:=congrArg (fun v:BitVec 32=>v[i]) hA
  have hone:(BitVec.ofInt 32 4294967295)[i]=true:=by
   have:BitVec.ofInt 32 4294967295=BitVec.allOnes 32:=by decide
   simp only[this,BitVec.getElem_allOnes]
  simp only[BitVec.getElem_and,BitVec.getElem_xor,hone,BitVec.getElem_zero]at this ⊢
  revert this;cases(BitVec.ofInt 32 p.IP)[i]<;>cases(BitVec.ofInt 32 low)[i]<;>simp
 unfold Tu;rw[Ey,← BitVec.add_eq_or_of_and_eq_zero _ _ hz,wrap_u32,BitVec.toNat_add];have e1:=yA h0 h1;have e2:=yA hlr.1 hlr.2;omega
end Go.L
namespace Go.L
open Go.AM
section
variable {β:Type} (n:Nat)
theorem PB(p:ah)(k:uo.sh.El→Option β):(uo.S n p).bind k=if gB p=true then k (⟨zZ p.IP (um p.Len),p.Len⟩,0)else k (⟨0,0⟩,2):=by
 have:uo.S n p=some (if gB p=true then(⟨zZ p.IP (um p.Len),p.Len⟩,0)else(⟨0,0⟩,2)):=by
  show(yw p).run n=_;simp only[yw,G.run,aO,IA];by_cases h:gB p=true
  ·simp only[h,Bool.not_true,Bool.false_eq_true,if_false,if_true];simp only[gB,Bool.and_eq_true,decide_eq_true_eq]at h;rw[KW n p.Len h.1 h.2];rfl
  ·simp[h];rfl
 rw[this];split<;>rfl
theorem DY(p:ah)(k:qx.sh.El→Option β):(qx.S n p).bind k=k (gF p):=by
 have:qx.S n p=some (gF p):=by
  show(yx p).run n=_;simp only[yx,G.run,aO,PB,gF];by_cases h:gB p=true<;>simp[h]<;>rfl
 rw[this];rfl
theorem K2(p:ah)(hp:gB p=true)(k:rV.sh.El→Option β):(rV.S n p).bind k=k (IntKind.wrap .u32 (p.IP+z6 p.Len)):=by
 have:rV.S n p=some (IntKind.wrap .u32 (p.IP+z6 p.Len)):=by
  show(Ae p).run n=_;simp only[gB,Bool.and_eq_true,decide_eq_true_eq]at hp;simp only[Ae,G.run,aO,AH];rw[if_pos (by rw[wrap32 hp.1 hp.2];simp;omega)]
  rfl
 rw[this];rfl
theorem LV(p q:ah)(k:qV.sh.El→Option β):(qV.S n (p,q)).bind k=k (fk p q.IP||fk q p.IP):=by
 have:qV.S n (p,q)=some (fk p q.IP||fk q p.IP):=by
  show(vP p q).run n=_;simp only[vP,G.run,aO,Ac];by_cases h:fk p q.IP=true
  ·simp[h];rfl
  ·simp only[h,Bool.false_eq_true,if_false,Bool.false_or];simp at h;simp[h];rfl
 rw[this];rfl
theorem SG(x:Int):((IntKind.wrap .u64 (((BitVec.ofInt 64 x)&&& (BitVec.ofInt 64 1)).toNat:Int))==(1:Int))=((IntKind.wrap .u64 (((BitVec.ofInt 64 x)&&& (BitVec.ofInt 64 1)).toNat:Int)) != 0):=by
 have h1:((BitVec.ofInt 64 x)&&& (BitVec.ofInt 64 1)).toNat≤1:=by
  rw[BitVec.toNat_and];have:(BitVec.ofInt 64 1).toNat=1:=by decide
  rw[this];exact Nat.and_le_right
 generalize ((BitVec.ofInt 64 x)&&& (BitVec.ofInt 64 1)).toNat=m at*;have:m=0∨m=1:=by omega
 rcases this with rfl |rfl<;>decide
theorem I8(m:Int)(k:oH.sh.El→Option β):(oH.S n m).bind k=k (xD m):=by
 have:oH.S n m=some (xD m):=by
  show(tG m).run n=_;have e:=SG (Int.fdiv m ((2:Int) ^ (min (Int.toNat (40:Int)) (IntKind.bits .u64))));simp only[tG,G.run,aO,xD];rw[← e];by_cases h:m≤281474976710655
  ·simp only[h,decide_true,if_true,Bool.true_and];rfl
  ·simp only[h,decide_false,if_false,Bool.false_and,Bool.false_eq_true];rfl
 rw[this];rfl
theorem HB(m:Int)(k:nX.sh.El→Option β):(nX.S n m).bind k=if lS m=true then k (IntKind.wrap .i64 (IntKind.wrap .u64 (m - 2199023255552)),true)else k (0,false):=by
 have:nX.S n m=some (if lS m=true then(IntKind.wrap .i64 (IntKind.wrap .u64 (m - 2199023255552)),true)else(0,false)):=by
  show(rW m).run n=_;simp only[rW,G.run,aO,lS];by_cases h:m<2199023255552
  ·simp[h];rfl
  ·by_cases h2:m≥2199023255584
   ·simp[h,h2];rfl
   ·simp only[h,h2,decide_false,Bool.not_false,Bool.and_self,Bool.false_eq_true,if_false,if_true];rfl
 rw[this];split<;>rfl
theorem CW(l:List Int)(hn:l.length<n)(hs:l.length≤4000)(k:mD.sh.El→Option β):(mD.S n l).bind k=k (uE l):=by
 have e:mD.S n l=jG.S n l:=rfl;exact(congrArg (fun o=>Option.bind o k) e).trans (uF n l hn hs k)
theorem Ms(l:List Int)(v:Int)(hn:l.length<n)(hs:l.length≤4000)(k:tW.sh.El→Option β):(tW.S n (l,v)).bind k=k (l.any fun x=>x==v):=by
 have:tW.S n (l,v)=some (l.any fun x=>x==v):=by
  show(Bj l v).run n=_;simp only[Bj,G.run,aO,cw,bY];refine Eq.trans (nh l l.length (fun x=>x==v) hn (by omega) (fun j y hj hy=>?_) ?_) ?_
  ·have hlt:(j:Int)<(l.length:Int):=by omega
   simp only[hlt,decide_true,if_true,bN,hy,Option.bind_some,ep (show j<9223372036854775807 by omega)]
   cases(y==v)<;>rfl
  ·simp;rfl
  ·rw[List.take_length];cases(l.any fun x=>x==v)<;>rfl
 rw[this];rfl
end
end Go.L
namespace Go.L
open Go.AM
theorem BS(x m:Int)(h0:0≤m)(h1:m≤4000):out x 0 (IntKind.wrap .i64 (m - 1))= !(decide (0≤x)&&decide (x<m)):=by
 rw[NL m h0 h1];unfold out;grind
theorem K3{α:Type}(l:List α)(p q:α→Bool):(l.any fun y=>p y||q y)=(l.any p||l.any q):=by
 grind
theorem Ri{β:Type}(n:Nat)(f:au)(i:Nat)(x:dH)(hx:f.Leaks[i]? =some x)(hn:f.Leaks.length<n)(hs:f.Leaks.length≤4000)(ht:f.aA.length≤4000)(k:vS.sh.El→Option β):
 (vS.S n (f,(i:Int))).bind k=k (yX f (bg (fun x:dH=>x) [] f.Leaks) i x):=by
 have:vS.S n (f,(i:Int))=some (yX f (bg (fun x:dH=>x) [] f.Leaks) i x):=by
  show(Ag f (i:Int)).run n=_;have hi:=(List.getElem?_eq_some_iff.1 hx).1;simp only[Ag,G.run,aO,cw,bY,bN,hx,Option.bind_some,yX,Ai _ _ _ _ hx,mI,DY,Bool.not_not,BS _ _ (show(0:Int)≤(f.aA.length:Int)by omega) (show(f.aA.length:Int)≤4000 by omega)]
  cases(decide (0≤x.From)&&decide (x.From<(f.aA.length:Int)))
  case false=>rfl
  cases(decide (0≤x.To)&&decide (x.To<(f.aA.length:Int)))
  case false=>rfl
  cases(x.From==x.To)
  case true=>rfl
  cases gF x.ah
  case false=>rfl
  simp only[Bool.not_true,Bool.false_eq_true,if_false,if_true];refine Eq.trans (nh f.Leaks i (fun y=>decide (y=x)) hn (by omega) (fun j y hj hy=>?_) ?_) ?_
  ·have hlt:(j:Int)<(i:Int):=by omega
   have e:decide (y=x)=(y.From==x.From&&(y.To==x.To&&(y.ah.IP==x.ah.IP&&(y.ah.Len==x.ah.Len&&true)))):=by
    rw[Bool.eq_iff_iff];rcases y with⟨_,_,⟨_,_⟩⟩;rcases x with⟨_,_,⟨_,_⟩⟩;simp
   simp only[hlt,decide_true,if_true,bN,hy,Option.bind_some,ep (show j<9223372036854775807 by omega),e]
   split<;>rfl
  ·simp;rfl
  ·cases((f.Leaks.take i).any fun y=>decide (y=x))<;>rfl
 rw[this];rfl
theorem Rj{β:Type}(n:Nat)(f:au)(i:Nat)(x:eV)(hx:f.Links[i]? =some x)(hn:f.Links.length<n)(hs:f.Links.length≤4000)(hl:1≤f.Leaves∧f.Leaves≤32∧0≤f.dK∧f.dK≤32)(k:vO.sh.El→Option β):
 (vO.S n (f,(i:Int))).bind k=k (yW f (bg (fun x:eV=>(⟨x.A,x.B⟩:V2 Int)) [] f.Links) i x):=by
 have:vO.S n (f,(i:Int))=some (yW f (bg (fun x:eV=>(⟨x.A,x.B⟩:V2 Int)) [] f.Links) i x):=by
  show(Ad f (i:Int)).run n=_;have hi:=(List.getElem?_eq_some_iff.1 hx).1;have hw:IntKind.wrap .i64 (f.Leaves+f.dK)=f.Leaves+f.dK:=wrap_i64 (by omega) (by omega)
  have hw2:IntKind.wrap .i64 (f.Leaves+f.dK - 1)=f.Leaves+f.dK - 1:=wrap_i64 (by omega) (by omega)
  have e1:out x.B f.Leaves (f.Leaves+f.dK - 1)= !(decide (x.B≥f.Leaves)&&decide (x.B<f.Leaves+f.dK)):=by
   unfold out;apply Bool.eq_iff_iff.2;simp only[Bool.or_eq_true,decide_eq_true_eq,Bool.not_eq_true',Bool.and_eq_false_iff,decide_eq_false_iff_not];omega
  have e2:(decide (x.wH<1)||decide (1000<x.wH))=out x.wH 1 1000:=rfl;simp only[Ad,G.run,aO,cw,bY,bN,hx,Option.bind_some,yW,Ai _ _ _ _ hx,mI,Bool.not_not,BS _ _ (show(0:Int)≤f.Leaves by omega) (show f.Leaves≤4000 by omega),hw,hw2,e1,e2]
  cases(decide (0≤x.A)&&decide (x.A<f.Leaves))
  case false=>rfl
  cases decide (x.B≥f.Leaves)
  case false=>rfl
  cases decide (x.B<f.Leaves+f.dK)
  case false=>rfl
  cases out x.wH 1 1000
  case true=>rfl
  simp only[Bool.not_true,Bool.and_self,Bool.false_eq_true,if_false,if_true];refine Eq.trans (nh f.Links i (fun y=>decide ((⟨y.A,y.B⟩:V2 Int)=⟨x.A,x.B⟩)) hn (by omega) (fun j y hj hy=>?_) ?_) ?_
  ·have hlt:(j:Int)<(i:Int):=by omega
   have e:decide ((⟨y.A,y.B⟩:V2 Int)=⟨x.A,x.B⟩)=(y.A==x.A&&y.B==x.B):=by
    rw[Bool.eq_iff_iff];simp
   simp only[hlt,decide_true,if_true,bN,hy,Option.bind_some,ep (show j<9223372036854775807 by omega),e]
   cases(y.A==x.A)<;>cases(y.B==x.B)<;>rfl
  ·simp;rfl
  ·cases((f.Links.take i).any fun y=>decide ((⟨y.A,y.B⟩:V2 Int)=⟨x.A,x.B⟩))<;>rfl
 rw[this];rfl
theorem UZ{α:Type}(a b c:Bool)(u v:α):(if a=true then if b=true then if c=true then some u else some v else some v else some v)=some (if(a&&(b&&c))=true then u else v):=by
 cases a<;>cases b<;>cases c<;>rfl
theorem K4(p:ah)(g:Int)(h0:0≤p.IP)(h1:p.IP≤4294967295)(hc:gF p=true):xY p g=(fk p g&&(g != p.IP&&g != IntKind.wrap .u32 (p.IP+z6 p.Len))):=by
 rw[SF h0 h1 hc];rfl
theorem N3{β:Type}(n:Nat)(f:au)(i:Nat)(x:BD)(hx:f.aI[i]? =some x)(hn:f.aI.length<n)(hs:f.aI.length≤4000)(hnt:f.aA.length<n)(ht:f.aA.length≤4000)(h0:0≤x.aJ.IP)(h1:x.aJ.IP≤4294967295)(k:s5.sh.El→Option β):
 (s5.S n (f,(i:Int))).bind k=k (z8 f (bg (fun x:BD=>x.bL) [] f.aI) (bg (fun x:BD=>x.Target) [] f.aI) i x):=by
 have:s5.S n (f,(i:Int))=some (z8 f (bg (fun x:BD=>x.bL) [] f.aI) (bg (fun x:BD=>x.Target) [] f.aI) i x):=by
  show(wZ f (i:Int)).run n=_;have hi:=(List.getElem?_eq_some_iff.1 hx).1;have d1:∀a b:Int,decide (a=b)=(a==b):=fun _ _=>rfl
  simp only[wZ,G.run,aO,cw,bY,bN,hx,Option.bind_some,z8,Ai _ _ _ _ hx,mI,DY,Bool.not_not,BS _ _ (show(0:Int)≤(f.aA.length:Int)by omega) (show(f.aA.length:Int)≤4000 by omega),gt_iff_lt]
  cases(decide (0≤x.av)&&decide (x.av<(f.aA.length:Int)))
  case false=>rfl
  cases decide (x.bL<1)
  case true=>rfl
  cases decide (16777215<x.bL)
  case true=>rfl
  cases(x.Target==0)
  case true=>rfl
  simp only[Bool.not_true,Bool.false_eq_true,if_false,if_true];refine Eq.trans (nh f.aA f.aA.length (fun y=>y.bL==x.bL||y.Target==x.Target) hnt (by omega) (fun j y hj hy=>?_) ?_) ?_
  ·have hlt:(j:Int)<(f.aA.length:Int):=by omega
   simp only[hlt,decide_true,if_true,bN,hy,Option.bind_some,ep (show j<9223372036854775807 by omega)]
   cases(y.bL==x.bL)<;>cases(y.Target==x.Target)<;>rfl
  ·simp;rfl
  rw[List.take_length,K3];cases hT1:(f.aA.any fun y=>y.bL==x.bL)
  case true=>simp only[Bool.true_or,if_true,ite_self];rfl
  cases hT2:(f.aA.any fun y=>y.Target==x.Target)
  case true=>simp only[Bool.or_true,if_true,ite_self];rfl
  simp only[Sum.elim,G.run,aO,Bool.or_self,Bool.false_eq_true,if_false,if_true];refine Eq.trans (nh f.aI i (fun y=>y.bL==x.bL||y.Target==x.Target) hn (by omega) (fun j y hj hy=>?_) ?_) ?_
  ·have hlt:(j:Int)<(i:Int):=by omega
   simp only[cw,G.run,aO,hlt,decide_true,if_true,bN,hy,Option.bind_some,ep (show j<9223372036854775807 by omega)]
   cases(y.bL==x.bL)<;>cases(y.Target==x.Target)<;>rfl
  ·simp;rfl
  rw[K3];simp only[d1];cases hV1:((f.aI.take i).any fun y=>y.bL==x.bL)
  case true=>simp only[Bool.true_or,if_true,ite_self];rfl
  cases hV2:((f.aI.take i).any fun y=>y.Target==x.Target)
  case true=>simp only[Bool.or_true,if_true,ite_self];rfl
  simp only[Bool.or_self,Bool.false_eq_true,if_false,Sum.elim,G.run,aO,DY,mI,Bool.not_not];cases(x.aL==0)
  case true=>
   simp only[if_true];cases(x.aJ.IP==0&&(x.aJ.Len==0&&true))<;>rfl
  simp only[Bool.false_eq_true,if_false];cases hcl:gF x.aJ
  case false=>rfl
  simp only[Bool.not_true,Bool.false_eq_true,if_false];cases out x.aJ.Len 8 30
  case true=>rfl
  have hok:gB x.aJ=true:=by simp only[gF,Bool.and_eq_true]at hcl;exact hcl.1
  simp only[Bool.false_eq_true,if_false,Ac,K4 _ _ h0 h1 hcl];cases fk x.aJ x.aL
  case false=>rfl
  simp only[Bool.not_true,Bool.false_eq_true,if_false,Bool.true_and,bne];cases(x.aL==x.aJ.IP)
  case true=>rfl
  simp only[Bool.not_false,Bool.false_eq_true,if_false,Bool.true_and,Bool.not_not];rw[K2 n x.aJ hok];cases(x.aL==IntKind.wrap .u32 (x.aJ.IP+z6 x.aJ.Len))
  case true=>rfl
  simp only[G.run,aO,Bool.false_eq_true,if_false];refine Eq.trans (nh f.aI i (vL x.av x.aJ.IP x.aJ.Len) hn (by omega) (fun j y hj hy=>?_) ?_) ?_
  ·have hlt:(j:Int)<(i:Int):=by omega
   simp only[cw,G.run,aO,LV,vL,hlt,decide_true,if_true,bN,hy,Option.bind_some,ep (show j<9223372036854775807 by omega)]
   exact UZ _ _ _ _ _
  ·simp;rfl
  ·cases((f.aI.take i).any (vL x.av x.aJ.IP x.aJ.Len))<;>rfl
 rw[this];rfl
end Go.L
namespace Go.L
open Go.AM
theorem N4{α γ:Type}{n:Nat}(l:List α)(i:Nat)(p:α→Bool){f:Int×Int→Option ((Int×Int)⊕Int)}{k:Int→Option γ}(hn:l.length<n)(hs:l.length≤4000)(hi:i<l.length)
 (hf:∀(j:Nat) x,j≤i→l[j]? =some x→∀c:Nat,c≤4000→f ((c:Int),(j:Int))=some (.inl (if p x=true then((c+1:Nat):Int)else(c:Int),((j+1:Nat):Int))))
 (he:∀c:Int,f (c,((i+1:Nat):Int))=some (.inr c)):(bV f n (0,0)).bind k=k ((((l.take (i+1)).countP p:Nat)):Int):=by
 have main:bV f n (0,0)=some ((((l.take (i+1)).countP p:Nat)):Int):=by
  have hl:(l.take (i+1)).length=i+1:=by simp;omega
  refine GF (fun j (c:Nat)=>((c:Int),(j:Int))) (l.take (i+1)) (fun j=>((l.take (i+1)).take j).countP p) _ (fun j x hx=>?_) ?_ n (by omega)
  ·have hj:=(List.getElem?_eq_some_iff.1 hx).1;rw[hl]at hj;have hx':=hx;rw[List.getElem?_take,if_pos hj]at hx;have hc:((l.take (i+1)).take j).countP p≤4000:=by
    refine Nat.le_trans List.countP_le_length ?_;simp;omega
   rw[hf j x (by omega) hx _ hc]
   clear hc;generalize l.take (i+1)=m at hx';rw[List.take_add_one,hx',List.countP_append];by_cases h:p x=true<;>simp[h]
  ·grind
 rw[main];rfl
theorem LW{β:Type}(n:Nat)(f:au)(i:Nat)(x:bf)(hx:f.az[i]? =some x)(hn:f.az.length<n)(hs:f.az.length≤4000)(hL:1≤f.Leaves∧f.Leaves≤32)(hB:f.aI.length≤4000)
 (hsn:∀s∈f.az,(s.aI.length<n∧s.aI.length≤4000)∧s.Leaves.length<n∧s.Leaves.length≤4000) (k:qW.sh.El→Option β):
 (qW.S n (f,(i:Int))).bind k=k (CG f i x):=by
 have:qW.S n (f,(i:Int))=some (CG f i x):=by
  show(vQ f (i:Int)).run n=_;have hi:=(List.getElem?_eq_some_iff.1 hx).1;have hxm:=List.mem_of_getElem? hx;obtain⟨⟨hb1,hb2⟩,hl1,hl2⟩:=hsn x hxm;simp only[vQ,G.run,aO,cw,bY,bN,hx,Option.bind_some,CG,mI,Bool.not_not,BS _ _ (show(0:Int)≤f.Leaves by omega) (show f.Leaves≤4000 by omega)]
  cases((x.Leaves.length:Int)==0)
  case true=>rfl
  cases((x.aI.length:Int)==0)
  case true=>rfl
  simp only[Bool.false_eq_true,if_false,if_true];refine Eq.trans (nh x.Leaves x.Leaves.length (fun y=> !(decide (0≤y)&&decide (y<f.Leaves))) hl1 (by omega) (fun j y hj hy=>?_) ?_) ?_
  ·have hlt:(j:Int)<(x.Leaves.length:Int):=by omega
   simp only[hlt,decide_true,if_true,bN,hy,Option.bind_some,ep (show j<9223372036854775807 by omega)]
   split<;>rfl
  ·simp;rfl
  rw[List.take_length];cases(x.Leaves.any fun n=> !(decide (0≤n)&&decide (n<f.Leaves)))
  case true=>rfl
  simp only[Bool.false_eq_true,if_false,if_true,Sum.elim,G.run,aO,cw,bY,mI,Bool.not_not,BS _ _ (show(0:Int)≤(f.aI.length:Int)by omega) (show(f.aI.length:Int)≤4000 by omega)]
  refine Eq.trans (nh x.aI x.aI.length (fun y=> !(decide (0≤y)&&decide (y<(f.aI.length:Int)))) hb1 (by omega) (fun j y hj hy=>?_) ?_) ?_
  ·have hlt:(j:Int)<(x.aI.length:Int):=by omega
   simp only[hlt,decide_true,if_true,bN,hy,Option.bind_some,ep (show j<9223372036854775807 by omega)]
   split<;>rfl
  ·simp;rfl
  rw[List.take_length];cases(x.aI.any fun n=> !(decide (0≤n)&&decide (n<(f.aI.length:Int))))
  case true=>rfl
  simp only[Bool.false_eq_true,if_false,if_true,Sum.elim,G.run,aO,cw,bY,CW n _ hl1 hl2,CW n _ hb1 hb2];cases uE x.Leaves
  case false=>rfl
  cases uE x.aI
  case false=>rfl
  simp only[Bool.not_true,Bool.false_eq_true,if_false,if_true];refine Eq.trans (nh x.Leaves x.Leaves.length (fun y=>decide (32<(((f.az.take i).countP fun s=>s.Leaves.contains y:Nat):Int)+1)) hl1 (by omega) (fun j y hj hy=>?_) ?_) ?_
  ·have hlt:(j:Int)<(x.Leaves.length:Int):=by omega
   simp only[hlt,decide_true,if_true,bN,hy,Option.bind_some,ep (show j<9223372036854775807 by omega)]
   refine Eq.trans (N4 f.az i (fun s=>s.Leaves.contains y) hn hs hi (fun m s hm hms c hc=>?_) (fun c=>?_)) ?_
   ·have hle:(m:Int)≤(i:Int):=by omega
    have hsm:=List.mem_of_getElem? hms;simp only[hle,decide_true,if_true,bN,hms,Option.bind_some,ep (show m<9223372036854775807 by omega),ep (show c<9223372036854775807 by omega)]
    rw[Ms n s.Leaves y (hsn s hsm).2.1 (hsn s hsm).2.2];have e:(s.Leaves.any fun v=>v==y)=s.Leaves.contains y:=by
     rw[List.any_beq']
    rw[e];cases s.Leaves.contains y<;>rfl
   ·have hle:¬(((i+1:Nat):Int)≤(i:Int)):=by omega
    simp only[hle,decide_false,Bool.false_eq_true,if_false];rfl
   ·have hc:((f.az.take (i+1)).countP fun s=>s.Leaves.contains y)=((f.az.take i).countP fun s=>s.Leaves.contains y)+1:=by
     rw[List.take_add_one,hx,List.countP_append];have:x.Leaves.contains y=true:=by
      rw[List.contains_iff_mem];exact List.mem_of_getElem? hy
     simp[this];exact List.mem_of_getElem? hy
    rw[hc];simp only[gt_iff_lt,Int.natCast_add,Int.cast_ofNat_Int];split<;>rfl
  ·simp;rfl
  ·rw[List.take_length];cases(x.Leaves.any fun n=>decide (32<(((f.az.take i).countP fun s=>s.Leaves.contains n:Nat):Int)+1))<;>rfl
 rw[this];rfl
end Go.L
namespace Go.L
open Go.AM
def rX(f:au)(i:Nat)(x:Host):Int:=
 if(((f.Hosts.take i).any fun y=>y.BD==x.BD&&y.bq==x.bq)||(x.IP != 0&&((f.Hosts.take i).any fun y=>y.BD==x.BD&&y.IP==x.IP)))=true then 11 else 0
theorem I9{α:Type}(l:List α)(b:Bool)(p:α→Bool):(b&&l.any p)=l.any fun y=>b&&p y:=by
 cases b
 ·simp
 ·simp
theorem Rk{γ:Type}{n:Nat}(f:au)(i:Nat)(x:Host)(hi:i<f.Hosts.length)(hn:f.Hosts.length<n){g:Int→Option (Int⊕(Unit⊕Unit))}{k:Unit⊕Unit→Option γ}
 (hf:∀(j:Nat) y,j<i→f.Hosts[j]? =some y→g (j:Int)=some (if((y.BD==x.BD)&&((y.bq==x.bq)||((x.IP != 0)&&(y.IP==x.IP))))=true then .inr (.inl ())else .inl ((j+1:Nat):Int))) (he:g (i:Int)=some (.inr (.inr ())))
 {r:Int→Option γ} (h1:k (.inl ())=r 11) (h2:k (.inr ())=r 0):(bV g n 0).bind k=r (rX f i x):=by
 refine Eq.trans (nh f.Hosts i (fun y=>(y.BD==x.BD)&&((y.bq==x.bq)||((x.IP != 0)&&(y.IP==x.IP)))) hn (by omega) hf he) ?_
 have e:((f.Hosts.take i).any fun y=>(y.BD==x.BD)&&((y.bq==x.bq)||((x.IP != 0)&&(y.IP==x.IP))))=(((f.Hosts.take i).any fun y=>y.BD==x.BD&&y.bq==x.bq)||(x.IP != 0&&((f.Hosts.take i).any fun y=>y.BD==x.BD&&y.IP==x.IP))):=by
  rw[I9,← K3];congr 1
  funext y
  cases(y.BD==x.BD)<;>cases(y.bq==x.bq)<;>cases(x.IP != 0)<;>cases(y.IP==x.IP)<;>rfl
 rw[e];unfold rX;split
 ·exact h1
 ·exact h2
end Go.L
namespace Go.L
open Go.AM
theorem K5(f:au)(i:Nat)(x:Host)(hx:f.Hosts[i]? =some x)(hr:∀h∈f.Hosts,0≤h.IP∧h.IP≤4294967295):
 (if(bg (fun x:Host=>(⟨x.BD,x.bq⟩:bp)) [] f.Hosts).getD i false=true then(11:Int)else if(x.IP != 0&&(bg (fun x:Host=>(⟨x.BD,IntKind.wrap .u64 x.IP⟩:bp)) [] f.Hosts).getD i false)=true then 11 else 0)=rX f i x:=by
 have w:∀h∈f.Hosts,IntKind.wrap .u64 h.IP=h.IP:=by
  intro h hh;have:=hr h hh;have e:IntKind.wrap .u64 h.IP=h.IP % 18446744073709551616:=by simp[IntKind.wrap,IntKind.bits,IntKind.signed]
  rw[e];omega
 have hxm:=List.mem_of_getElem? hx;simp only[Ai _ _ _ _ hx];have e1:((f.Hosts.take i).any fun y=>decide ((⟨y.BD,y.bq⟩:bp)=⟨x.BD,x.bq⟩))=((f.Hosts.take i).any fun y=>y.BD==x.BD&&y.bq==x.bq):=by
  congr 1
  funext y
  rw[Bool.eq_iff_iff];simp
 have e2:((f.Hosts.take i).any fun y=>decide ((⟨y.BD,IntKind.wrap .u64 y.IP⟩:bp)=⟨x.BD,IntKind.wrap .u64 x.IP⟩))=((f.Hosts.take i).any fun y=>y.BD==x.BD&&y.IP==x.IP):=by
  have key:∀y∈f.Hosts.take i,decide ((⟨y.BD,IntKind.wrap .u64 y.IP⟩:bp)=⟨x.BD,IntKind.wrap .u64 x.IP⟩)=(y.BD==x.BD&&y.IP==x.IP):=by
   intro y hy;rw[w y (List.mem_of_mem_take hy),w x hxm,Bool.eq_iff_iff];simp
  rw[Bool.eq_iff_iff,List.any_eq_true,List.any_eq_true];exact⟨fun⟨y,hy,h⟩=>⟨y,hy,by rw[← key y hy];exact h⟩,fun⟨y,hy,h⟩=>⟨y,hy,by rw[key y hy];exact h⟩⟩
 rw[e1,e2];unfold rX;grind
theorem RU{n:Nat}(f:au)(i:Nat)(x:Host)(hi:i<f.Hosts.length)(hn:f.Hosts.length<n)(hs:f.Hosts.length≤4000):(PA f i x).run n=some (rX f i x):=by
 simp only[PA,G.run,aO,cw,if_true];refine Rk f i x hi hn (fun j y hj hy=>?_) ?_ (r:=fun v=>some v) rfl rfl
 ·have hlt:(j:Int)<(i:Int):=by omega
  simp only[hlt,decide_true,if_true,bN,hy,Option.bind_some,ep (show j<9223372036854775807 by omega)]
  cases(y.BD==x.BD)<;>cases(y.bq==x.bq)<;>cases(x.IP != 0)<;>cases(y.IP==x.IP)<;>rfl
 ·simp;rfl
theorem RV{n:Nat}(f:au)(i:Nat)(x:Host)(b:BD)(hi:i<f.Hosts.length)(hn:f.Hosts.length<n)(hs:f.Hosts.length≤4000)(hip:b.aL=0→x.IP=0)(hsub:b.aL≠0→gF b.aJ=true)(hbr:0≤b.aJ.IP∧b.aJ.IP≤4294967295):
 (Mr f i x b).run n=some (if(!gC b x.IP)=true then 3 else rX f i x):=by
 simp only[Mr,G.run,aO,RU f i x hi hn hs,if_true];by_cases hg:b.aL=0
 ·simp[hg,hip hg,gC];rfl
 cases hp:(x.IP==0)
 case true=>simp[hg,eq_of_beq hp,gC];rfl
 have hcl:=hsub hg;simp only[bne,hp,beq_eq_false_iff_ne.2 hg,gC,K4 _ _ hbr.1 hbr.2 hcl,Ac,Bool.not_false,Bool.true_and,Bool.false_or,if_true];cases hc:fk b.aJ x.IP
 case false=>simp;rfl
 have hok:gB b.aJ=true:=by simp only[fk,Bool.and_eq_true]at hc;exact hc.1
 simp only[Bool.not_true,Bool.false_eq_true,if_false,Bool.true_and];rw[K2 n b.aJ hok];cases h1:(x.IP==b.aJ.IP)<;>cases h2:(x.IP==IntKind.wrap .u32 (b.aJ.IP+z6 b.aJ.Len))<;>cases h3:(x.IP==b.aL)<;>simp[G.run,aO,h2,h3,RU f i x hi hn hs]<;>rfl
theorem RX{n:Nat}(f:au)(i:Nat)(x:Host)(b:BD)(hb:gv f.aI x.BD=some b)(hi:i<f.Hosts.length)(hn:f.Hosts.length<n)(hs:f.Hosts.length≤4000)(hsub:b.aL≠0→gF b.aJ=true)(hbr:0≤b.aJ.IP∧b.aJ.IP≤4294967295):
 (RT f i x).run n=some (if(x.bq==1577058561)=true then 3 else if lS x.bq=true then 3 else if(!gC b x.IP)=true then 3 else rX f i x):=by
 have key:(x.bq==1577058561)=false→lS x.bq=false→(if(b.aL==0)=true then if(x.IP != 0)=true then some (3:Int)else(Mr f i x b).run n else(Mr f i x b).run n)=some (if(!gC b x.IP)=true then 3 else rX f i x):=fun _ _=>by
  by_cases hg:b.aL=0
  ·by_cases hp:x.IP=0
   ·simp only[RV f i x b hi hn hs (fun _=>hp) hsub hbr,hg,hp];simp
   ·simp[hg,hp,gC]
  ·simp only[RV f i x b hi hn hs (fun h=>absurd h hg) hsub hbr];simp[hg]
 simp only[RT,HB,G.run,aO,cw,hb,Option.bind_some,if_true];cases h1:(x.bq==1577058561)<;>cases h2:lS x.bq<;>simp only[G.run,aO,cw,hb,Option.bind_some,h1,if_true,if_false,Bool.false_eq_true]
 exact key h1 h2
 all_goals rfl
theorem Rl{β:Type}(n:Nat)(f:au)(i:Nat)(x:Host)(hx:f.Hosts[i]? =some x)(hn:f.Hosts.length<n)(hs:f.Hosts.length≤4000)(hB:f.aI.length≤4000)(hseg:f.az.length≤4000)
 (hsn:∀s∈f.az,s.aI.length<n∧s.aI.length≤4000) (hsub:∀b∈f.aI,b.aL≠0→gF b.aJ=true) (hbr:∀b∈f.aI,0≤b.aJ.IP∧b.aJ.IP≤4294967295) (hr:∀h∈f.Hosts,0≤h.IP∧h.IP≤4294967295) (k:vR.sh.El→Option β):
 (vR.S n (f,(i:Int))).bind k=k (yY f (bg (fun x:Host=>(⟨x.BD,x.bq⟩:bp)) [] f.Hosts) (bg (fun x:Host=>(⟨x.BD,IntKind.wrap .u64 x.IP⟩:bp)) [] f.Hosts) i x):=by
 have:vR.S n (f,(i:Int))=some (yY f (bg (fun x:Host=>(⟨x.BD,x.bq⟩:bp)) [] f.Hosts) (bg (fun x:Host=>(⟨x.BD,IntKind.wrap .u64 x.IP⟩:bp)) [] f.Hosts) i x):=by
  show(Af f (i:Int)).run n=_;have hi:=(List.getElem?_eq_some_iff.1 hx).1;unfold yY;rw[K5 f i x hx hr];have hw:=NL (f.az.length:Int) (by omega) (by omega)
  simp only[Af,G.run,aO,cw,bY,bN,hx,Option.bind_some,mI,I8,Bool.not_not,BS _ _ (show(0:Int)≤(f.aI.length:Int)by omega) (show(f.aI.length:Int)≤4000 by omega),hw,gt_iff_lt]
  cases(x.bq==0)
  case true=>rfl
  cases decide (281474976710655<x.bq)
  case true=>rfl
  cases xD x.bq
  case true=>rfl
  cases hbd:(decide (0≤x.BD)&&decide (x.BD<(f.aI.length:Int)))
  case false=>rfl
  cases hsg:out x.bf (-1) ((f.az.length:Int) - 1)
  case true=>rfl
  obtain⟨b,hb⟩:∃b,gv f.aI x.BD=some b:=by
   simp only[Bool.and_eq_true,decide_eq_true_eq]at hbd;exact⟨_,by unfold gv;rw[if_pos hbd.1];exact List.getElem?_eq_getElem (by omega)⟩
  have hbm:b∈f.aI:=by
   unfold gv at hb;split at hb
   ·exact List.mem_of_getElem? hb
   ·cases hb
  have hbd2:Bh f x.BD=b:=by simp[Bh,hb]
  have hsb:b.aL≠0→gF b.aJ=true:=hsub b hbm;simp only[Bool.not_true,Bool.false_eq_true,if_false,if_true,hbd2];cases hs1:(x.bf != -1)
  ·simp only[Bool.false_and,Bool.false_eq_true,if_false];exact RX f i x b hb hi hn hs hsb (hbr b hbm)
  ·obtain⟨s,hs'⟩:∃s,gv f.az x.bf=some s:=by
    simp only[out,Bool.or_eq_false_iff,decide_eq_false_iff_not]at hsg;have:x.bf≠ -1:=by simpa using hs1
    exact⟨_,by unfold gv;rw[if_pos (by omega)];exact List.getElem?_eq_getElem (by omega)⟩
   have hsm:s∈f.az:=by
    unfold gv at hs';split at hs'
    ·exact List.mem_of_getElem? hs'
    ·cases hs'
   have hsb2:xZ f x.bf=s.aI:=by simp[xZ,hs']
   have hcm:(s.aI.any fun v=>x.BD==v)=(s.aI.any fun v=>v==x.BD):=by
    congr 1;funext v;exact Bool.eq_iff_iff.2 ⟨fun h=>beq_iff_eq.2 (beq_iff_eq.1 h).symm,fun h=>beq_iff_eq.2 (beq_iff_eq.1 h).symm⟩
   simp only[if_true,hs',Option.bind_some,hsb2,Bool.true_and,hcm,Ms n s.aI x.BD (hsn s hsm).1 (hsn s hsm).2];cases(s.aI.any fun v=>v==x.BD)
   case false=>rfl
   simp only[Bool.not_true,Bool.false_eq_true,if_false];exact RX f i x b hb hi hn hs hsb (hbr b hbm)
 rw[this];rfl
end Go.L
namespace Go.L
open Go.AM
theorem PC{f:au}{u:Unit}(h:wV f=.inl u):∀b∈f.aI,b.aL≠0→gF b.aJ=true:=by
 intro b hb hg;have:=(CI h).2;rw[qw]at this;obtain⟨i,hi⟩:=List.getElem?_of_mem hb;have:=this i b hi;have hg':(b.aL==0)=false:=by simpa using hg
 cases hc:gF b.aJ with
 |true=>rfl
 |false=>
  unfold z8 at this;simp only[hg',hc,Bool.not_false,if_true,Bool.false_eq_true,if_false]at this
  repeat' split at this
  all_goals cases this
structure PD(f:au):Prop where
 oC:∀b∈f.aI,0≤b.aJ.IP∧b.aJ.IP≤4294967295
 AJ:∀h∈f.Hosts,0≤h.IP∧h.IP≤4294967295
theorem za{n:Nat}{α:Type}{f:au}{i m:Int}{s:ByteArray}{g:G prog (Sh.El (.one (Prod Int (Prod ByteArray Int))))}{r:Int×ByteArray×Int}(l:List α)(E:Nat→α→Int)(hn:l.length<n)(hs:l.length≤4000)
 (hel:∀(j:Nat) x,l[j]? =some x→AN.S n (f,i,(j:Int))=some (E j x)) (hg:outcome s m (decide (m<(l.length:Int))) (bI E 0 l)=.inl ()→g.run n=some r):
 (AO f i l.length m s g).run n=some (vM (outcome s m (decide (m<(l.length:Int))) (bI E 0 l)) r):=by
 simp only[AO,G.run,aO,if_true,gt_iff_lt];unfold outcome at hg ⊢;cases hm:decide (m<(l.length:Int))
 case true=>rfl
 rw[hm]at hg;simp only[Bool.false_eq_true,if_false]at hg ⊢;refine Eq.trans (Aa (fun j=>(j:Int)) l E (fun i e=>some (e,s,(i:Int))) (g.run n) rfl hn (fun j x hx _ hE=>?_) (fun j x hx _ hE=>?_) (fun _=>?_)) ?_
 ·have hj:=(List.getElem?_eq_some_iff.1 hx).1;refine⟨.inl (E j x,(j:Int)),?_,rfl⟩;simp only[show(j:Int)<(l.length:Int)by omega,decide_true,if_true,hel j x hx,Option.bind_some]
  exact if_pos (show(E j x != 0)=true by simpa using hE)
 ·have hj:=(List.getElem?_eq_some_iff.1 hx).1;simp only[show(j:Int)<(l.length:Int)by omega,decide_true,if_true,hel j x hx,Option.bind_some,ep (show j<9223372036854775807 by omega)]
  exact if_neg (show ¬(E j x != 0)=true by simpa using hE)
 ·exact⟨.inr (),by simp,rfl⟩
 ·cases hE:bI E 0 l with
  |none=>rw[hE]at hg;exact hg rfl
  |some p=>rfl
end Go.L
namespace Go.L
open Go.AM
theorem PE{β:Type}(n:Nat)(hn:5000≤n)(f:au)(hs:Small f)(hr:PD f)(k:qy.sh.El→Option β):(qy.S n f).bind k=k (tV f):=by
 have hseg:∀s∈f.az,(s.aI.length<n∧s.aI.length≤4000)∧s.Leaves.length<n∧s.Leaves.length≤4000:=fun s h=>by
  have:=hs.seg s h;omega
 obtain⟨h1,h2,h3,h4,h5,h6⟩:f.Links.length≤4000∧f.aA.length≤4000∧f.aI.length≤4000∧f.az.length≤4000∧f.Hosts.length≤4000∧f.Leaks.length≤4000:=⟨hs.links,hs.sX,hs.oC,hs.segments,hs.AJ,hs.leaks⟩;have:qy.S n f=some (tV f):=by
  show(yy f).run n=_;simp only[yy,G.run,aO,bY,LU,N1];unfold tV qJ y9;cases hb:ez f
  case true=>rfl
  cases hb2:eF f.cC
  case true=>rfl
  have hF:qJ f=.inl ():=by unfold qJ;rw[hb];rfl
  simp only[G0,vM,show((0:Int) != 0)=false from by decide,Bool.false_eq_true,if_false]
  refine za f.Links _ (by omega) h1 (fun j x hx=>Rj n f j x hx (by omega) h1 (AL hF) some) fun _=>?_
  refine za f.aA _ (by omega) h2 (fun j x hx=>N2 n f j x hx (by omega) h2 some) fun _=>?_
  refine za f.aI _ (by omega) h3 (fun j x hx=>N3 n f j x hx (by omega) h3 (by omega) h2 (hr.oC x (List.mem_of_getElem? hx)).1 (hr.oC x (List.mem_of_getElem? hx)).2 some) fun hD=>?_
  refine za f.az _ (by omega) h4 (fun j x hx=>LW n f j x hx (by omega) h4 ⟨(AL hF).1,(AL hF).2.1⟩ h3 hseg some) fun _=>?_
  refine za f.Hosts _ (by omega) h5 (fun j x hx=>Rl n f j x hx (by omega) h5 h3 h4 (fun s h=>(hseg s h).1) (PC hD) hr.oC hr.AJ some) fun _=>?_
  refine za f.Leaks _ (by omega) h6 (fun j x hx=>Ri n f j x hx (by omega) h6 h2 some) fun _=>rfl
 rw[this];rfl
end Go.L
end
