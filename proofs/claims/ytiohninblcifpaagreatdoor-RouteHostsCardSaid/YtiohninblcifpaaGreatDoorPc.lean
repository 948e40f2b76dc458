/- Parts put together. No conditions. -/
import Derived.Test.YtiohninblcifpaaGreatDoorPv
import Derived.Test.YtiohninblcifpaaGreatDoorWx
import Derived.Test.YtiohninblcifpaaGreatDoorWl
set_option linter.unusedSimpArgs false
set_option linter.unusedVariables false
set_option maxRecDepth 100000
section
namespace Go.L
open Go.AM
theorem wrap_u32(x:Int):IntKind.wrap .u32 x=x % 4294967296:=by
 simp[IntKind.wrap,IntKind.bits,IntKind.signed]
theorem DO(x:BitVec 32):IntKind.wrap .u32 (x.toNat:Int)=(x.toNat:Int):=by
 rw[wrap_u32];have:=x.isLt;omega
theorem Es(x:BitVec 32):BitVec.ofInt 32 (x.toNat:Int)=x:=by
 apply BitVec.eq_of_toNat_eq;rw[BitVec.toNat_ofInt];have:=x.isLt;omega
theorem Df(a b m:BitVec 32):(a ^^^ b)&&& m=0↔a&&& m=b&&& m:=by
 constructor
 ·intro h;apply BitVec.eq_of_getElem_eq;intro i hi;have:=congrArg (fun v:BitVec 32=>v[i]) h
  simp only[BitVec.getElem_and,BitVec.getElem_xor,BitVec.getElem_zero]at this ⊢
  revert this;cases a[i]<;>cases b[i]<;>cases m[i]<;>simp
 ·intro h;apply BitVec.eq_of_getElem_eq;intro i hi;have:=congrArg (fun v:BitVec 32=>v[i]) h
  simp only[BitVec.getElem_and,BitVec.getElem_xor,BitVec.getElem_zero]at this ⊢
  revert this;cases a[i]<;>cases b[i]<;>cases m[i]<;>simp
theorem Px(a b m:Int):(xZ (Mp a b) m==0)=(xZ a m==xZ b m):=by
 unfold xZ Mp;simp only[DO,Es];rw[Bool.eq_iff_iff];simp only[beq_iff_eq];constructor
 ·intro h;have h2:((BitVec.ofInt 32 a ^^^ BitVec.ofInt 32 b)&&& BitVec.ofInt 32 m)=0:=by
   apply BitVec.eq_of_toNat_eq;simpa using h
  rw[(Df _ _ _).1 h2]
 ·intro h;have h2:(BitVec.ofInt 32 a&&& BitVec.ofInt 32 m)=(BitVec.ofInt 32 b&&& BitVec.ofInt 32 m):=by
   apply BitVec.eq_of_toNat_eq;omega
  rw[(Df _ _ _).2 h2];rfl
section
variable {β:Type} (n:Nat)
theorem Hz(p:af)(k:qv.sh.El→Option β):(qv.S n p).bind k=k (fR p):=by
 have:qv.S n p=some (fR p):=by
  show(xQ p).run n=_;simp only[xQ,G.run,aN,fR,ge_iff_le];by_cases h:0≤p.Len<;>simp[h]<;>rfl
 rw[this];rfl
theorem JR(x:Int)(h0:0≤x)(h1:x≤32)(k:pg.sh.El→Option β):(pg.S n x).bind k=k (ue x):=by
 have:pg.S n x=some (FV x):=by
  show(zg x).run n=_;simp only[zg,G.run,aN,Ad];rw[if_pos (by rw[wrap32 h0 h1];simp;omega)]
  rfl
 rw[this,K9 h0 h1];rfl
theorem vK(p:af)(ip:Int)(k:gW.sh.El→Option β):(gW.S n (p,ip)).bind k=k (cq p ip):=by
 have:gW.S n (p,ip)=some (cq p ip):=by
  show(ur p ip).run n=_;simp only[ur,G.run,aN,Hz,cq,Px];by_cases h:fR p=true
  ·simp only[h,if_true,Bool.true_and];simp only[fR,Bool.and_eq_true,decide_eq_true_eq]at h;simp only[JR n p.Len h.1 h.2];rfl
  ·simp[h];rfl
 rw[this];rfl
end
end Go.L
end
section
namespace Go.L
open Go.AM
theorem nq{α γ:Type}{n:Nat}(l:List α)(i:Nat)(p:α→Bool){f:Int→Option (Int⊕(Unit⊕Unit))}{k:Unit⊕Unit→Option γ}(hn:l.length<n)(hi:i≤l.length)
 (hf:∀(j:Nat) x,j<i→l[j]? =some x→f (j:Int)=some (if p x=true then .inr (.inl ())else .inl ((j+1:Nat):Int))) (he:f (i:Int)=some (.inr (.inr ()))):
 (dx f n 0).bind k=if(l.take i).any p=true then k (.inl ())else k (.inr ()):=by
 have hl:(l.take i).length=i:=by simp;omega
 refine Eq.trans (zF (fun j=>(j:Int)) (l.take i) (fun _ x=>if p x=true then 1 else 0) (fun _ _=>k (.inl ())) (k (.inr ())) rfl (by omega) (fun j x hx _ hE=>?_) (fun j x hx _ hE=>?_) (fun _=>?_)) ?_
 ·have hj:=(List.getElem?_eq_some_iff.1 hx).1;rw[hl]at hj;rw[List.getElem?_take,if_pos hj]at hx;refine⟨.inl (),?_,rfl⟩;rw[hf j x hj hx];cases h:p x with
  |true=>rfl
  |false=>simp[h]at hE
 ·have hj:=(List.getElem?_eq_some_iff.1 hx).1;rw[hl]at hj;rw[List.getElem?_take,if_pos hj]at hx;rw[hf j x hj hx];cases h:p x with
  |true=>simp[h]at hE
  |false=>rfl
 ·exact⟨.inr (),by rw[hl];exact he,rfl⟩
 ·generalize l.take i=m;have key:∀(m:List α) (j:Nat),(match bE (fun _ x=>if p x=true then(1:Int)else 0) j m with |none=>k (.inr ()) |some (_,_)=>k (.inl ()))=if m.any p=true then k (.inl ())else k (.inr ()):=by
   intro m;induction m with
   |nil=>intro j;rfl
   |cons x xs ih=>
    intro j;simp only[bE,List.any_cons];by_cases h:p x=true
    ·simp only[h,if_true,ne_eq,Bool.true_or];rfl
    ·have h':p x=false:=by simpa using h
     simp only[h',Bool.false_eq_true,if_false,ne_eq,not_true_eq_false,Bool.false_or];exact ih (j+1)
  exact key m 0
theorem zH{α K:Type}[DecidableEq K](key:α→K)(l:List α)(i:Nat)(x:α)(hx:l[i]? =some x):(aT key [] l).getD i false=(l.take i).any fun y=>decide (key y=key x):=by
 rw[List.getD_eq_getElem?_getD,B3,hx];simp only[Option.map_some,List.nil_append,Option.getD_some];apply Bool.eq_iff_iff.2;simp only[decide_eq_true_eq,List.mem_map,List.any_eq_true]
theorem mA{β:Type}(n:Nat)(x lo hi:Int)(k:bH.sh.El→Option β):(bH.S n (x,lo,hi)).bind k=k (!out x lo hi):=by
 have:bH.S n (x,lo,hi)=some (!out x lo hi):=by
  show(pn x lo hi).run n=_;simp only[pn,G.run,aN,out,ge_iff_le];by_cases h:lo≤x
  ·have h2:¬x<lo:=by omega
   have h3:decide (x≤hi)= !decide (hi<x):=by by_cases h:x≤hi<;>simp[h]<;>omega
   simp only[h,h2,decide_true,decide_false,if_true,Bool.false_or,h3];rfl
  ·have h2:x<lo:=by omega
   simp only[h,h2,decide_true,decide_false,if_false,Bool.true_or,Bool.not_true,Bool.false_eq_true];rfl
 rw[this];rfl
def F6(b:Bool):Int:=match b with |true=>2|false=>0
theorem KB{β:Type}(n:Nat)(f:av)(k:qV.sh.El→Option β):(qV.S n f).bind k=k (F6 (ew f)):=by
 have:qV.S n f=some (F6 (ew f)):=by
  show(vp f).run n=_;simp only[vp,G.run,aN,mA,Bool.not_not,gt_iff_lt,if_true];by_cases h1:out f.Leaves 1 32=true
  ·have:ew f=true:=by simp[ew,h1]
   rw[this,if_pos h1];rfl
  rw[if_neg h1];by_cases h2:out f.cO 0 32=true
  ·have:ew f=true:=by simp[ew,h2]
   rw[this,if_pos h2];rfl
  rw[if_neg h2];by_cases h3:decide (32<IntKind.wrap .i64 (f.Leaves+f.cO))=true
  ·have:ew f=true:=by simp only[ew,h3,Bool.or_true,Bool.true_or]
   rw[this,if_pos h3];rfl
  rw[if_neg h3];by_cases h4:out f.nR 0 2=true
  ·have:ew f=true:=by simp only[ew,h4,Bool.or_true,Bool.true_or]
   rw[this,if_pos h4];rfl
  rw[if_neg h4];by_cases h5:out f.jq 0 1=true
  ·have:ew f=true:=by simp only[ew,h5,Bool.or_true,Bool.true_or]
   rw[this,if_pos h5];rfl
  rw[if_neg h5];by_cases h6:out f.bD 0 1=true
  ·have:ew f=true:=by simp only[ew,h6,Bool.or_true]
   rw[this,if_pos h6];rfl
  rw[if_neg h6];simp only[Bool.not_eq_true]at h1 h2 h3 h4 h5 h6;have:ew f=false:=by simp only[ew,h1,h2,h3,h4,h5,h6,Bool.or_self]
  rw[this];rfl
 rw[this];rfl
theorem MH{β:Type}(n:Nat)(t:bC)(k:sQ.sh.El→Option β):(sQ.S n t).bind k=k (F6 (eE t)):=by
 have:sQ.S n t=some (F6 (eE t)):=by
  show(wE t).run n=_;simp only[wE,G.run,aN,mA,Bool.not_not,gt_iff_lt,if_true];by_cases h1:out t.nQ 1 100=true
  ·have:eE t=true:=by simp[eE,h1]
   rw[this,if_pos h1];rfl
  rw[if_neg h1];by_cases h2:out t.wo 3 1000=true
  ·have:eE t=true:=by simp[eE,h2]
   rw[this,if_pos h2];rfl
  rw[if_neg h2];by_cases h3:out t.z6 1 10000=true
  ·have:eE t=true:=by simp only[eE,h3,Bool.or_true,Bool.true_or]
   rw[this,if_pos h3];rfl
  rw[if_neg h3];by_cases h4:out t.mK 0 1000=true
  ·have:eE t=true:=by simp only[eE,h4,Bool.or_true,Bool.true_or]
   rw[this,if_pos h4];rfl
  rw[if_neg h4];by_cases h5:out t.sM 1 100=true
  ·have:eE t=true:=by simp only[eE,h5,Bool.or_true,Bool.true_or]
   rw[this,if_pos h5];rfl
  rw[if_neg h5];by_cases h6:out t.Window 1 10000=true
  ·have:eE t=true:=by simp only[eE,h6,Bool.or_true]
   rw[this,if_pos h6];rfl
  rw[if_neg h6];simp only[Bool.not_eq_true]at h1 h2 h3 h4 h5 h6;have:eE t=false:=by simp only[eE,h1,h2,h3,h4,h5,h6,Bool.or_self]
  rw[this];rfl
 rw[this];rfl
theorem MI{β:Type}(n:Nat)(f:av)(i:Nat)(x:au)(hx:f.aA[i]? =some x)(hn:f.aA.length<n)(hs:f.aA.length≤4000)(k:kD.sh.El→Option β):
 (kD.S n (f,(i:Int))).bind k=k (pH (aT (fun x:au=>x.aZ) [] f.aA) (aT (fun x:au=>x.Target) [] f.aA) i x):=by
 have:kD.S n (f,(i:Int))=some (pH (aT (fun x:au=>x.aZ) [] f.aA) (aT (fun x:au=>x.Target) [] f.aA) i x):=by
  show(wF f (i:Int)).run n=_;have hi:=(List.getElem?_eq_some_iff.1 hx).1;simp only[wF,G.run,aN,bF,bq,hx,Option.bind_some,pH,zH _ _ _ _ hx,gt_iff_lt];cases decide (x.aZ<1)
  case true=>rfl
  cases decide (16777215<x.aZ)
  case true=>rfl
  cases(x.Target==0)
  case true=>rfl
  simp only[Bool.false_eq_true,if_false,if_true];refine Eq.trans (nq f.aA i (fun y=>y.aZ==x.aZ||y.Target==x.Target) hn (by omega) (fun j y hj hy=>?_) ?_) ?_
  ·have hlt:(j:Int)<(i:Int):=by omega
   simp only[hlt,decide_true,if_true,bq,hy,Option.bind_some,bL (show j<9223372036854775807 by omega)]
   cases(y.aZ==x.aZ)<;>cases(y.Target==x.Target)<;>rfl
  ·simp;rfl
  ·have e:((f.aA.take i).any fun y=>y.aZ==x.aZ||y.Target==x.Target)=(((f.aA.take i).any fun y=>decide (y.aZ=x.aZ))||((f.aA.take i).any fun y=>decide (y.Target=x.Target))):=by
    generalize f.aA.take i=m;induction m with
    |nil=>rfl
    |cons a m ih=>
     simp only[List.any_cons,ih];have h1:(a.aZ==x.aZ)=decide (a.aZ=x.aZ):=rfl;have h2:(a.Target==x.Target)=decide (a.Target=x.Target):=rfl;rw[h1,h2];cases decide (a.aZ=x.aZ)<;>cases decide (a.Target=x.Target)<;>simp
   rw[e];cases((f.aA.take i).any fun y=>decide (y.aZ=x.aZ))<;>cases((f.aA.take i).any fun y=>decide (y.Target=x.Target))<;>rfl
 rw[this];rfl
end Go.L
namespace Go.L
open Go.AM
theorem yc{x:Int}(h0:0≤x)(h1:x≤4294967295):((BitVec.ofInt 32 x).toNat:Int)=x:=by
 rw[BitVec.toNat_ofInt];omega
theorem QE{p:af}(h0:0≤p.IP)(h1:p.IP≤4294967295)(hc:gv p=true):IntKind.wrap .u32 (p.IP+ya p.Len)=Rr p.IP (ya p.Len):=by
 simp only[gv,fR,Bool.and_eq_true,decide_eq_true_eq,beq_iff_eq]at hc;obtain⟨⟨l0,l1⟩,hb⟩:=hc;rw[← K9 l0 l1]at hb;generalize hlow:ya p.Len=low at*;have hlr:0≤low∧low≤4294967295:=by
  rw[← hlow];unfold ya;rw[wrap_u32];omega
 unfold xZ at hb;rw[DO]at hb;have hm:BitVec.ofInt 32 (FV p.Len)=BitVec.ofInt 32 4294967295 ^^^ BitVec.ofInt 32 low:=by
  unfold FV;rw[hlow,DO,Es]
 rw[hm]at hb;have hA:(BitVec.ofInt 32 p.IP&&& (BitVec.ofInt 32 4294967295 ^^^ BitVec.ofInt 32 low))=BitVec.ofInt 32 p.IP:=by
  apply BitVec.eq_of_toNat_eq;have:=yc h0 h1;omega
 have hz:BitVec.ofInt 32 p.IP&&& BitVec.ofInt 32 low=0:=by
  apply BitVec.eq_of_getElem_eq;intro i hi;have:=congrArg (fun v:BitVec 32=>v[i]) hA
  have hone:(BitVec.ofInt 32 4294967295)[i]=true:=by
   have:BitVec.ofInt 32 4294967295=BitVec.allOnes 32:=by decide
   simp only[this,BitVec.getElem_allOnes]
  simp only[BitVec.getElem_and,BitVec.getElem_xor,hone,BitVec.getElem_zero]at this ⊢
  revert this;cases(BitVec.ofInt 32 p.IP)[i]<;>cases(BitVec.ofInt 32 low)[i]<;>simp
 unfold Rr;rw[DO,← BitVec.add_eq_or_of_and_eq_zero _ _ hz,wrap_u32,BitVec.toNat_add];have e1:=yc h0 h1;have e2:=yc hlr.1 hlr.2;omega
end Go.L
namespace Go.L
open Go.AM
section
variable {β:Type} (n:Nat)
theorem N6(p:af)(k:ud.sh.El→Option β):(ud.S n p).bind k=if fR p=true then k (⟨xZ p.IP (ue p.Len),p.Len⟩,0)else k (⟨0,0⟩,2):=by
 have:ud.S n p=some (if fR p=true then(⟨xZ p.IP (ue p.Len),p.Len⟩,0)else(⟨0,0⟩,2)):=by
  show(xR p).run n=_;simp only[xR,G.run,aN,Hz];by_cases h:fR p=true
  ·simp only[h,Bool.not_true,Bool.false_eq_true,if_false,if_true];simp only[fR,Bool.and_eq_true,decide_eq_true_eq]at h;rw[JR n p.Len h.1 h.2];rfl
  ·simp[h];rfl
 rw[this];split<;>rfl
theorem Dg(p:af)(k:qw.sh.El→Option β):(qw.S n p).bind k=k (gv p):=by
 have:qw.S n p=some (gv p):=by
  show(xS p).run n=_;simp only[xS,G.run,aN,N6,gv];by_cases h:fR p=true<;>simp[h]<;>rfl
 rw[this];rfl
theorem EU(p:af)(hp:fR p=true)(k:pq.sh.El→Option β):(pq.S n p).bind k=k (IntKind.wrap .u32 (p.IP+ya p.Len)):=by
 have:pq.S n p=some (IntKind.wrap .u32 (p.IP+ya p.Len)):=by
  show(zi p).run n=_;simp only[fR,Bool.and_eq_true,decide_eq_true_eq]at hp;simp only[zi,G.run,aN,Ad];rw[if_pos (by rw[wrap32 hp.1 hp.2];simp;omega)]
  rfl
 rw[this];rfl
theorem KC(p q:af)(k:qW.sh.El→Option β):(qW.S n (p,q)).bind k=k (cq p q.IP||cq q p.IP):=by
 have:qW.S n (p,q)=some (cq p q.IP||cq q p.IP):=by
  show(vq p q).run n=_;simp only[vq,G.run,aN,vK];by_cases h:cq p q.IP=true
  ·simp[h];rfl
  ·simp only[h,Bool.false_eq_true,if_false,Bool.false_or];simp at h;simp[h];rfl
 rw[this];rfl
theorem QF(x:Int):((IntKind.wrap .u64 (((BitVec.ofInt 64 x)&&& (BitVec.ofInt 64 1)).toNat:Int))==(1:Int))=((IntKind.wrap .u64 (((BitVec.ofInt 64 x)&&& (BitVec.ofInt 64 1)).toNat:Int)) != 0):=by
 have h1:((BitVec.ofInt 64 x)&&& (BitVec.ofInt 64 1)).toNat≤1:=by
  rw[BitVec.toNat_and];have:(BitVec.ofInt 64 1).toNat=1:=by decide
  rw[this];exact Nat.and_le_right
 generalize ((BitVec.ofInt 64 x)&&& (BitVec.ofInt 64 1)).toNat=m at*;have:m=0∨m=1:=by omega
 rcases this with rfl |rfl<;>decide
theorem HY(m:Int)(k:oI.sh.El→Option β):(oI.S n m).bind k=k (xk m):=by
 have:oI.S n m=some (xk m):=by
  show(tr m).run n=_;have e:=QF (Int.fdiv m ((2:Int) ^ (min (Int.toNat (40:Int)) (IntKind.bits .u64))));simp only[tr,G.run,aN,xk];rw[← e];by_cases h:m≤281474976710655
  ·simp only[h,decide_true,if_true,Bool.true_and];rfl
  ·simp only[h,decide_false,if_false,Bool.false_and,Bool.false_eq_true];rfl
 rw[this];rfl
theorem Bg(m:Int)(k:k6.sh.El→Option β):(k6.S n m).bind k=if mM m=true then k (IntKind.wrap .i64 (IntKind.wrap .u64 (m - 2199023255552)),true)else k (0,false):=by
 have:k6.S n m=some (if mM m=true then(IntKind.wrap .i64 (IntKind.wrap .u64 (m - 2199023255552)),true)else(0,false)):=by
  show(rR m).run n=_;simp only[rR,G.run,aN,mM];by_cases h:m<2199023255552
  ·simp[h];rfl
  ·by_cases h2:m≥2199023255584
   ·simp[h,h2];rfl
   ·simp only[h,h2,decide_false,Bool.not_false,Bool.and_self,Bool.false_eq_true,if_false,if_true];rfl
 rw[this];split<;>rfl
theorem Ci(l:List Int)(hn:l.length<n)(hs:l.length≤4000)(k:lW.sh.El→Option β):(lW.S n l).bind k=k (uA l):=by
 have e:lW.S n l=jt.S n l:=rfl;exact(congrArg (fun o=>Option.bind o k) e).trans (uB n l hn hs k)
theorem GJ(l:List Int)(v:Int)(hn:l.length<n)(hs:l.length≤4000)(k:qL.sh.El→Option β):(qL.S n (l,v)).bind k=k (l.any fun x=>x==v):=by
 have:qL.S n (l,v)=some (l.any fun x=>x==v):=by
  show(Az l v).run n=_;simp only[Az,G.run,aN,bF,bu];refine Eq.trans (nq l l.length (fun x=>x==v) hn (by omega) (fun j y hj hy=>?_) ?_) ?_
  ·have hlt:(j:Int)<(l.length:Int):=by omega
   simp only[hlt,decide_true,if_true,bq,hy,Option.bind_some,bL (show j<9223372036854775807 by omega)]
   cases(y==v)<;>rfl
  ·simp;rfl
  ·rw[List.take_length];cases(l.any fun x=>x==v)<;>rfl
 rw[this];rfl
end
end Go.L
namespace Go.L
open Go.AM
theorem Bh(x m:Int)(h0:0≤m)(h1:m≤4000):out x 0 (IntKind.wrap .i64 (m - 1))= !(decide (0≤x)&&decide (x<m)):=by
 rw[Mr m h0 h1];unfold out;apply Bool.eq_iff_iff.2;simp only[Bool.or_eq_true,decide_eq_true_eq,Bool.not_eq_true',Bool.and_eq_false_iff,decide_eq_false_iff_not];omega
theorem JS{α:Type}(l:List α)(p q:α→Bool):(l.any fun y=>p y||q y)=(l.any p||l.any q):=by
 induction l with
 |nil=>rfl
 |cons a m ih=>
  simp only[List.any_cons,ih];cases p a<;>cases q a<;>simp
theorem Py{β:Type}(n:Nat)(f:av)(i:Nat)(x:bS)(hx:f.Leaks[i]? =some x)(hn:f.Leaks.length<n)(hs:f.Leaks.length≤4000)(ht:f.aA.length≤4000)(k:nj.sh.El→Option β):
 (nj.S n (f,(i:Int))).bind k=k (vG f (aT (fun x:bS=>x) [] f.Leaks) i x):=by
 have:nj.S n (f,(i:Int))=some (vG f (aT (fun x:bS=>x) [] f.Leaks) i x):=by
  show(zk f (i:Int)).run n=_;have hi:=(List.getElem?_eq_some_iff.1 hx).1;simp only[zk,G.run,aN,bF,bu,bq,hx,Option.bind_some,vG,zH _ _ _ _ hx,mA,Dg,Bool.not_not,Bh _ _ (show(0:Int)≤(f.aA.length:Int)by omega) (show(f.aA.length:Int)≤4000 by omega)]
  cases(decide (0≤x.From)&&decide (x.From<(f.aA.length:Int)))
  case false=>rfl
  cases(decide (0≤x.To)&&decide (x.To<(f.aA.length:Int)))
  case false=>rfl
  cases(x.From==x.To)
  case true=>rfl
  cases gv x.af
  case false=>rfl
  simp only[Bool.not_true,Bool.false_eq_true,if_false,if_true];refine Eq.trans (nq f.Leaks i (fun y=>decide (y=x)) hn (by omega) (fun j y hj hy=>?_) ?_) ?_
  ·have hlt:(j:Int)<(i:Int):=by omega
   have e:decide (y=x)=(y.From==x.From&&(y.To==x.To&&(y.af.IP==x.af.IP&&(y.af.Len==x.af.Len&&true)))):=by
    rw[Bool.eq_iff_iff];rcases y with⟨_,_,⟨_,_⟩⟩;rcases x with⟨_,_,⟨_,_⟩⟩;simp
   simp only[hlt,decide_true,if_true,bq,hy,Option.bind_some,bL (show j<9223372036854775807 by omega),e]
   split<;>rfl
  ·simp;rfl
  ·cases((f.Leaks.take i).any fun y=>decide (y=x))<;>rfl
 rw[this];rfl
theorem Pz{β:Type}(n:Nat)(f:av)(i:Nat)(x:cE)(hx:f.Links[i]? =some x)(hn:f.Links.length<n)(hs:f.Links.length≤4000)(hl:1≤f.Leaves∧f.Leaves≤32∧0≤f.cO∧f.cO≤32)(k:ng.sh.El→Option β):
 (ng.S n (f,(i:Int))).bind k=k (vF f (aT (fun x:cE=>(⟨x.A,x.B⟩:V2 Int)) [] f.Links) i x):=by
 have:ng.S n (f,(i:Int))=some (vF f (aT (fun x:cE=>(⟨x.A,x.B⟩:V2 Int)) [] f.Links) i x):=by
  show(zh f (i:Int)).run n=_;have hi:=(List.getElem?_eq_some_iff.1 hx).1;have hw:IntKind.wrap .i64 (f.Leaves+f.cO)=f.Leaves+f.cO:=wrap_i64 (by omega) (by omega)
  have hw2:IntKind.wrap .i64 (f.Leaves+f.cO - 1)=f.Leaves+f.cO - 1:=wrap_i64 (by omega) (by omega)
  have e1:out x.B f.Leaves (f.Leaves+f.cO - 1)= !(decide (x.B≥f.Leaves)&&decide (x.B<f.Leaves+f.cO)):=by
   unfold out;apply Bool.eq_iff_iff.2;simp only[Bool.or_eq_true,decide_eq_true_eq,Bool.not_eq_true',Bool.and_eq_false_iff,decide_eq_false_iff_not];omega
  have e2:(decide (x.wm<1)||decide (1000<x.wm))=out x.wm 1 1000:=rfl;simp only[zh,G.run,aN,bF,bu,bq,hx,Option.bind_some,vF,zH _ _ _ _ hx,mA,Bool.not_not,Bh _ _ (show(0:Int)≤f.Leaves by omega) (show f.Leaves≤4000 by omega),hw,hw2,e1,e2]
  cases(decide (0≤x.A)&&decide (x.A<f.Leaves))
  case false=>rfl
  cases decide (x.B≥f.Leaves)
  case false=>rfl
  cases decide (x.B<f.Leaves+f.cO)
  case false=>rfl
  cases out x.wm 1 1000
  case true=>rfl
  simp only[Bool.not_true,Bool.and_self,Bool.false_eq_true,if_false,if_true];refine Eq.trans (nq f.Links i (fun y=>decide ((⟨y.A,y.B⟩:V2 Int)=⟨x.A,x.B⟩)) hn (by omega) (fun j y hj hy=>?_) ?_) ?_
  ·have hlt:(j:Int)<(i:Int):=by omega
   have e:decide ((⟨y.A,y.B⟩:V2 Int)=⟨x.A,x.B⟩)=(y.A==x.A&&y.B==x.B):=by
    rw[Bool.eq_iff_iff];simp
   simp only[hlt,decide_true,if_true,bq,hy,Option.bind_some,bL (show j<9223372036854775807 by omega),e]
   cases(y.A==x.A)<;>cases(y.B==x.B)<;>rfl
  ·simp;rfl
  ·cases((f.Links.take i).any fun y=>decide ((⟨y.A,y.B⟩:V2 Int)=⟨x.A,x.B⟩))<;>rfl
 rw[this];rfl
theorem SL{α:Type}(a b c:Bool)(u v:α):(if a=true then if b=true then if c=true then some u else some v else some v else some v)=some (if(a&&(b&&c))=true then u else v):=by
 cases a<;>cases b<;>cases c<;>rfl
theorem EV(p:af)(g:Int)(h0:0≤p.IP)(h1:p.IP≤4294967295)(hc:gv p=true):xJ p g=(cq p g&&(g != p.IP&&g != IntKind.wrap .u32 (p.IP+ya p.Len))):=by
 rw[QE h0 h1 hc];rfl
theorem MJ{β:Type}(n:Nat)(f:av)(i:Nat)(x:BD)(hx:f.aG[i]? =some x)(hn:f.aG.length<n)(hs:f.aG.length≤4000)(hnt:f.aA.length<n)(ht:f.aA.length≤4000)(h0:0≤x.ay.IP)(h1:x.ay.IP≤4294967295)(k:kE.sh.El→Option β):
 (kE.S n (f,(i:Int))).bind k=k (wL f (aT (fun x:BD=>x.aZ) [] f.aG) (aT (fun x:BD=>x.Target) [] f.aG) i x):=by
 have:kE.S n (f,(i:Int))=some (wL f (aT (fun x:BD=>x.aZ) [] f.aG) (aT (fun x:BD=>x.Target) [] f.aG) i x):=by
  show(wG f (i:Int)).run n=_;have hi:=(List.getElem?_eq_some_iff.1 hx).1;have d1:∀a b:Int,decide (a=b)=(a==b):=fun _ _=>rfl
  simp only[wG,G.run,aN,bF,bu,bq,hx,Option.bind_some,wL,zH _ _ _ _ hx,mA,Dg,Bool.not_not,Bh _ _ (show(0:Int)≤(f.aA.length:Int)by omega) (show(f.aA.length:Int)≤4000 by omega),gt_iff_lt]
  cases(decide (0≤x.au)&&decide (x.au<(f.aA.length:Int)))
  case false=>rfl
  cases decide (x.aZ<1)
  case true=>rfl
  cases decide (16777215<x.aZ)
  case true=>rfl
  cases(x.Target==0)
  case true=>rfl
  simp only[Bool.not_true,Bool.false_eq_true,if_false,if_true];refine Eq.trans (nq f.aA f.aA.length (fun y=>y.aZ==x.aZ||y.Target==x.Target) hnt (by omega) (fun j y hj hy=>?_) ?_) ?_
  ·have hlt:(j:Int)<(f.aA.length:Int):=by omega
   simp only[hlt,decide_true,if_true,bq,hy,Option.bind_some,bL (show j<9223372036854775807 by omega)]
   cases(y.aZ==x.aZ)<;>cases(y.Target==x.Target)<;>rfl
  ·simp;rfl
  rw[List.take_length,JS];cases hT1:(f.aA.any fun y=>y.aZ==x.aZ)
  case true=>simp only[Bool.true_or,if_true,ite_self];rfl
  cases hT2:(f.aA.any fun y=>y.Target==x.Target)
  case true=>simp only[Bool.or_true,if_true,ite_self];rfl
  simp only[Sum.elim,G.run,aN,Bool.or_self,Bool.false_eq_true,if_false,if_true];refine Eq.trans (nq f.aG i (fun y=>y.aZ==x.aZ||y.Target==x.Target) hn (by omega) (fun j y hj hy=>?_) ?_) ?_
  ·have hlt:(j:Int)<(i:Int):=by omega
   simp only[bF,G.run,aN,hlt,decide_true,if_true,bq,hy,Option.bind_some,bL (show j<9223372036854775807 by omega)]
   cases(y.aZ==x.aZ)<;>cases(y.Target==x.Target)<;>rfl
  ·simp;rfl
  rw[JS];simp only[d1];cases hV1:((f.aG.take i).any fun y=>y.aZ==x.aZ)
  case true=>simp only[Bool.true_or,if_true,ite_self];rfl
  cases hV2:((f.aG.take i).any fun y=>y.Target==x.Target)
  case true=>simp only[Bool.or_true,if_true,ite_self];rfl
  simp only[Bool.or_self,Bool.false_eq_true,if_false,Sum.elim,G.run,aN,Dg,mA,Bool.not_not];cases(x.aM==0)
  case true=>
   simp only[if_true];cases(x.ay.IP==0&&(x.ay.Len==0&&true))<;>rfl
  simp only[Bool.false_eq_true,if_false];cases hcl:gv x.ay
  case false=>rfl
  simp only[Bool.not_true,Bool.false_eq_true,if_false];cases out x.ay.Len 8 30
  case true=>rfl
  have hok:fR x.ay=true:=by simp only[gv,Bool.and_eq_true]at hcl;exact hcl.1
  simp only[Bool.false_eq_true,if_false,vK,EV _ _ h0 h1 hcl];cases cq x.ay x.aM
  case false=>rfl
  simp only[Bool.not_true,Bool.false_eq_true,if_false,Bool.true_and,bne];cases(x.aM==x.ay.IP)
  case true=>rfl
  simp only[Bool.not_false,Bool.false_eq_true,if_false,Bool.true_and,Bool.not_not];rw[EU n x.ay hok];cases(x.aM==IntKind.wrap .u32 (x.ay.IP+ya x.ay.Len))
  case true=>rfl
  simp only[G.run,aN,Bool.false_eq_true,if_false];refine Eq.trans (nq f.aG i (oK x.au x.ay.IP x.ay.Len) hn (by omega) (fun j y hj hy=>?_) ?_) ?_
  ·have hlt:(j:Int)<(i:Int):=by omega
   simp only[bF,G.run,aN,KC,oK,hlt,decide_true,if_true,bq,hy,Option.bind_some,bL (show j<9223372036854775807 by omega)]
   exact SL _ _ _ _ _
  ·simp;rfl
  ·cases((f.aG.take i).any (oK x.au x.ay.IP x.ay.Len))<;>rfl
 rw[this];rfl
end Go.L
namespace Go.L
open Go.AM
theorem MK{α γ:Type}{n:Nat}(l:List α)(i:Nat)(p:α→Bool){f:Int×Int→Option ((Int×Int)⊕Int)}{k:Int→Option γ}(hn:l.length<n)(hs:l.length≤4000)(hi:i<l.length)
 (hf:∀(j:Nat) x,j≤i→l[j]? =some x→∀c:Nat,c≤4000→f ((c:Int),(j:Int))=some (.inl (if p x=true then((c+1:Nat):Int)else(c:Int),((j+1:Nat):Int))))
 (he:∀c:Int,f (c,((i+1:Nat):Int))=some (.inr c)):(dx f n (0,0)).bind k=k ((((l.take (i+1)).countP p:Nat)):Int):=by
 have main:dx f n (0,0)=some ((((l.take (i+1)).countP p:Nat)):Int):=by
  have hl:(l.take (i+1)).length=i+1:=by simp;omega
  refine FP (fun j (c:Nat)=>((c:Int),(j:Int))) (l.take (i+1)) (fun j=>((l.take (i+1)).take j).countP p) _ (fun j x hx=>?_) ?_ n (by omega)
  ·have hj:=(List.getElem?_eq_some_iff.1 hx).1;rw[hl]at hj;have hx':=hx;rw[List.getElem?_take,if_pos hj]at hx;have hc:((l.take (i+1)).take j).countP p≤4000:=by
    refine Nat.le_trans List.countP_le_length ?_;simp;omega
   rw[hf j x (by omega) hx _ hc]
   clear hc;generalize l.take (i+1)=m at hx';rw[List.take_add_one,hx',List.countP_append];by_cases h:p x=true<;>simp[h]
  ·rw[hl,List.take_of_length_le (by omega)]
   exact he _
 rw[main];rfl
theorem KD{β:Type}(n:Nat)(f:av)(i:Nat)(x:aU)(hx:f.ax[i]? =some x)(hn:f.ax.length<n)(hs:f.ax.length≤4000)(hL:1≤f.Leaves∧f.Leaves≤32)(hB:f.aG.length≤4000)
 (hsn:∀s∈f.ax,(s.aG.length<n∧s.aG.length≤4000)∧s.Leaves.length<n∧s.Leaves.length≤4000) (k:jP.sh.El→Option β):
 (jP.S n (f,(i:Int))).bind k=k (zD f i x):=by
 have:jP.S n (f,(i:Int))=some (zD f i x):=by
  show(vr f (i:Int)).run n=_;have hi:=(List.getElem?_eq_some_iff.1 hx).1;have hxm:=List.mem_of_getElem? hx;obtain⟨⟨hb1,hb2⟩,hl1,hl2⟩:=hsn x hxm;simp only[vr,G.run,aN,bF,bu,bq,hx,Option.bind_some,zD,mA,Bool.not_not,Bh _ _ (show(0:Int)≤f.Leaves by omega) (show f.Leaves≤4000 by omega)]
  cases((x.Leaves.length:Int)==0)
  case true=>rfl
  cases((x.aG.length:Int)==0)
  case true=>rfl
  simp only[Bool.false_eq_true,if_false,if_true];refine Eq.trans (nq x.Leaves x.Leaves.length (fun y=> !(decide (0≤y)&&decide (y<f.Leaves))) hl1 (by omega) (fun j y hj hy=>?_) ?_) ?_
  ·have hlt:(j:Int)<(x.Leaves.length:Int):=by omega
   simp only[hlt,decide_true,if_true,bq,hy,Option.bind_some,bL (show j<9223372036854775807 by omega)]
   split<;>rfl
  ·simp;rfl
  rw[List.take_length];cases(x.Leaves.any fun n=> !(decide (0≤n)&&decide (n<f.Leaves)))
  case true=>rfl
  simp only[Bool.false_eq_true,if_false,if_true,Sum.elim,G.run,aN,bF,bu,mA,Bool.not_not,Bh _ _ (show(0:Int)≤(f.aG.length:Int)by omega) (show(f.aG.length:Int)≤4000 by omega)]
  refine Eq.trans (nq x.aG x.aG.length (fun y=> !(decide (0≤y)&&decide (y<(f.aG.length:Int)))) hb1 (by omega) (fun j y hj hy=>?_) ?_) ?_
  ·have hlt:(j:Int)<(x.aG.length:Int):=by omega
   simp only[hlt,decide_true,if_true,bq,hy,Option.bind_some,bL (show j<9223372036854775807 by omega)]
   split<;>rfl
  ·simp;rfl
  rw[List.take_length];cases(x.aG.any fun n=> !(decide (0≤n)&&decide (n<(f.aG.length:Int))))
  case true=>rfl
  simp only[Bool.false_eq_true,if_false,if_true,Sum.elim,G.run,aN,bF,bu,Ci n _ hl1 hl2,Ci n _ hb1 hb2];cases uA x.Leaves
  case false=>rfl
  cases uA x.aG
  case false=>rfl
  simp only[Bool.not_true,Bool.false_eq_true,if_false,if_true];refine Eq.trans (nq x.Leaves x.Leaves.length (fun y=>decide (32<(((f.ax.take i).countP fun s=>s.Leaves.contains y:Nat):Int)+1)) hl1 (by omega) (fun j y hj hy=>?_) ?_) ?_
  ·have hlt:(j:Int)<(x.Leaves.length:Int):=by omega
   simp only[hlt,decide_true,if_true,bq,hy,Option.bind_some,bL (show j<9223372036854775807 by omega)]
   refine Eq.trans (MK f.ax i (fun s=>s.Leaves.contains y) hn hs hi (fun m s hm hms c hc=>?_) (fun c=>?_)) ?_
   ·have hle:(m:Int)≤(i:Int):=by omega
    have hsm:=List.mem_of_getElem? hms;simp only[hle,decide_true,if_true,bq,hms,Option.bind_some,bL (show m<9223372036854775807 by omega),bL (show c<9223372036854775807 by omega)]
    rw[GJ n s.Leaves y (hsn s hsm).2.1 (hsn s hsm).2.2];have e:(s.Leaves.any fun v=>v==y)=s.Leaves.contains y:=by
     rw[List.any_beq']
    rw[e];cases s.Leaves.contains y<;>rfl
   ·have hle:¬(((i+1:Nat):Int)≤(i:Int)):=by omega
    simp only[hle,decide_false,Bool.false_eq_true,if_false];rfl
   ·have hc:((f.ax.take (i+1)).countP fun s=>s.Leaves.contains y)=((f.ax.take i).countP fun s=>s.Leaves.contains y)+1:=by
     rw[List.take_add_one,hx,List.countP_append];have:x.Leaves.contains y=true:=by
      rw[List.contains_iff_mem];exact List.mem_of_getElem? hy
     simp[this];exact List.mem_of_getElem? hy
    rw[hc];simp only[gt_iff_lt,Int.natCast_add,Int.cast_ofNat_Int];split<;>rfl
  ·simp;rfl
  ·rw[List.take_length];cases(x.Leaves.any fun n=>decide (32<(((f.ax.take i).countP fun s=>s.Leaves.contains n:Nat):Int)+1))<;>rfl
 rw[this];rfl
end Go.L
namespace Go.L
open Go.AM
def B8(f:av)(i:Nat)(x:Host):Int:=
 if(((f.Hosts.take i).any fun y=>y.BD==x.BD&&y.aS==x.aS)||(x.IP != 0&&((f.Hosts.take i).any fun y=>y.BD==x.BD&&y.IP==x.IP)))=true then 11 else 0
theorem HZ{α:Type}(l:List α)(b:Bool)(p:α→Bool):(b&&l.any p)=l.any fun y=>b&&p y:=by
 cases b
 ·simp
 ·simp
theorem wM{γ:Type}{n:Nat}(f:av)(i:Nat)(x:Host)(hi:i<f.Hosts.length)(hn:f.Hosts.length<n){g:Int→Option (Int⊕(Unit⊕Unit))}{k:Unit⊕Unit→Option γ}
 (hf:∀(j:Nat) y,j<i→f.Hosts[j]? =some y→g (j:Int)=some (if((y.BD==x.BD)&&((y.aS==x.aS)||((x.IP != 0)&&(y.IP==x.IP))))=true then .inr (.inl ())else .inl ((j+1:Nat):Int))) (he:g (i:Int)=some (.inr (.inr ())))
 {r:Int→Option γ} (h1:k (.inl ())=r 11) (h2:k (.inr ())=r 0):(dx g n 0).bind k=r (B8 f i x):=by
 refine Eq.trans (nq f.Hosts i (fun y=>(y.BD==x.BD)&&((y.aS==x.aS)||((x.IP != 0)&&(y.IP==x.IP)))) hn (by omega) hf he) ?_
 have e:((f.Hosts.take i).any fun y=>(y.BD==x.BD)&&((y.aS==x.aS)||((x.IP != 0)&&(y.IP==x.IP))))=(((f.Hosts.take i).any fun y=>y.BD==x.BD&&y.aS==x.aS)||(x.IP != 0&&((f.Hosts.take i).any fun y=>y.BD==x.BD&&y.IP==x.IP))):=by
  rw[HZ,← JS];congr 1
  funext y
  cases(y.BD==x.BD)<;>cases(y.aS==x.aS)<;>cases(x.IP != 0)<;>cases(y.IP==x.IP)<;>rfl
 rw[e];unfold B8;split
 ·exact h1
 ·exact h2
end Go.L
namespace Go.L
open Go.AM
theorem JT(f:av)(i:Nat)(x:Host)(hx:f.Hosts[i]? =some x)(hr:∀h∈f.Hosts,0≤h.IP∧h.IP≤4294967295):
 (if(aT (fun x:Host=>(⟨x.BD,x.aS⟩:aL)) [] f.Hosts).getD i false=true then(11:Int)else if(x.IP != 0&&(aT (fun x:Host=>(⟨x.BD,IntKind.wrap .u64 x.IP⟩:aL)) [] f.Hosts).getD i false)=true then 11 else 0)=B8 f i x:=by
 have w:∀h∈f.Hosts,IntKind.wrap .u64 h.IP=h.IP:=by
  intro h hh;have:=hr h hh;have e:IntKind.wrap .u64 h.IP=h.IP % 18446744073709551616:=by simp[IntKind.wrap,IntKind.bits,IntKind.signed]
  rw[e];omega
 have hxm:=List.mem_of_getElem? hx;simp only[zH _ _ _ _ hx];have e1:((f.Hosts.take i).any fun y=>decide ((⟨y.BD,y.aS⟩:aL)=⟨x.BD,x.aS⟩))=((f.Hosts.take i).any fun y=>y.BD==x.BD&&y.aS==x.aS):=by
  congr 1
  funext y
  rw[Bool.eq_iff_iff];simp
 have e2:((f.Hosts.take i).any fun y=>decide ((⟨y.BD,IntKind.wrap .u64 y.IP⟩:aL)=⟨x.BD,IntKind.wrap .u64 x.IP⟩))=((f.Hosts.take i).any fun y=>y.BD==x.BD&&y.IP==x.IP):=by
  have key:∀y∈f.Hosts.take i,decide ((⟨y.BD,IntKind.wrap .u64 y.IP⟩:aL)=⟨x.BD,IntKind.wrap .u64 x.IP⟩)=(y.BD==x.BD&&y.IP==x.IP):=by
   intro y hy;rw[w y (List.mem_of_mem_take hy),w x hxm,Bool.eq_iff_iff];simp
  rw[Bool.eq_iff_iff,List.any_eq_true,List.any_eq_true];exact⟨fun⟨y,hy,h⟩=>⟨y,hy,by rw[← key y hy];exact h⟩,fun⟨y,hy,h⟩=>⟨y,hy,by rw[key y hy];exact h⟩⟩
 rw[e1,e2];unfold B8;cases((f.Hosts.take i).any fun y=>y.BD==x.BD&&y.aS==x.aS)<;>cases(x.IP != 0)<;>cases((f.Hosts.take i).any fun y=>y.BD==x.BD&&y.IP==x.IP)<;>rfl
set_option maxHeartbeats 4000000 in
theorem PA{β:Type}(n:Nat)(f:av)(i:Nat)(x:Host)(hx:f.Hosts[i]? =some x)(hn:f.Hosts.length<n)(hs:f.Hosts.length≤4000)(hB:f.aG.length≤4000)(hseg:f.ax.length≤4000)
 (hsn:∀s∈f.ax,s.aG.length<n∧s.aG.length≤4000) (hsub:∀b∈f.aG,b.aM≠0→gv b.ay=true) (hbr:∀b∈f.aG,0≤b.ay.IP∧b.ay.IP≤4294967295) (hr:∀h∈f.Hosts,0≤h.IP∧h.IP≤4294967295) (k:nh.sh.El→Option β):
 (nh.S n (f,(i:Int))).bind k=k (vH f (aT (fun x:Host=>(⟨x.BD,x.aS⟩:aL)) [] f.Hosts) (aT (fun x:Host=>(⟨x.BD,IntKind.wrap .u64 x.IP⟩:aL)) [] f.Hosts) i x):=by
 have:nh.S n (f,(i:Int))=some (vH f (aT (fun x:Host=>(⟨x.BD,x.aS⟩:aL)) [] f.Hosts) (aT (fun x:Host=>(⟨x.BD,IntKind.wrap .u64 x.IP⟩:aL)) [] f.Hosts) i x):=by
  show(zj f (i:Int)).run n=_;have hi:=(List.getElem?_eq_some_iff.1 hx).1;unfold vH;rw[JT f i x hx hr];have hw:=Mr (f.ax.length:Int) (by omega) (by omega)
  simp only[zj,G.run,aN,bF,bu,bq,hx,Option.bind_some,mA,HY,Bool.not_not,Bh _ _ (show(0:Int)≤(f.aG.length:Int)by omega) (show(f.aG.length:Int)≤4000 by omega),hw,gt_iff_lt]
  cases(x.aS==0)
  case true=>rfl
  cases decide (281474976710655<x.aS)
  case true=>rfl
  cases xk x.aS
  case true=>rfl
  cases hbd:(decide (0≤x.BD)&&decide (x.BD<(f.aG.length:Int)))
  case false=>rfl
  cases hsg:out x.aU (-1) ((f.ax.length:Int) - 1)
  case true=>rfl
  obtain⟨b,hb⟩:∃b,fN f.aG x.BD=some b:=by
   simp only[Bool.and_eq_true,decide_eq_true_eq]at hbd;exact⟨_,by unfold fN;rw[if_pos hbd.1];exact List.getElem?_eq_getElem (by omega)⟩
  have hbm:b∈f.aG:=by
   unfold fN at hb;split at hb
   ·exact List.mem_of_getElem? hb
   ·cases hb
  have hbd2:AF f x.BD=b:=by simp[AF,hb]
  simp only[Bool.not_true,Bool.false_eq_true,if_false,if_true];cases hs1:(x.aU != -1)
  ·simp only[Bool.false_and,Bool.false_eq_true,if_false];cases hr:mM x.aS
   all_goals simp only[Bg,hr,Bool.false_eq_true,if_false,if_true,G.run,aN,bF,hb,hbd2,Option.bind_some]
   case true=>
    cases(x.aS==1577058561)<;>rfl
   cases hm1:(x.aS==1577058561)
   case true=>rfl
   cases hg:(b.aM==0)
   case true=>
    cases hip:(x.IP==0)
    case false=>
     simp only[bne,hip,hg,fS,Bool.not_false,Bool.not_true,Bool.false_and,Bool.or_false,if_true,Bool.false_eq_true,if_false];rfl
    simp only[bne,hip,hg,fS,Bool.not_false,Bool.not_true,Bool.false_and,Bool.or_false,Bool.true_or,if_true,Bool.false_eq_true,if_false];refine wM f i x hi hn (fun j y hj hy=>?_) ?_ (r:=fun v=>some v) rfl rfl
    ·have hlt:(j:Int)<(i:Int):=by omega
     simp only[bne,hip,bF,hlt,decide_true,if_true,bq,hy,Option.bind_some,bL (show j<9223372036854775807 by omega)]
     cases(y.BD==x.BD)<;>cases(y.aS==x.aS)<;>rfl
    ·simp;rfl
   have hcl:gv b.ay=true:=hsub b hbm (by simpa using hg)
   cases hip:(x.IP==0)
   case true=>
    simp only[bne,hip,hg,fS,Bool.not_false,Bool.not_true,Bool.false_and,Bool.or_false,Bool.true_or,if_true,Bool.false_eq_true,if_false];refine wM f i x hi hn (fun j y hj hy=>?_) ?_ (r:=fun v=>some v) rfl rfl
    ·have hlt:(j:Int)<(i:Int):=by omega
     simp only[bne,hip,bF,hlt,decide_true,if_true,bq,hy,Option.bind_some,bL (show j<9223372036854775807 by omega)]
     cases(y.BD==x.BD)<;>cases(y.aS==x.aS)<;>rfl
    ·simp;rfl
   simp only[bne,hip,hg,fS,EV _ _ (hbr b hbm).1 (hbr b hbm).2 hcl,vK,Bool.not_false,Bool.not_true,Bool.false_and,Bool.true_and,Bool.or_false,Bool.false_or,if_true,Bool.false_eq_true,if_false];cases hc:cq b.ay x.IP
   case false=>simp only[Bool.false_and,Bool.and_false,Bool.not_false,if_true];rfl
   have hok:fR b.ay=true:=by simp only[cq,Bool.and_eq_true]at hc;exact hc.1
   simp only[Bool.not_true,Bool.false_eq_true,if_false,Bool.true_and];cases h1:(x.IP==b.ay.IP)
   case true=>simp only[Bool.not_true,Bool.false_and,Bool.and_false,Bool.not_false,if_true];rfl
   simp only[Bool.not_false,Bool.false_eq_true,if_false,Bool.true_and];rw[EU n b.ay hok];cases h2:(x.IP==IntKind.wrap .u32 (b.ay.IP+ya b.ay.Len))
   case true=>simp only[Bool.not_true,Bool.false_and,Bool.and_false,Bool.not_false,if_true,G.run,aN,h2];rfl
   cases h3:(x.IP==b.aM)
   case true=>simp only[Bool.not_true,Bool.false_and,Bool.and_false,Bool.not_false,if_true,G.run,aN,h2,h3,Bool.false_eq_true,if_false];rfl
   simp only[Bool.not_true,Bool.false_and,Bool.and_false,Bool.not_false,Bool.true_and,Bool.and_self,if_true,G.run,aN,h2,h3,Bool.false_eq_true,if_false];refine wM f i x hi hn (fun j y hj hy=>?_) ?_ (r:=fun v=>some v) rfl rfl
   ·have hlt:(j:Int)<(i:Int):=by omega
    simp only[bne,hip,bF,hlt,decide_true,if_true,bq,hy,Option.bind_some,bL (show j<9223372036854775807 by omega)]
    cases(y.BD==x.BD)<;>cases(y.aS==x.aS)<;>cases(y.IP==x.IP)<;>rfl
   ·simp;rfl
  ·obtain⟨s,hs⟩:∃s,fN f.ax x.aU=some s:=by
    simp only[out,Bool.or_eq_false_iff,decide_eq_false_iff_not]at hsg;have:x.aU≠ -1:=by simpa using hs1
    exact⟨_,by unfold fN;rw[if_pos (by omega)];exact List.getElem?_eq_getElem (by omega)⟩
   have hsm:s∈f.ax:=by
    unfold fN at hs;split at hs
    ·exact List.mem_of_getElem? hs
    ·cases hs
   have hsb:xK f x.aU=s.aG:=by simp[xK,hs]
   have hcm:(s.aG.any fun v=>x.BD==v)=(s.aG.any fun v=>v==x.BD):=by
    congr 1;funext v;exact Bool.eq_iff_iff.2 ⟨fun h=>beq_iff_eq.2 (beq_iff_eq.1 h).symm,fun h=>beq_iff_eq.2 (beq_iff_eq.1 h).symm⟩
   simp only[if_true,hs,Option.bind_some,hsb,Bool.true_and,hcm,GJ n s.aG x.BD (hsn s hsm).1 (hsn s hsm).2];cases(s.aG.any fun v=>v==x.BD)
   case false=>rfl
   simp only[Bool.not_true,Bool.false_eq_true,if_false];cases hr:mM x.aS
   all_goals simp only[Bg,hr,Bool.false_eq_true,if_false,if_true,G.run,aN,bF,hb,hbd2,Option.bind_some]
   case true=>
    cases(x.aS==1577058561)<;>rfl
   cases hm1:(x.aS==1577058561)
   case true=>rfl
   cases hg:(b.aM==0)
   case true=>
    cases hip:(x.IP==0)
    case false=>
     simp only[bne,hip,hg,fS,Bool.not_false,Bool.not_true,Bool.false_and,Bool.or_false,if_true,Bool.false_eq_true,if_false];rfl
    simp only[bne,hip,hg,fS,Bool.not_false,Bool.not_true,Bool.false_and,Bool.or_false,Bool.true_or,if_true,Bool.false_eq_true,if_false];refine wM f i x hi hn (fun j y hj hy=>?_) ?_ (r:=fun v=>some v) rfl rfl
    ·have hlt:(j:Int)<(i:Int):=by omega
     simp only[bne,hip,bF,hlt,decide_true,if_true,bq,hy,Option.bind_some,bL (show j<9223372036854775807 by omega)]
     cases(y.BD==x.BD)<;>cases(y.aS==x.aS)<;>rfl
    ·simp;rfl
   have hcl:gv b.ay=true:=hsub b hbm (by simpa using hg)
   cases hip:(x.IP==0)
   case true=>
    simp only[bne,hip,hg,fS,Bool.not_false,Bool.not_true,Bool.false_and,Bool.or_false,Bool.true_or,if_true,Bool.false_eq_true,if_false];refine wM f i x hi hn (fun j y hj hy=>?_) ?_ (r:=fun v=>some v) rfl rfl
    ·have hlt:(j:Int)<(i:Int):=by omega
     simp only[bne,hip,bF,hlt,decide_true,if_true,bq,hy,Option.bind_some,bL (show j<9223372036854775807 by omega)]
     cases(y.BD==x.BD)<;>cases(y.aS==x.aS)<;>rfl
    ·simp;rfl
   simp only[bne,hip,hg,fS,EV _ _ (hbr b hbm).1 (hbr b hbm).2 hcl,vK,Bool.not_false,Bool.not_true,Bool.false_and,Bool.true_and,Bool.or_false,Bool.false_or,if_true,Bool.false_eq_true,if_false];cases hc:cq b.ay x.IP
   case false=>simp only[Bool.false_and,Bool.and_false,Bool.not_false,if_true];rfl
   have hok:fR b.ay=true:=by simp only[cq,Bool.and_eq_true]at hc;exact hc.1
   simp only[Bool.not_true,Bool.false_eq_true,if_false,Bool.true_and];cases h1:(x.IP==b.ay.IP)
   case true=>simp only[Bool.not_true,Bool.false_and,Bool.and_false,Bool.not_false,if_true];rfl
   simp only[Bool.not_false,Bool.false_eq_true,if_false,Bool.true_and];rw[EU n b.ay hok];cases h2:(x.IP==IntKind.wrap .u32 (b.ay.IP+ya b.ay.Len))
   case true=>simp only[Bool.not_true,Bool.false_and,Bool.and_false,Bool.not_false,if_true,G.run,aN,h2];rfl
   cases h3:(x.IP==b.aM)
   case true=>simp only[Bool.not_true,Bool.false_and,Bool.and_false,Bool.not_false,if_true,G.run,aN,h2,h3,Bool.false_eq_true,if_false];rfl
   simp only[Bool.not_true,Bool.false_and,Bool.and_false,Bool.not_false,Bool.true_and,Bool.and_self,if_true,G.run,aN,h2,h3,Bool.false_eq_true,if_false];refine wM f i x hi hn (fun j y hj hy=>?_) ?_ (r:=fun v=>some v) rfl rfl
   ·have hlt:(j:Int)<(i:Int):=by omega
    simp only[bne,hip,bF,hlt,decide_true,if_true,bq,hy,Option.bind_some,bL (show j<9223372036854775807 by omega)]
    cases(y.BD==x.BD)<;>cases(y.aS==x.aS)<;>cases(y.IP==x.IP)<;>rfl
   ·simp;rfl
 rw[this];rfl
end Go.L
namespace Go.L
open Go.AM
theorem N7{f:av}{u:Unit}(h:lR f=.inl u):∀b∈f.aG,b.aM≠0→gv b.ay=true:=by
 intro b hb hg;have:=(B5 h).2;rw[qC]at this;obtain⟨i,hi⟩:=List.getElem?_of_mem hb;have:=this i b hi;have hg':(b.aM==0)=false:=by simpa using hg
 cases hc:gv b.ay with
 |true=>rfl
 |false=>
  unfold wL at this;simp only[hg',hc,Bool.not_false,if_true,Bool.false_eq_true,if_false]at this
  repeat' split at this
  all_goals cases this
structure N8(f:av):Prop where
 jB:∀b∈f.aG,0≤b.ay.IP∧b.ay.IP≤4294967295
 sW:∀h∈f.Hosts,0≤h.IP∧h.IP≤4294967295
theorem sY{γ:Type}{n:Nat}{α:Type}(l:List α)(E:Nat→α→Int){g:Int→Option (Int⊕((Int×Int)⊕Unit))}{k:(Int×Int)⊕Unit→Option γ}(hn:l.length<n)
 (hf:∀(j:Nat) x,l[j]? =some x→g (j:Int)=some (if(E j x != 0)=true then .inr (.inl (E j x,(j:Int)))else .inl ((j+1:Nat):Int))) (he:g (l.length:Int)=some (.inr (.inr ()))):
 (dx g n 0).bind k=(match bE E 0 l with |none=>k (.inr ()) |some (e,i)=>k (.inl (e,(i:Int)))):=by
 refine zF (fun j=>(j:Int)) l E (fun i e=>k (.inl (e,(i:Int)))) (k (.inr ())) rfl hn (fun j x hx _ hE=>?_) (fun j x hx _ hE=>?_) (fun _=>?_)
 ·refine⟨.inl (E j x,(j:Int)),?_,rfl⟩;rw[hf j x hx,if_pos (by simpa using hE)]
 ·rw[hf j x hx,if_neg (by simpa using hE)]
 ·exact⟨.inr (),he,rfl⟩
end Go.L
namespace Go.L
open Go.AM
theorem QG{β:Type}(n:Nat)(f:av)(j:Int)(k:bM.sh.El→Option β):(bM.S n (f,0,j)).bind k=(ng.S n (f,j)).bind k:=by
 have:bM.S n (f,0,j)=(ng.S n (f,j)).bind some:=by
  show(eA f 0 j).run n=_;simp only[eA,G.run,aN,if_true,show((0:Int)==0)=true from by decide,Bool.false_eq_true,if_false]
  rfl
 rw[this];cases ng.S n (f,j)<;>rfl
theorem N9{β:Type}(n:Nat)(f:av)(j:Int)(k:bM.sh.El→Option β):(bM.S n (f,1,j)).bind k=(kD.S n (f,j)).bind k:=by
 have:bM.S n (f,1,j)=(kD.S n (f,j)).bind some:=by
  show(eA f 1 j).run n=_;simp only[eA,G.run,aN,if_true,show((1:Int)==0)=false from by decide,show((1:Int)==1)=true from by decide,Bool.false_eq_true,if_false]
  rfl
 rw[this];cases kD.S n (f,j)<;>rfl
theorem Oa{β:Type}(n:Nat)(f:av)(j:Int)(k:bM.sh.El→Option β):(bM.S n (f,2,j)).bind k=(kE.S n (f,j)).bind k:=by
 have:bM.S n (f,2,j)=(kE.S n (f,j)).bind some:=by
  show(eA f 2 j).run n=_;simp only[eA,G.run,aN,if_true,show((2:Int)==0)=false from by decide,show((2:Int)==1)=false from by decide,show((2:Int)==2)=true from by decide,Bool.false_eq_true,if_false]
  rfl
 rw[this];cases kE.S n (f,j)<;>rfl
theorem ML{β:Type}(n:Nat)(f:av)(j:Int)(k:bM.sh.El→Option β):(bM.S n (f,3,j)).bind k=(jP.S n (f,j)).bind k:=by
 have:bM.S n (f,3,j)=(jP.S n (f,j)).bind some:=by
  show(eA f 3 j).run n=_;simp only[eA,G.run,aN,if_true,show((3:Int)==0)=false from by decide,show((3:Int)==1)=false from by decide,show((3:Int)==2)=false from by decide,show((3:Int)==3)=true from by decide,Bool.false_eq_true,if_false]
  rfl
 rw[this];cases jP.S n (f,j)<;>rfl
theorem QH{β:Type}(n:Nat)(f:av)(j:Int)(k:bM.sh.El→Option β):(bM.S n (f,4,j)).bind k=(nh.S n (f,j)).bind k:=by
 have:bM.S n (f,4,j)=(nh.S n (f,j)).bind some:=by
  show(eA f 4 j).run n=_;simp only[eA,G.run,aN,if_true,show((4:Int)==0)=false from by decide,show((4:Int)==1)=false from by decide,show((4:Int)==2)=false from by decide,show((4:Int)==3)=false from by decide,show((4:Int)==4)=true from by decide,Bool.false_eq_true,if_false]
  rfl
 rw[this];cases nh.S n (f,j)<;>rfl
theorem QI{β:Type}(n:Nat)(f:av)(j:Int)(k:bM.sh.El→Option β):(bM.S n (f,5,j)).bind k=(nj.S n (f,j)).bind k:=by
 have:bM.S n (f,5,j)=(nj.S n (f,j)).bind some:=by
  show(eA f 5 j).run n=_;simp only[eA,G.run,aN,if_true,show((5:Int)==0)=false from by decide,show((5:Int)==1)=false from by decide,show((5:Int)==2)=false from by decide,show((5:Int)==3)=false from by decide,show((5:Int)==4)=false from by decide,Bool.false_eq_true,if_false]
  rfl
 rw[this];cases nj.S n (f,j)<;>rfl
theorem Ob{β:Type}(n:Nat)(hn:5000≤n)(f:av)(hs:Small f)(hr:N8 f)(k:qx.sh.El→Option β):(qx.S n f).bind k=k (tT f):=by
 have w1:IntKind.wrap .i64 ((0:Int)+1)=1:=by decide
 have w2:IntKind.wrap .i64 ((1:Int)+1)=2:=by decide
 have w3:IntKind.wrap .i64 ((2:Int)+1)=3:=by decide
 have w4:IntKind.wrap .i64 ((3:Int)+1)=4:=by decide
 have w5:IntKind.wrap .i64 ((4:Int)+1)=5:=by decide
 have hseg:∀s∈f.ax,(s.aG.length<n∧s.aG.length≤4000)∧s.Leaves.length<n∧s.Leaves.length≤4000:=fun s h=>by
  have:=hs.seg s h;omega
 have:qx.S n f=some (tT f):=by
  show(xU f).run n=_;simp only[xU,G.run,aN,bu,KB,MH,gt_iff_lt,w1,w2,w3,w4,w5];unfold tT;cases hb:ew f
  case true=>
   have hF:pI f=.inr (2,GF,0):=by unfold pI;rw[hb];rfl
   rw[hF];rfl
  have hF:pI f=.inl ():=by unfold pI;rw[hb];rfl
  rw[hF];cases hb2:eE f.bC
  case true=>
   have hT:sX f=.inr (2,GG,0):=by unfold sX;rw[hb2];rfl
   rw[hT];rfl
  have hT:sX f=.inl ():=by unfold sX;rw[hb2];rfl
  rw[hT];simp only[F6,oL,show((0:Int) != 0)=false from by decide,Bool.false_eq_true,if_false]
  by_cases hfull:decide ((128:Int)<(f.Links.length:Int))=true
  ·have ho:tQ f=.inr (7,C8,128):=by unfold tQ outcome;rw[if_pos hfull]
   rw[if_pos hfull,ho];rfl
  rw[if_neg hfull];refine Eq.trans (sY f.Links (vF f (aT (fun x:cE=>(⟨x.A,x.B⟩:V2 Int)) [] f.Links)) (by have:=hs.links;omega) (fun j x hx=>?_) ?_) ?_
  ·have hlt:(j:Int)<(f.Links.length:Int):=by have:=(List.getElem?_eq_some_iff.1 hx).1;omega
   have hj:j<9223372036854775807:=by have:=(List.getElem?_eq_some_iff.1 hx).1;have:=hs.links;omega
   simp only[hlt,decide_true,if_true,QG,bL hj];refine(Pz n f j x hx (by have:=hs.links;omega) hs.links (Ae hF) _).trans ?_
   split<;>rfl
  ·simp;rfl
  cases hE:bE (vF f (aT (fun x:cE=>(⟨x.A,x.B⟩:V2 Int)) [] f.Links)) 0 f.Links with
  |some p=>
   have ho:tQ f=.inr (p.1,C8,(p.2:Int)):=by unfold tQ outcome;rw[if_neg hfull,hE]
   rw[ho];rfl
  |none=>
  have ho_link:tQ f=.inl ():=by unfold tQ outcome;rw[if_neg hfull,hE]
  rw[ho_link];clear hfull hE;simp only[oL,Sum.elim,G.run,aN,bu,gt_iff_lt,w1,w2,w3,w4,w5];by_cases hfull:decide ((16:Int)<(f.aA.length:Int))=true
  ·have ho:oC f=.inr (7,zB,16):=by unfold oC outcome;rw[if_pos hfull]
   rw[if_pos hfull,ho];rfl
  rw[if_neg hfull];refine Eq.trans (sY f.aA (pH (aT (fun x:au=>x.aZ) [] f.aA) (aT (fun x:au=>x.Target) [] f.aA)) (by have:=hs.iQ;omega) (fun j x hx=>?_) ?_) ?_
  ·have hlt:(j:Int)<(f.aA.length:Int):=by have:=(List.getElem?_eq_some_iff.1 hx).1;omega
   have hj:j<9223372036854775807:=by have:=(List.getElem?_eq_some_iff.1 hx).1;have:=hs.iQ;omega
   simp only[hlt,decide_true,if_true,N9,bL hj];refine(MI n f j x hx (by have:=hs.iQ;omega) hs.iQ _).trans ?_
   split<;>rfl
  ·simp;rfl
  cases hE:bE (pH (aT (fun x:au=>x.aZ) [] f.aA) (aT (fun x:au=>x.Target) [] f.aA)) 0 f.aA with
  |some p=>
   have ho:oC f=.inr (p.1,zB,(p.2:Int)):=by unfold oC outcome;rw[if_neg hfull,hE]
   rw[ho];rfl
  |none=>
  have ho_tenant:oC f=.inl ():=by unfold oC outcome;rw[if_neg hfull,hE]
  rw[ho_tenant];clear hfull hE;simp only[oL,Sum.elim,G.run,aN,bu,gt_iff_lt,w1,w2,w3,w4,w5];by_cases hfull:decide ((32:Int)<(f.aG.length:Int))=true
  ·have ho:lR f=.inr (7,zC,32):=by unfold lR outcome;rw[if_pos hfull]
   rw[if_pos hfull,ho];rfl
  rw[if_neg hfull];refine Eq.trans (sY f.aG (wL f (aT (fun x:BD=>x.aZ) [] f.aG) (aT (fun x:BD=>x.Target) [] f.aG)) (by have:=hs.jB;omega) (fun j x hx=>?_) ?_) ?_
  ·have hlt:(j:Int)<(f.aG.length:Int):=by have:=(List.getElem?_eq_some_iff.1 hx).1;omega
   have hj:j<9223372036854775807:=by have:=(List.getElem?_eq_some_iff.1 hx).1;have:=hs.jB;omega
   simp only[hlt,decide_true,if_true,Oa,bL hj];refine(MJ n f j x hx (by have:=hs.jB;omega) hs.jB (by have:=hs.iQ;omega) hs.iQ (hr.jB x (List.mem_of_getElem? hx)).1 (hr.jB x (List.mem_of_getElem? hx)).2 _).trans ?_
   split<;>rfl
  ·simp;rfl
  cases hE:bE (wL f (aT (fun x:BD=>x.aZ) [] f.aG) (aT (fun x:BD=>x.Target) [] f.aG)) 0 f.aG with
  |some p=>
   have ho:lR f=.inr (p.1,zC,(p.2:Int)):=by unfold lR outcome;rw[if_neg hfull,hE]
   rw[ho];rfl
  |none=>
  have ho_domain:lR f=.inl ():=by unfold lR outcome;rw[if_neg hfull,hE]
  rw[ho_domain];clear hfull hE;simp only[oL,Sum.elim,G.run,aN,bu,gt_iff_lt,w1,w2,w3,w4,w5];by_cases hfull:decide ((64:Int)<(f.ax.length:Int))=true
  ·have ho:mH f=.inr (7,jv,64):=by unfold mH outcome;rw[if_pos hfull]
   rw[if_pos hfull,ho];rfl
  rw[if_neg hfull];refine Eq.trans (sY f.ax (zD f) (by have:=hs.segments;omega) (fun j x hx=>?_) ?_) ?_
  ·have hlt:(j:Int)<(f.ax.length:Int):=by have:=(List.getElem?_eq_some_iff.1 hx).1;omega
   have hj:j<9223372036854775807:=by have:=(List.getElem?_eq_some_iff.1 hx).1;have:=hs.segments;omega
   simp only[hlt,decide_true,if_true,ML,bL hj];refine(KD n f j x hx (by have:=hs.segments;omega) hs.segments ⟨(Ae hF).1,(Ae hF).2.1⟩ hs.jB hseg _).trans ?_
   split<;>rfl
  ·simp;rfl
  cases hE:bE (zD f) 0 f.ax with
  |some p=>
   have ho:mH f=.inr (p.1,jv,(p.2:Int)):=by unfold mH outcome;rw[if_neg hfull,hE]
   rw[ho];rfl
  |none=>
  have ho_segment:mH f=.inl ():=by unfold mH outcome;rw[if_neg hfull,hE]
  rw[ho_segment];clear hfull hE;simp only[oL,Sum.elim,G.run,aN,bu,gt_iff_lt,w1,w2,w3,w4,w5];by_cases hfull:decide ((128:Int)<(f.Hosts.length:Int))=true
  ·have ho:tR f=.inr (7,Dc,128):=by unfold tR outcome;rw[if_pos hfull]
   rw[if_pos hfull,ho];rfl
  rw[if_neg hfull];refine Eq.trans (sY f.Hosts (vH f (aT (fun x:Host=>(⟨x.BD,x.aS⟩:aL)) [] f.Hosts) (aT (fun x:Host=>(⟨x.BD,IntKind.wrap .u64 x.IP⟩:aL)) [] f.Hosts)) (by have:=hs.sW;omega) (fun j x hx=>?_) ?_) ?_
  ·have hlt:(j:Int)<(f.Hosts.length:Int):=by have:=(List.getElem?_eq_some_iff.1 hx).1;omega
   have hj:j<9223372036854775807:=by have:=(List.getElem?_eq_some_iff.1 hx).1;have:=hs.sW;omega
   simp only[hlt,decide_true,if_true,QH,bL hj];refine(PA n f j x hx (by have:=hs.sW;omega) hs.sW hs.jB hs.segments (fun s h=>(hseg s h).1) (N7 ho_domain) hr.jB hr.sW _).trans ?_
   split<;>rfl
  ·simp;rfl
  cases hE:bE (vH f (aT (fun x:Host=>(⟨x.BD,x.aS⟩:aL)) [] f.Hosts) (aT (fun x:Host=>(⟨x.BD,IntKind.wrap .u64 x.IP⟩:aL)) [] f.Hosts)) 0 f.Hosts with
  |some p=>
   have ho:tR f=.inr (p.1,Dc,(p.2:Int)):=by unfold tR outcome;rw[if_neg hfull,hE]
   rw[ho];rfl
  |none=>
  have ho_host:tR f=.inl ():=by unfold tR outcome;rw[if_neg hfull,hE]
  rw[ho_host];clear hfull hE;simp only[oL,Sum.elim,G.run,aN,bu,gt_iff_lt,w1,w2,w3,w4,w5];by_cases hfull:decide ((256:Int)<(f.Leaks.length:Int))=true
  ·have ho:tS f=.inr (7,Db,256):=by unfold tS outcome;rw[if_pos hfull]
   rw[if_pos hfull,ho];rfl
  rw[if_neg hfull];refine Eq.trans (sY f.Leaks (vG f (aT (fun x:bS=>x) [] f.Leaks)) (by have:=hs.leaks;omega) (fun j x hx=>?_) ?_) ?_
  ·have hlt:(j:Int)<(f.Leaks.length:Int):=by have:=(List.getElem?_eq_some_iff.1 hx).1;omega
   have hj:j<9223372036854775807:=by have:=(List.getElem?_eq_some_iff.1 hx).1;have:=hs.leaks;omega
   simp only[hlt,decide_true,if_true,QI,bL hj];refine(Py n f j x hx (by have:=hs.leaks;omega) hs.leaks hs.iQ _).trans ?_
   split<;>rfl
  ·simp;rfl
  cases hE:bE (vG f (aT (fun x:bS=>x) [] f.Leaks)) 0 f.Leaks with
  |some p=>
   have ho:tS f=.inr (p.1,Db,(p.2:Int)):=by unfold tS outcome;rw[if_neg hfull,hE]
   rw[ho];rfl
  |none=>
  have ho_leak:tS f=.inl ():=by unfold tS outcome;rw[if_neg hfull,hE]
  rw[ho_leak];clear hfull hE;simp only[oL,Sum.elim,G.run,aN,bu,gt_iff_lt,w1,w2,w3,w4,w5];rfl
 rw[this];rfl
end Go.L
end
