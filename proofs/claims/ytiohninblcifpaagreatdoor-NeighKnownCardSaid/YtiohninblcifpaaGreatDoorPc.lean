/- Parts put together. No conditions. -/
import Derived.Test.YtiohninblcifpaaGreatDoorPv
import Derived.Test.YtiohninblcifpaaGreatDoorWx
import Derived.Test.YtiohninblcifpaaGreatDoorWLr0
set_option linter.unusedSimpArgs false
set_option linter.unusedVariables false
set_option maxRecDepth 100000
section
namespace Go.L
open Go.AM
theorem wrap_u32(x:Int):IntKind.wrap .u32 x=x % 4294967296:=by
 simp[IntKind.wrap,IntKind.bits,IntKind.signed]
theorem CL(x:BitVec 32):IntKind.wrap .u32 (x.toNat:Int)=(x.toNat:Int):=by
 rw[wrap_u32];have:=x.isLt;omega
theorem Dh(x:BitVec 32):BitVec.ofInt 32 (x.toNat:Int)=x:=by
 apply BitVec.eq_of_toNat_eq;rw[BitVec.toNat_ofInt];have:=x.isLt;omega
theorem Cg(a b m:BitVec 32):(a ^^^ b)&&& m=0↔a&&& m=b&&& m:=by
 constructor
 ·intro h;apply BitVec.eq_of_getElem_eq;intro i hi;have:=congrArg (fun v:BitVec 32=>v[i]) h
  simp only[BitVec.getElem_and,BitVec.getElem_xor,BitVec.getElem_zero]at this ⊢
  revert this;cases a[i]<;>cases b[i]<;>cases m[i]<;>simp
 ·intro h;apply BitVec.eq_of_getElem_eq;intro i hi;have:=congrArg (fun v:BitVec 32=>v[i]) h
  simp only[BitVec.getElem_and,BitVec.getElem_xor,BitVec.getElem_zero]at this ⊢
  revert this;cases a[i]<;>cases b[i]<;>cases m[i]<;>simp
theorem OC(a b m:Int):(xX (Oh a b) m==0)=(xX a m==xX b m):=by
 unfold xX Oh;simp only[CL,Dh];rw[Bool.eq_iff_iff];simp only[beq_iff_eq];constructor
 ·intro h;have h2:((BitVec.ofInt 32 a ^^^ BitVec.ofInt 32 b)&&& BitVec.ofInt 32 m)=0:=by
   apply BitVec.eq_of_toNat_eq;simpa using h
  rw[(Cg _ _ _).1 h2]
 ·intro h;have h2:(BitVec.ofInt 32 a&&& BitVec.ofInt 32 m)=(BitVec.ofInt 32 b&&& BitVec.ofInt 32 m):=by
   apply BitVec.eq_of_toNat_eq;omega
  rw[(Cg _ _ _).2 h2];rfl
section
variable {β:Type} (n:Nat)
theorem GD(p:aN)(k:ot.sh.El→Option β):(ot.S n p).bind k=k (fu p):=by
 have:ot.S n p=some (fu p):=by
  show(vP p).run n=_;simp only[vP,G.run,aK,fu,ge_iff_le];by_cases h:0≤p.Len<;>simp[h]<;>rfl
 rw[this];rfl
theorem I2(x:Int)(h0:0≤x)(h1:x≤32)(k:nv.sh.El→Option β):(nv.S n x).bind k=k (rI x):=by
 have:nv.S n x=some (EP x):=by
  show(xJ x).run n=_;simp only[xJ,G.run,aK,yH];rw[if_pos (by rw[wrap32 h0 h1];simp;omega)]
  rfl
 rw[this,Ki h0 h1];rfl
theorem ye(p:aN)(ip:Int)(k:iE.sh.El→Option β):(iE.S n (p,ip)).bind k=k (dO p ip):=by
 have:iE.S n (p,ip)=some (dO p ip):=by
  show(rU p ip).run n=_;simp only[rU,G.run,aK,GD,dO,OC];by_cases h:fu p=true
  ·simp only[h,if_true,Bool.true_and];simp only[fu,Bool.and_eq_true,decide_eq_true_eq]at h;simp only[I2 n p.Len h.1 h.2];rfl
  ·simp[h];rfl
 rw[this];rfl
end
end Go.L
end
section
namespace Go.L
open Go.AM
theorem lE{α γ:Type}{n:Nat}(l:List α)(i:Nat)(p:α→Bool){f:Int→Option (Int⊕(Unit⊕Unit))}{k:Unit⊕Unit→Option γ}(hn:l.length<n)(hi:i≤l.length)
 (hf:∀(j:Nat) x,j<i→l[j]? =some x→f (j:Int)=some (if p x=true then .inr (.inl ())else .inl ((j+1:Nat):Int))) (he:f (i:Int)=some (.inr (.inr ()))):
 (bI f n 0).bind k=if(l.take i).any p=true then k (.inl ())else k (.inr ()):=by
 have hl:(l.take i).length=i:=by simp;omega
 refine Eq.trans (yb (fun j=>(j:Int)) (l.take i) (fun _ x=>if p x=true then 1 else 0) (fun _ _=>k (.inl ())) (k (.inr ())) rfl (by omega) (fun j x hx _ hE=>?_) (fun j x hx _ hE=>?_) (fun _=>?_)) ?_
 ·have hj:=(List.getElem?_eq_some_iff.1 hx).1;rw[hl]at hj;rw[List.getElem?_take,if_pos hj]at hx;refine⟨.inl (),?_,rfl⟩;rw[hf j x hj hx];cases h:p x with
  |true=>rfl
  |false=>simp[h]at hE
 ·have hj:=(List.getElem?_eq_some_iff.1 hx).1;rw[hl]at hj;rw[List.getElem?_take,if_pos hj]at hx;rw[hf j x hj hx];cases h:p x with
  |true=>simp[h]at hE
  |false=>rfl
 ·exact⟨.inr (),by rw[hl];exact he,rfl⟩
 ·generalize l.take i=m;have key:∀(m:List α) (j:Nat),(match bw (fun _ x=>if p x=true then(1:Int)else 0) j m with |none=>k (.inr ()) |some (_,_)=>k (.inl ()))=if m.any p=true then k (.inl ())else k (.inr ()):=by
   intro m;induction m with
   |nil=>intro j;rfl
   |cons x xs ih=>
    intro j;simp only[bw,List.any_cons];by_cases h:p x=true
    ·simp only[h,if_true,ne_eq,Bool.true_or];rfl
    ·have h':p x=false:=by simpa using h
     simp only[h',Bool.false_eq_true,if_false,ne_eq,not_true_eq_false,Bool.false_or];exact ih (j+1)
  exact key m 0
theorem yf{α K:Type}[DecidableEq K](key:α→K)(l:List α)(i:Nat)(x:α)(hx:l[i]? =some x):(aW key [] l).getD i false=(l.take i).any fun y=>decide (key y=key x):=by
 rw[List.getD_eq_getElem?_getD,AO,hx];simp only[Option.map_some,List.nil_append,Option.getD_some];apply Bool.eq_iff_iff.2;simp only[decide_eq_true_eq,List.mem_map,List.any_eq_true]
theorem kV{β:Type}(n:Nat)(x lo hi:Int)(k:bq.sh.El→Option β):(bq.S n (x,lo,hi)).bind k=k (!out x lo hi):=by
 have:bq.S n (x,lo,hi)=some (!out x lo hi):=by
  show(ny x lo hi).run n=_;simp only[ny,G.run,aK,out,ge_iff_le];by_cases h:lo≤x
  ·have h2:¬x<lo:=by omega
   have h3:decide (x≤hi)= !decide (hi<x):=by by_cases h:x≤hi<;>simp[h]<;>omega
   simp only[h,h2,decide_true,decide_false,if_true,Bool.false_or,h3];rfl
  ·have h2:x<lo:=by omega
   simp only[h,h2,decide_true,decide_false,if_false,Bool.true_or,Bool.not_true,Bool.false_eq_true];rfl
 rw[this];rfl
def Fa(b:Bool):Int:=match b with |true=>2|false=>0
theorem JJ{β:Type}(n:Nat)(f:aD)(k:oS.sh.El→Option β):(oS.S n f).bind k=k (Fa (dx f)):=by
 have:oS.S n f=some (Fa (dx f)):=by
  show(tQ f).run n=_;simp only[tQ,G.run,aK,kV,Bool.not_not,gt_iff_lt,if_true];by_cases h1:out f.Leaves 1 32=true
  ·have:dx f=true:=by simp[dx,h1]
   rw[this,if_pos h1];rfl
  rw[if_neg h1];by_cases h2:out f.cZ 0 32=true
  ·have:dx f=true:=by simp[dx,h2]
   rw[this,if_pos h2];rfl
  rw[if_neg h2];by_cases h3:decide (32<IntKind.wrap .i64 (f.Leaves+f.cZ))=true
  ·have:dx f=true:=by simp only[dx,h3,Bool.or_true,Bool.true_or]
   rw[this,if_pos h3];rfl
  rw[if_neg h3];by_cases h4:out f.vm 0 2=true
  ·have:dx f=true:=by simp only[dx,h4,Bool.or_true,Bool.true_or]
   rw[this,if_pos h4];rfl
  rw[if_neg h4];by_cases h5:out f.oI 0 1=true
  ·have:dx f=true:=by simp only[dx,h5,Bool.or_true,Bool.true_or]
   rw[this,if_pos h5];rfl
  rw[if_neg h5];by_cases h6:out f.qY 0 1=true
  ·have:dx f=true:=by simp only[dx,h6,Bool.or_true]
   rw[this,if_pos h6];rfl
  rw[if_neg h6];simp only[Bool.not_eq_true]at h1 h2 h3 h4 h5 h6;have:dx f=false:=by simp only[dx,h1,h2,h3,h4,h5,h6,Bool.or_self]
  rw[this];rfl
 rw[this];rfl
theorem LO{β:Type}(n:Nat)(t:bT)(k:qp.sh.El→Option β):(qp.S n t).bind k=k (Fa (dy t)):=by
 have:qp.S n t=some (Fa (dy t)):=by
  show(uP t).run n=_;simp only[uP,G.run,aK,kV,Bool.not_not,gt_iff_lt,if_true];by_cases h1:out t.pF 1 100=true
  ·have:dy t=true:=by simp[dy,h1]
   rw[this,if_pos h1];rfl
  rw[if_neg h1];by_cases h2:out t.y9 3 1000=true
  ·have:dy t=true:=by simp[dy,h2]
   rw[this,if_pos h2];rfl
  rw[if_neg h2];by_cases h3:out t.BK 1 10000=true
  ·have:dy t=true:=by simp only[dy,h3,Bool.or_true,Bool.true_or]
   rw[this,if_pos h3];rfl
  rw[if_neg h3];by_cases h4:out t.oH 0 1000=true
  ·have:dy t=true:=by simp only[dy,h4,Bool.or_true,Bool.true_or]
   rw[this,if_pos h4];rfl
  rw[if_neg h4];by_cases h5:out t.vl 1 100=true
  ·have:dy t=true:=by simp only[dy,h5,Bool.or_true,Bool.true_or]
   rw[this,if_pos h5];rfl
  rw[if_neg h5];by_cases h6:out t.Window 1 10000=true
  ·have:dy t=true:=by simp only[dy,h6,Bool.or_true]
   rw[this,if_pos h6];rfl
  rw[if_neg h6];simp only[Bool.not_eq_true]at h1 h2 h3 h4 h5 h6;have:dy t=false:=by simp only[dy,h1,h2,h3,h4,h5,h6,Bool.or_self]
  rw[this];rfl
 rw[this];rfl
theorem LP{β:Type}(n:Nat)(f:aD)(i:Nat)(x:aU)(hx:f.aG[i]? =some x)(hn:f.aG.length<n)(hs:f.aG.length≤4000)(k:qq.sh.El→Option β):
 (qq.S n (f,(i:Int))).bind k=k (qv (aW (fun x:aU=>x.cg) [] f.aG) (aW (fun x:aU=>x.Target) [] f.aG) i x):=by
 have:qq.S n (f,(i:Int))=some (qv (aW (fun x:aU=>x.cg) [] f.aG) (aW (fun x:aU=>x.Target) [] f.aG) i x):=by
  show(uQ f (i:Int)).run n=_;have hi:=(List.getElem?_eq_some_iff.1 hx).1;simp only[uQ,G.run,aK,bP,bg,hx,Option.bind_some,qv,yf _ _ _ _ hx,gt_iff_lt];cases decide (x.cg<1)
  case true=>rfl
  cases decide (16777215<x.cg)
  case true=>rfl
  cases(x.Target==0)
  case true=>rfl
  simp only[Bool.false_eq_true,if_false,if_true];refine Eq.trans (lE f.aG i (fun y=>y.cg==x.cg||y.Target==x.Target) hn (by omega) (fun j y hj hy=>?_) ?_) ?_
  ·have hlt:(j:Int)<(i:Int):=by omega
   simp only[hlt,decide_true,if_true,bg,hy,Option.bind_some,bR (show j<9223372036854775807 by omega)]
   cases(y.cg==x.cg)<;>cases(y.Target==x.Target)<;>rfl
  ·simp;rfl
  ·have e:((f.aG.take i).any fun y=>y.cg==x.cg||y.Target==x.Target)=(((f.aG.take i).any fun y=>decide (y.cg=x.cg))||((f.aG.take i).any fun y=>decide (y.Target=x.Target))):=by
    generalize f.aG.take i=m;induction m with
    |nil=>rfl
    |cons a m ih=>
     simp only[List.any_cons,ih];have h1:(a.cg==x.cg)=decide (a.cg=x.cg):=rfl;have h2:(a.Target==x.Target)=decide (a.Target=x.Target):=rfl;rw[h1,h2];cases decide (a.cg=x.cg)<;>cases decide (a.Target=x.Target)<;>simp
   rw[e];cases((f.aG.take i).any fun y=>decide (y.cg=x.cg))<;>cases((f.aG.take i).any fun y=>decide (y.Target=x.Target))<;>rfl
 rw[this];rfl
end Go.L
namespace Go.L
open Go.AM
theorem vY{x:Int}(h0:0≤x)(h1:x≤4294967295):((BitVec.ofInt 32 x).toNat:Int)=x:=by
 rw[BitVec.toNat_ofInt];omega
theorem PF{p:aN}(h0:0≤p.IP)(h1:p.IP≤4294967295)(hc:fC p=true):IntKind.wrap .u32 (p.IP+xY p.Len)=Qq p.IP (xY p.Len):=by
 simp only[fC,fu,Bool.and_eq_true,decide_eq_true_eq,beq_iff_eq]at hc;obtain⟨⟨l0,l1⟩,hb⟩:=hc;rw[← Ki l0 l1]at hb;generalize hlow:xY p.Len=low at*;have hlr:0≤low∧low≤4294967295:=by
  rw[← hlow];unfold xY;rw[wrap_u32];omega
 unfold xX at hb;rw[CL]at hb;have hm:BitVec.ofInt 32 (EP p.Len)=BitVec.ofInt 32 4294967295 ^^^ BitVec.ofInt 32 low:=by
  unfold EP;rw[hlow,CL,Dh]
 rw[hm]at hb;have hA:(BitVec.ofInt 32 p.IP&&& (BitVec.ofInt 32 4294967295 ^^^ BitVec.ofInt 32 low))=BitVec.ofInt 32 p.IP:=by
  apply BitVec.eq_of_toNat_eq;have:=vY h0 h1;omega
 have hz:BitVec.ofInt 32 p.IP&&& BitVec.ofInt 32 low=0:=by
  apply BitVec.eq_of_getElem_eq;intro i hi;have:=congrArg (fun v:BitVec 32=>v[i]) hA
  have hone:(BitVec.ofInt 32 4294967295)[i]=true:=by
   have:BitVec.ofInt 32 4294967295=BitVec.allOnes 32:=by decide
   simp only[this,BitVec.getElem_allOnes]
  simp only[BitVec.getElem_and,BitVec.getElem_xor,hone,BitVec.getElem_zero]at this ⊢
  revert this;cases(BitVec.ofInt 32 p.IP)[i]<;>cases(BitVec.ofInt 32 low)[i]<;>simp
 unfold Qq;rw[CL,← BitVec.add_eq_or_of_and_eq_zero _ _ hz,wrap_u32,BitVec.toNat_add];have e1:=vY h0 h1;have e2:=vY hlr.1 hlr.2;omega
end Go.L
namespace Go.L
open Go.AM
section
variable {β:Type} (n:Nat)
theorem Ng(p:aN)(k:rH.sh.El→Option β):(rH.S n p).bind k=if fu p=true then k (⟨xX p.IP (rI p.Len),p.Len⟩,0)else k (⟨0,0⟩,2):=by
 have:rH.S n p=some (if fu p=true then(⟨xX p.IP (rI p.Len),p.Len⟩,0)else(⟨0,0⟩,2)):=by
  show(vQ p).run n=_;simp only[vQ,G.run,aK,GD];by_cases h:fu p=true
  ·simp only[h,Bool.not_true,Bool.false_eq_true,if_false,if_true];simp only[fu,Bool.and_eq_true,decide_eq_true_eq]at h;rw[I2 n p.Len h.1 h.2];rfl
  ·simp[h];rfl
 rw[this];split<;>rfl
theorem Ch(p:aN)(k:ou.sh.El→Option β):(ou.S n p).bind k=k (fC p):=by
 have:ou.S n p=some (fC p):=by
  show(vR p).run n=_;simp only[vR,G.run,aK,Ng,fC];by_cases h:fu p=true<;>simp[h]<;>rfl
 rw[this];rfl
theorem I3(p:aN)(hp:fu p=true)(k:pO.sh.El→Option β):(pO.S n p).bind k=k (IntKind.wrap .u32 (p.IP+xY p.Len)):=by
 have:pO.S n p=some (IntKind.wrap .u32 (p.IP+xY p.Len)):=by
  show(xN p).run n=_;simp only[fu,Bool.and_eq_true,decide_eq_true_eq]at hp;simp only[xN,G.run,aK,yH];rw[if_pos (by rw[wrap32 hp.1 hp.2];simp;omega)]
  rfl
 rw[this];rfl
theorem JK(p q:aN)(k:oT.sh.El→Option β):(oT.S n (p,q)).bind k=k (dO p q.IP||dO q p.IP):=by
 have:oT.S n (p,q)=some (dO p q.IP||dO q p.IP):=by
  show(tS p q).run n=_;simp only[tS,G.run,aK,ye];by_cases h:dO p q.IP=true
  ·simp[h];rfl
  ·simp only[h,Bool.false_eq_true,if_false,Bool.false_or];simp at h;simp[h];rfl
 rw[this];rfl
theorem PG(x:Int):((IntKind.wrap .u64 (((BitVec.ofInt 64 x)&&& (BitVec.ofInt 64 1)).toNat:Int))==(1:Int))=((IntKind.wrap .u64 (((BitVec.ofInt 64 x)&&& (BitVec.ofInt 64 1)).toNat:Int)) != 0):=by
 have h1:((BitVec.ofInt 64 x)&&& (BitVec.ofInt 64 1)).toNat≤1:=by
  rw[BitVec.toNat_and];have:(BitVec.ofInt 64 1).toNat=1:=by decide
  rw[this];exact Nat.and_le_right
 generalize ((BitVec.ofInt 64 x)&&& (BitVec.ofInt 64 1)).toNat=m at*;have:m=0∨m=1:=by omega
 rcases this with rfl |rfl<;>decide
theorem G0(m:Int)(k:mP.sh.El→Option β):(mP.S n m).bind k=k (vn m):=by
 have:mP.S n m=some (vn m):=by
  show(qN m).run n=_;have e:=PG (Int.fdiv m ((2:Int) ^ (min (Int.toNat (40:Int)) (IntKind.bits .u64))));simp only[qN,G.run,aK,vn];rw[← e];by_cases h:m≤281474976710655
  ·simp only[h,decide_true,if_true,Bool.true_and];rfl
  ·simp only[h,decide_false,if_false,Bool.false_and,Bool.false_eq_true];rfl
 rw[this];rfl
theorem FP(m:Int)(k:l8.sh.El→Option β):(l8.S n m).bind k=if kB m=true then k (IntKind.wrap .i64 (IntKind.wrap .u64 (m - 2199023255552)),true)else k (0,false):=by
 have:l8.S n m=some (if kB m=true then(IntKind.wrap .i64 (IntKind.wrap .u64 (m - 2199023255552)),true)else(0,false)):=by
  show(pP m).run n=_;simp only[pP,G.run,aK,kB];by_cases h:m<2199023255552
  ·simp[h];rfl
  ·by_cases h2:m≥2199023255584
   ·simp[h,h2];rfl
   ·simp only[h,h2,decide_false,Bool.not_false,Bool.and_self,Bool.false_eq_true,if_false,if_true];rfl
 rw[this];split<;>rfl
theorem A9(l:List Int)(hn:l.length<n)(hs:l.length≤4000)(k:kN.sh.El→Option β):(kN.S n l).bind k=k (sr l):=by
 have e:kN.S n l=iJ.S n l:=rfl;exact(congrArg (fun o=>Option.bind o k) e).trans (sv n l hn hs k)
theorem Kq(l:List Int)(v:Int)(hn:l.length<n)(hs:l.length≤4000)(k:q9.sh.El→Option β):(q9.S n (l,v)).bind k=k (l.any fun x=>x==v):=by
 have:q9.S n (l,v)=some (l.any fun x=>x==v):=by
  show(zg l v).run n=_;simp only[zg,G.run,aK,bP,bK];refine Eq.trans (lE l l.length (fun x=>x==v) hn (by omega) (fun j y hj hy=>?_) ?_) ?_
  ·have hlt:(j:Int)<(l.length:Int):=by omega
   simp only[hlt,decide_true,if_true,bg,hy,Option.bind_some,bR (show j<9223372036854775807 by omega)]
   cases(y==v)<;>rfl
  ·simp;rfl
  ·rw[List.take_length];cases(l.any fun x=>x==v)<;>rfl
 rw[this];rfl
end
end Go.L
namespace Go.L
open Go.AM
theorem Ab(x m:Int)(h0:0≤m)(h1:m≤4000):out x 0 (IntKind.wrap .i64 (m - 1))= !(decide (0≤x)&&decide (x<m)):=by
 rw[Lr m h0 h1];unfold out;apply Bool.eq_iff_iff.2;simp only[Bool.or_eq_true,decide_eq_true_eq,Bool.not_eq_true',Bool.and_eq_false_iff,decide_eq_false_iff_not];omega
theorem I4{α:Type}(l:List α)(p q:α→Bool):(l.any fun y=>p y||q y)=(l.any p||l.any q):=by
 induction l with
 |nil=>rfl
 |cons a m ih=>
  simp only[List.any_cons,ih];cases p a<;>cases q a<;>simp
theorem OD{β:Type}(n:Nat)(f:aD)(i:Nat)(x:fW)(hx:f.dn[i]? =some x)(hn:f.dn.length<n)(hs:f.dn.length≤4000)(ht:f.aG.length≤4000)(k:tV.sh.El→Option β):
 (tV.S n (f,(i:Int))).bind k=k (wD f (aW (fun x:fW=>x) [] f.dn) i x):=by
 have:tV.S n (f,(i:Int))=some (wD f (aW (fun x:fW=>x) [] f.dn) i x):=by
  show(xP f (i:Int)).run n=_;have hi:=(List.getElem?_eq_some_iff.1 hx).1;simp only[xP,G.run,aK,bP,bK,bg,hx,Option.bind_some,wD,yf _ _ _ _ hx,kV,Ch,Bool.not_not,Ab _ _ (show(0:Int)≤(f.aG.length:Int)by omega) (show(f.aG.length:Int)≤4000 by omega)]
  cases(decide (0≤x.From)&&decide (x.From<(f.aG.length:Int)))
  case false=>rfl
  cases(decide (0≤x.To)&&decide (x.To<(f.aG.length:Int)))
  case false=>rfl
  cases(x.From==x.To)
  case true=>rfl
  cases fC x.aN
  case false=>rfl
  simp only[Bool.not_true,Bool.false_eq_true,if_false,if_true];refine Eq.trans (lE f.dn i (fun y=>decide (y=x)) hn (by omega) (fun j y hj hy=>?_) ?_) ?_
  ·have hlt:(j:Int)<(i:Int):=by omega
   have e:decide (y=x)=(y.From==x.From&&(y.To==x.To&&(y.aN.IP==x.aN.IP&&(y.aN.Len==x.aN.Len&&true)))):=by
    rw[Bool.eq_iff_iff];rcases y with⟨_,_,⟨_,_⟩⟩;rcases x with⟨_,_,⟨_,_⟩⟩;simp
   simp only[hlt,decide_true,if_true,bg,hy,Option.bind_some,bR (show j<9223372036854775807 by omega),e]
   split<;>rfl
  ·simp;rfl
  ·cases((f.dn.take i).any fun y=>decide (y=x))<;>rfl
 rw[this];rfl
theorem OE{β:Type}(n:Nat)(f:aD)(i:Nat)(x:dG)(hx:f.Links[i]? =some x)(hn:f.Links.length<n)(hs:f.Links.length≤4000)(hl:1≤f.Leaves∧f.Leaves≤32∧0≤f.cZ∧f.cZ≤32)(k:tR.sh.El→Option β):
 (tR.S n (f,(i:Int))).bind k=k (wC f (aW (fun x:dG=>(⟨x.A,x.B⟩:V2 Int)) [] f.Links) i x):=by
 have:tR.S n (f,(i:Int))=some (wC f (aW (fun x:dG=>(⟨x.A,x.B⟩:V2 Int)) [] f.Links) i x):=by
  show(xM f (i:Int)).run n=_;have hi:=(List.getElem?_eq_some_iff.1 hx).1;have hw:IntKind.wrap .i64 (f.Leaves+f.cZ)=f.Leaves+f.cZ:=wrap_i64 (by omega) (by omega)
  have hw2:IntKind.wrap .i64 (f.Leaves+f.cZ - 1)=f.Leaves+f.cZ - 1:=wrap_i64 (by omega) (by omega)
  have e1:out x.B f.Leaves (f.Leaves+f.cZ - 1)= !(decide (x.B≥f.Leaves)&&decide (x.B<f.Leaves+f.cZ)):=by
   unfold out;apply Bool.eq_iff_iff.2;simp only[Bool.or_eq_true,decide_eq_true_eq,Bool.not_eq_true',Bool.and_eq_false_iff,decide_eq_false_iff_not];omega
  have e2:(decide (x.uF<1)||decide (1000<x.uF))=out x.uF 1 1000:=rfl;simp only[xM,G.run,aK,bP,bK,bg,hx,Option.bind_some,wC,yf _ _ _ _ hx,kV,Bool.not_not,Ab _ _ (show(0:Int)≤f.Leaves by omega) (show f.Leaves≤4000 by omega),hw,hw2,e1,e2]
  cases(decide (0≤x.A)&&decide (x.A<f.Leaves))
  case false=>rfl
  cases decide (x.B≥f.Leaves)
  case false=>rfl
  cases decide (x.B<f.Leaves+f.cZ)
  case false=>rfl
  cases out x.uF 1 1000
  case true=>rfl
  simp only[Bool.not_true,Bool.and_self,Bool.false_eq_true,if_false,if_true];refine Eq.trans (lE f.Links i (fun y=>decide ((⟨y.A,y.B⟩:V2 Int)=⟨x.A,x.B⟩)) hn (by omega) (fun j y hj hy=>?_) ?_) ?_
  ·have hlt:(j:Int)<(i:Int):=by omega
   have e:decide ((⟨y.A,y.B⟩:V2 Int)=⟨x.A,x.B⟩)=(y.A==x.A&&y.B==x.B):=by
    rw[Bool.eq_iff_iff];simp
   simp only[hlt,decide_true,if_true,bg,hy,Option.bind_some,bR (show j<9223372036854775807 by omega),e]
   cases(y.A==x.A)<;>cases(y.B==x.B)<;>rfl
  ·simp;rfl
  ·cases((f.Links.take i).any fun y=>decide ((⟨y.A,y.B⟩:V2 Int)=⟨x.A,x.B⟩))<;>rfl
 rw[this];rfl
theorem RK{α:Type}(a b c:Bool)(u v:α):(if a=true then if b=true then if c=true then some u else some v else some v else some v)=some (if(a&&(b&&c))=true then u else v):=by
 cases a<;>cases b<;>cases c<;>rfl
theorem I5(p:aN)(g:Int)(h0:0≤p.IP)(h1:p.IP≤4294967295)(hc:fC p=true):vH p g=(dO p g&&(g != p.IP&&g != IntKind.wrap .u32 (p.IP+xY p.Len))):=by
 rw[PF h0 h1 hc];rfl
theorem LQ{β:Type}(n:Nat)(f:aD)(i:Nat)(x:BD)(hx:f.aI[i]? =some x)(hn:f.aI.length<n)(hs:f.aI.length≤4000)(hnt:f.aG.length<n)(ht:f.aG.length≤4000)(h0:0≤x.aJ.IP)(h1:x.aJ.IP≤4294967295)(k:qt.sh.El→Option β):
 (qt.S n (f,(i:Int))).bind k=k (ya f (aW (fun x:BD=>x.cg) [] f.aI) (aW (fun x:BD=>x.Target) [] f.aI) i x):=by
 have:qt.S n (f,(i:Int))=some (ya f (aW (fun x:BD=>x.cg) [] f.aI) (aW (fun x:BD=>x.Target) [] f.aI) i x):=by
  show(uR f (i:Int)).run n=_;have hi:=(List.getElem?_eq_some_iff.1 hx).1;have d1:∀a b:Int,decide (a=b)=(a==b):=fun _ _=>rfl
  simp only[uR,G.run,aK,bP,bK,bg,hx,Option.bind_some,ya,yf _ _ _ _ hx,kV,Ch,Bool.not_not,Ab _ _ (show(0:Int)≤(f.aG.length:Int)by omega) (show(f.aG.length:Int)≤4000 by omega),gt_iff_lt]
  cases(decide (0≤x.aU)&&decide (x.aU<(f.aG.length:Int)))
  case false=>rfl
  cases decide (x.cg<1)
  case true=>rfl
  cases decide (16777215<x.cg)
  case true=>rfl
  cases(x.Target==0)
  case true=>rfl
  simp only[Bool.not_true,Bool.false_eq_true,if_false,if_true];refine Eq.trans (lE f.aG f.aG.length (fun y=>y.cg==x.cg||y.Target==x.Target) hnt (by omega) (fun j y hj hy=>?_) ?_) ?_
  ·have hlt:(j:Int)<(f.aG.length:Int):=by omega
   simp only[hlt,decide_true,if_true,bg,hy,Option.bind_some,bR (show j<9223372036854775807 by omega)]
   cases(y.cg==x.cg)<;>cases(y.Target==x.Target)<;>rfl
  ·simp;rfl
  rw[List.take_length,I4];cases hT1:(f.aG.any fun y=>y.cg==x.cg)
  case true=>simp only[Bool.true_or,if_true,ite_self];rfl
  cases hT2:(f.aG.any fun y=>y.Target==x.Target)
  case true=>simp only[Bool.or_true,if_true,ite_self];rfl
  simp only[Sum.elim,G.run,aK,Bool.or_self,Bool.false_eq_true,if_false,if_true];refine Eq.trans (lE f.aI i (fun y=>y.cg==x.cg||y.Target==x.Target) hn (by omega) (fun j y hj hy=>?_) ?_) ?_
  ·have hlt:(j:Int)<(i:Int):=by omega
   simp only[bP,G.run,aK,hlt,decide_true,if_true,bg,hy,Option.bind_some,bR (show j<9223372036854775807 by omega)]
   cases(y.cg==x.cg)<;>cases(y.Target==x.Target)<;>rfl
  ·simp;rfl
  rw[I4];simp only[d1];cases hV1:((f.aI.take i).any fun y=>y.cg==x.cg)
  case true=>simp only[Bool.true_or,if_true,ite_self];rfl
  cases hV2:((f.aI.take i).any fun y=>y.Target==x.Target)
  case true=>simp only[Bool.or_true,if_true,ite_self];rfl
  simp only[Bool.or_self,Bool.false_eq_true,if_false,Sum.elim,G.run,aK,Ch,kV,Bool.not_not];cases(x.aZ==0)
  case true=>
   simp only[if_true];cases(x.aJ.IP==0&&(x.aJ.Len==0&&true))<;>rfl
  simp only[Bool.false_eq_true,if_false];cases hcl:fC x.aJ
  case false=>rfl
  simp only[Bool.not_true,Bool.false_eq_true,if_false];cases out x.aJ.Len 8 30
  case true=>rfl
  have hok:fu x.aJ=true:=by simp only[fC,Bool.and_eq_true]at hcl;exact hcl.1
  simp only[Bool.false_eq_true,if_false,ye,I5 _ _ h0 h1 hcl];cases dO x.aJ x.aZ
  case false=>rfl
  simp only[Bool.not_true,Bool.false_eq_true,if_false,Bool.true_and,bne];cases(x.aZ==x.aJ.IP)
  case true=>rfl
  simp only[Bool.not_false,Bool.false_eq_true,if_false,Bool.true_and,Bool.not_not];rw[I3 n x.aJ hok];cases(x.aZ==IntKind.wrap .u32 (x.aJ.IP+xY x.aJ.Len))
  case true=>rfl
  simp only[G.run,aK,Bool.false_eq_true,if_false];refine Eq.trans (lE f.aI i (tZ x.aU x.aJ.IP x.aJ.Len) hn (by omega) (fun j y hj hy=>?_) ?_) ?_
  ·have hlt:(j:Int)<(i:Int):=by omega
   simp only[bP,G.run,aK,JK,tZ,hlt,decide_true,if_true,bg,hy,Option.bind_some,bR (show j<9223372036854775807 by omega)]
   exact RK _ _ _ _ _
  ·simp;rfl
  ·cases((f.aI.take i).any (tZ x.aU x.aJ.IP x.aJ.Len))<;>rfl
 rw[this];rfl
end Go.L
namespace Go.L
open Go.AM
theorem LS{α γ:Type}{n:Nat}(l:List α)(i:Nat)(p:α→Bool){f:Int×Int→Option ((Int×Int)⊕Int)}{k:Int→Option γ}(hn:l.length<n)(hs:l.length≤4000)(hi:i<l.length)
 (hf:∀(j:Nat) x,j≤i→l[j]? =some x→∀c:Nat,c≤4000→f ((c:Int),(j:Int))=some (.inl (if p x=true then((c+1:Nat):Int)else(c:Int),((j+1:Nat):Int))))
 (he:∀c:Int,f (c,((i+1:Nat):Int))=some (.inr c)):(bI f n (0,0)).bind k=k ((((l.take (i+1)).countP p:Nat)):Int):=by
 have main:bI f n (0,0)=some ((((l.take (i+1)).countP p:Nat)):Int):=by
  have hl:(l.take (i+1)).length=i+1:=by simp;omega
  refine EK (fun j (c:Nat)=>((c:Int),(j:Int))) (l.take (i+1)) (fun j=>((l.take (i+1)).take j).countP p) _ (fun j x hx=>?_) ?_ n (by omega)
  ·have hj:=(List.getElem?_eq_some_iff.1 hx).1;rw[hl]at hj;have hx':=hx;rw[List.getElem?_take,if_pos hj]at hx;have hc:((l.take (i+1)).take j).countP p≤4000:=by
    refine Nat.le_trans List.countP_le_length ?_;simp;omega
   rw[hf j x (by omega) hx _ hc]
   clear hc;generalize l.take (i+1)=m at hx';rw[List.take_add_one,hx',List.countP_append];by_cases h:p x=true<;>simp[h]
  ·rw[hl,List.take_of_length_le (by omega)]
   exact he _
 rw[main];rfl
theorem JL{β:Type}(n:Nat)(f:aD)(i:Nat)(x:aH)(hx:f.au[i]? =some x)(hn:f.au.length<n)(hs:f.au.length≤4000)(hL:1≤f.Leaves∧f.Leaves≤32)(hB:f.aI.length≤4000)
 (hsn:∀s∈f.au,(s.aI.length<n∧s.aI.length≤4000)∧s.Leaves.length<n∧s.Leaves.length≤4000) (k:oU.sh.El→Option β):
 (oU.S n (f,(i:Int))).bind k=k (AQ f i x):=by
 have:oU.S n (f,(i:Int))=some (AQ f i x):=by
  show(tT f (i:Int)).run n=_;have hi:=(List.getElem?_eq_some_iff.1 hx).1;have hxm:=List.mem_of_getElem? hx;obtain⟨⟨hb1,hb2⟩,hl1,hl2⟩:=hsn x hxm;simp only[tT,G.run,aK,bP,bK,bg,hx,Option.bind_some,AQ,kV,Bool.not_not,Ab _ _ (show(0:Int)≤f.Leaves by omega) (show f.Leaves≤4000 by omega)]
  cases((x.Leaves.length:Int)==0)
  case true=>rfl
  cases((x.aI.length:Int)==0)
  case true=>rfl
  simp only[Bool.false_eq_true,if_false,if_true];refine Eq.trans (lE x.Leaves x.Leaves.length (fun y=> !(decide (0≤y)&&decide (y<f.Leaves))) hl1 (by omega) (fun j y hj hy=>?_) ?_) ?_
  ·have hlt:(j:Int)<(x.Leaves.length:Int):=by omega
   simp only[hlt,decide_true,if_true,bg,hy,Option.bind_some,bR (show j<9223372036854775807 by omega)]
   split<;>rfl
  ·simp;rfl
  rw[List.take_length];cases(x.Leaves.any fun n=> !(decide (0≤n)&&decide (n<f.Leaves)))
  case true=>rfl
  simp only[Bool.false_eq_true,if_false,if_true,Sum.elim,G.run,aK,bP,bK,kV,Bool.not_not,Ab _ _ (show(0:Int)≤(f.aI.length:Int)by omega) (show(f.aI.length:Int)≤4000 by omega)]
  refine Eq.trans (lE x.aI x.aI.length (fun y=> !(decide (0≤y)&&decide (y<(f.aI.length:Int)))) hb1 (by omega) (fun j y hj hy=>?_) ?_) ?_
  ·have hlt:(j:Int)<(x.aI.length:Int):=by omega
   simp only[hlt,decide_true,if_true,bg,hy,Option.bind_some,bR (show j<9223372036854775807 by omega)]
   split<;>rfl
  ·simp;rfl
  rw[List.take_length];cases(x.aI.any fun n=> !(decide (0≤n)&&decide (n<(f.aI.length:Int))))
  case true=>rfl
  simp only[Bool.false_eq_true,if_false,if_true,Sum.elim,G.run,aK,bP,bK,A9 n _ hl1 hl2,A9 n _ hb1 hb2];cases sr x.Leaves
  case false=>rfl
  cases sr x.aI
  case false=>rfl
  simp only[Bool.not_true,Bool.false_eq_true,if_false,if_true];refine Eq.trans (lE x.Leaves x.Leaves.length (fun y=>decide (32<(((f.au.take i).countP fun s=>s.Leaves.contains y:Nat):Int)+1)) hl1 (by omega) (fun j y hj hy=>?_) ?_) ?_
  ·have hlt:(j:Int)<(x.Leaves.length:Int):=by omega
   simp only[hlt,decide_true,if_true,bg,hy,Option.bind_some,bR (show j<9223372036854775807 by omega)]
   refine Eq.trans (LS f.au i (fun s=>s.Leaves.contains y) hn hs hi (fun m s hm hms c hc=>?_) (fun c=>?_)) ?_
   ·have hle:(m:Int)≤(i:Int):=by omega
    have hsm:=List.mem_of_getElem? hms;simp only[hle,decide_true,if_true,bg,hms,Option.bind_some,bR (show m<9223372036854775807 by omega),bR (show c<9223372036854775807 by omega)]
    rw[Kq n s.Leaves y (hsn s hsm).2.1 (hsn s hsm).2.2];have e:(s.Leaves.any fun v=>v==y)=s.Leaves.contains y:=by
     rw[List.any_beq']
    rw[e];cases s.Leaves.contains y<;>rfl
   ·have hle:¬(((i+1:Nat):Int)≤(i:Int)):=by omega
    simp only[hle,decide_false,Bool.false_eq_true,if_false];rfl
   ·have hc:((f.au.take (i+1)).countP fun s=>s.Leaves.contains y)=((f.au.take i).countP fun s=>s.Leaves.contains y)+1:=by
     rw[List.take_add_one,hx,List.countP_append];have:x.Leaves.contains y=true:=by
      rw[List.contains_iff_mem];exact List.mem_of_getElem? hy
     simp[this];exact List.mem_of_getElem? hy
    rw[hc];simp only[gt_iff_lt,Int.natCast_add,Int.cast_ofNat_Int];split<;>rfl
  ·simp;rfl
  ·rw[List.take_length];cases(x.Leaves.any fun n=>decide (32<(((f.au.take i).countP fun s=>s.Leaves.contains n:Nat):Int)+1))<;>rfl
 rw[this];rfl
end Go.L
namespace Go.L
open Go.AM
def pX(f:aD)(i:Nat)(x:Host):Int:=
 if(((f.bh.take i).any fun y=>y.BD==x.BD&&y.bN==x.bN)||(x.IP != 0&&((f.bh.take i).any fun y=>y.BD==x.BD&&y.IP==x.IP)))=true then 11 else 0
theorem G1{α:Type}(l:List α)(b:Bool)(p:α→Bool):(b&&l.any p)=l.any fun y=>b&&p y:=by
 cases b
 ·simp
 ·simp
theorem OG{γ:Type}{n:Nat}(f:aD)(i:Nat)(x:Host)(hi:i<f.bh.length)(hn:f.bh.length<n){g:Int→Option (Int⊕(Unit⊕Unit))}{k:Unit⊕Unit→Option γ}
 (hf:∀(j:Nat) y,j<i→f.bh[j]? =some y→g (j:Int)=some (if((y.BD==x.BD)&&((y.bN==x.bN)||((x.IP != 0)&&(y.IP==x.IP))))=true then .inr (.inl ())else .inl ((j+1:Nat):Int))) (he:g (i:Int)=some (.inr (.inr ())))
 {r:Int→Option γ} (h1:k (.inl ())=r 11) (h2:k (.inr ())=r 0):(bI g n 0).bind k=r (pX f i x):=by
 refine Eq.trans (lE f.bh i (fun y=>(y.BD==x.BD)&&((y.bN==x.bN)||((x.IP != 0)&&(y.IP==x.IP)))) hn (by omega) hf he) ?_
 have e:((f.bh.take i).any fun y=>(y.BD==x.BD)&&((y.bN==x.bN)||((x.IP != 0)&&(y.IP==x.IP))))=(((f.bh.take i).any fun y=>y.BD==x.BD&&y.bN==x.bN)||(x.IP != 0&&((f.bh.take i).any fun y=>y.BD==x.BD&&y.IP==x.IP))):=by
  rw[G1,← I4];congr 1
  funext y
  cases(y.BD==x.BD)<;>cases(y.bN==x.bN)<;>cases(x.IP != 0)<;>cases(y.IP==x.IP)<;>rfl
 rw[e];unfold pX;split
 ·exact h1
 ·exact h2
end Go.L
namespace Go.L
open Go.AM
theorem I6(f:aD)(i:Nat)(x:Host)(hx:f.bh[i]? =some x)(hr:∀h∈f.bh,0≤h.IP∧h.IP≤4294967295):
 (if(aW (fun x:Host=>(⟨x.BD,x.bN⟩:aY)) [] f.bh).getD i false=true then(11:Int)else if(x.IP != 0&&(aW (fun x:Host=>(⟨x.BD,IntKind.wrap .u64 x.IP⟩:aY)) [] f.bh).getD i false)=true then 11 else 0)=pX f i x:=by
 have w:∀h∈f.bh,IntKind.wrap .u64 h.IP=h.IP:=by
  intro h hh;have:=hr h hh;have e:IntKind.wrap .u64 h.IP=h.IP % 18446744073709551616:=by simp[IntKind.wrap,IntKind.bits,IntKind.signed]
  rw[e];omega
 have hxm:=List.mem_of_getElem? hx;simp only[yf _ _ _ _ hx];have e1:((f.bh.take i).any fun y=>decide ((⟨y.BD,y.bN⟩:aY)=⟨x.BD,x.bN⟩))=((f.bh.take i).any fun y=>y.BD==x.BD&&y.bN==x.bN):=by
  congr 1
  funext y
  rw[Bool.eq_iff_iff];simp
 have e2:((f.bh.take i).any fun y=>decide ((⟨y.BD,IntKind.wrap .u64 y.IP⟩:aY)=⟨x.BD,IntKind.wrap .u64 x.IP⟩))=((f.bh.take i).any fun y=>y.BD==x.BD&&y.IP==x.IP):=by
  have key:∀y∈f.bh.take i,decide ((⟨y.BD,IntKind.wrap .u64 y.IP⟩:aY)=⟨x.BD,IntKind.wrap .u64 x.IP⟩)=(y.BD==x.BD&&y.IP==x.IP):=by
   intro y hy;rw[w y (List.mem_of_mem_take hy),w x hxm,Bool.eq_iff_iff];simp
  rw[Bool.eq_iff_iff,List.any_eq_true,List.any_eq_true];exact⟨fun⟨y,hy,h⟩=>⟨y,hy,by rw[← key y hy];exact h⟩,fun⟨y,hy,h⟩=>⟨y,hy,by rw[key y hy];exact h⟩⟩
 rw[e1,e2];unfold pX;cases((f.bh.take i).any fun y=>y.BD==x.BD&&y.bN==x.bN)<;>cases(x.IP != 0)<;>cases((f.bh.take i).any fun y=>y.BD==x.BD&&y.IP==x.IP)<;>rfl
theorem O6{n:Nat}(f:aD)(i:Nat)(x:Host)(hi:i<f.bh.length)(hn:f.bh.length<n)(hs:f.bh.length≤4000):(ML f i x).run n=some (pX f i x):=by
 simp only[ML,G.run,aK,bP,if_true];refine OG f i x hi hn (fun j y hj hy=>?_) ?_ (r:=fun v=>some v) rfl rfl
 ·have hlt:(j:Int)<(i:Int):=by omega
  simp only[hlt,decide_true,if_true,bg,hy,Option.bind_some,bR (show j<9223372036854775807 by omega)]
  cases(y.BD==x.BD)<;>cases(y.bN==x.bN)<;>cases(x.IP != 0)<;>cases(y.IP==x.IP)<;>rfl
 ·simp;rfl
theorem O7{n:Nat}(f:aD)(i:Nat)(x:Host)(b:BD)(hi:i<f.bh.length)(hn:f.bh.length<n)(hs:f.bh.length≤4000)(hip:b.aZ=0→x.IP=0)(hsub:b.aZ≠0→fC b.aJ=true)(hbr:0≤b.aJ.IP∧b.aJ.IP≤4294967295):
 (Kg f i x b).run n=some (if(!fA b x.IP)=true then 3 else pX f i x):=by
 simp only[Kg,G.run,aK,O6 f i x hi hn hs,if_true];by_cases hg:b.aZ=0
 ·simp[hg,hip hg,fA];rfl
 cases hp:(x.IP==0)
 case true=>simp[hg,eq_of_beq hp,fA];rfl
 have hcl:=hsub hg;simp only[bne,hp,beq_eq_false_iff_ne.2 hg,fA,I5 _ _ hbr.1 hbr.2 hcl,ye,Bool.not_false,Bool.true_and,Bool.false_or,if_true];cases hc:dO b.aJ x.IP
 case false=>simp;rfl
 have hok:fu b.aJ=true:=by simp only[dO,Bool.and_eq_true]at hc;exact hc.1
 simp only[Bool.not_true,Bool.false_eq_true,if_false,Bool.true_and];rw[I3 n b.aJ hok];cases h1:(x.IP==b.aJ.IP)<;>cases h2:(x.IP==IntKind.wrap .u32 (b.aJ.IP+xY b.aJ.Len))<;>cases h3:(x.IP==b.aZ)<;>simp[G.run,aK,h2,h3,O6 f i x hi hn hs]<;>rfl
theorem O8{n:Nat}(f:aD)(i:Nat)(x:Host)(b:BD)(hb:ez f.aI x.BD=some b)(hi:i<f.bh.length)(hn:f.bh.length<n)(hs:f.bh.length≤4000)(hsub:b.aZ≠0→fC b.aJ=true)(hbr:0≤b.aJ.IP∧b.aJ.IP≤4294967295):
 (OZ f i x).run n=some (if(x.bN==1577058561)=true then 3 else if kB x.bN=true then 3 else if(!fA b x.IP)=true then 3 else pX f i x):=by
 have key:(x.bN==1577058561)=false→kB x.bN=false→(if(b.aZ==0)=true then if(x.IP != 0)=true then some (3:Int)else(Kg f i x b).run n else(Kg f i x b).run n)=some (if(!fA b x.IP)=true then 3 else pX f i x):=fun _ _=>by
  by_cases hg:b.aZ=0
  ·by_cases hp:x.IP=0
   ·simp only[O7 f i x b hi hn hs (fun _=>hp) hsub hbr,hg,hp];simp
   ·simp[hg,hp,fA]
  ·simp only[O7 f i x b hi hn hs (fun h=>absurd h hg) hsub hbr];simp[hg]
 simp only[OZ,FP,G.run,aK,bP,hb,Option.bind_some,if_true];cases h1:(x.bN==1577058561)<;>cases h2:kB x.bN<;>simp only[G.run,aK,bP,hb,Option.bind_some,h1,if_true,if_false,Bool.false_eq_true]
 exact key h1 h2
 all_goals rfl
theorem OH{β:Type}(n:Nat)(f:aD)(i:Nat)(x:Host)(hx:f.bh[i]? =some x)(hn:f.bh.length<n)(hs:f.bh.length≤4000)(hB:f.aI.length≤4000)(hseg:f.au.length≤4000)
 (hsn:∀s∈f.au,s.aI.length<n∧s.aI.length≤4000) (hsub:∀b∈f.aI,b.aZ≠0→fC b.aJ=true) (hbr:∀b∈f.aI,0≤b.aJ.IP∧b.aJ.IP≤4294967295) (hr:∀h∈f.bh,0≤h.IP∧h.IP≤4294967295) (k:tU.sh.El→Option β):
 (tU.S n (f,(i:Int))).bind k=k (wE f (aW (fun x:Host=>(⟨x.BD,x.bN⟩:aY)) [] f.bh) (aW (fun x:Host=>(⟨x.BD,IntKind.wrap .u64 x.IP⟩:aY)) [] f.bh) i x):=by
 have:tU.S n (f,(i:Int))=some (wE f (aW (fun x:Host=>(⟨x.BD,x.bN⟩:aY)) [] f.bh) (aW (fun x:Host=>(⟨x.BD,IntKind.wrap .u64 x.IP⟩:aY)) [] f.bh) i x):=by
  show(xO f (i:Int)).run n=_;have hi:=(List.getElem?_eq_some_iff.1 hx).1;unfold wE;rw[I6 f i x hx hr];have hw:=Lr (f.au.length:Int) (by omega) (by omega)
  simp only[xO,G.run,aK,bP,bK,bg,hx,Option.bind_some,kV,G0,Bool.not_not,Ab _ _ (show(0:Int)≤(f.aI.length:Int)by omega) (show(f.aI.length:Int)≤4000 by omega),hw,gt_iff_lt]
  cases(x.bN==0)
  case true=>rfl
  cases decide (281474976710655<x.bN)
  case true=>rfl
  cases vn x.bN
  case true=>rfl
  cases hbd:(decide (0≤x.BD)&&decide (x.BD<(f.aI.length:Int)))
  case false=>rfl
  cases hsg:out x.aH (-1) ((f.au.length:Int) - 1)
  case true=>rfl
  obtain⟨b,hb⟩:∃b,ez f.aI x.BD=some b:=by
   simp only[Bool.and_eq_true,decide_eq_true_eq]at hbd;exact⟨_,by unfold ez;rw[if_pos hbd.1];exact List.getElem?_eq_getElem (by omega)⟩
  have hbm:b∈f.aI:=by
   unfold ez at hb;split at hb
   ·exact List.mem_of_getElem? hb
   ·cases hb
  have hbd2:zi f x.BD=b:=by simp[zi,hb]
  have hsb:b.aZ≠0→fC b.aJ=true:=hsub b hbm;simp only[Bool.not_true,Bool.false_eq_true,if_false,if_true,hbd2];cases hs1:(x.aH != -1)
  ·simp only[Bool.false_and,Bool.false_eq_true,if_false];exact O8 f i x b hb hi hn hs hsb (hbr b hbm)
  ·obtain⟨s,hs'⟩:∃s,ez f.au x.aH=some s:=by
    simp only[out,Bool.or_eq_false_iff,decide_eq_false_iff_not]at hsg;have:x.aH≠ -1:=by simpa using hs1
    exact⟨_,by unfold ez;rw[if_pos (by omega)];exact List.getElem?_eq_getElem (by omega)⟩
   have hsm:s∈f.au:=by
    unfold ez at hs';split at hs'
    ·exact List.mem_of_getElem? hs'
    ·cases hs'
   have hsb2:vI f x.aH=s.aI:=by simp[vI,hs']
   have hcm:(s.aI.any fun v=>x.BD==v)=(s.aI.any fun v=>v==x.BD):=by
    congr 1;funext v;exact Bool.eq_iff_iff.2 ⟨fun h=>beq_iff_eq.2 (beq_iff_eq.1 h).symm,fun h=>beq_iff_eq.2 (beq_iff_eq.1 h).symm⟩
   simp only[if_true,hs',Option.bind_some,hsb2,Bool.true_and,hcm,Kq n s.aI x.BD (hsn s hsm).1 (hsn s hsm).2];cases(s.aI.any fun v=>v==x.BD)
   case false=>rfl
   simp only[Bool.not_true,Bool.false_eq_true,if_false];exact O8 f i x b hb hi hn hs hsb (hbr b hbm)
 rw[this];rfl
end Go.L
namespace Go.L
open Go.AM
theorem Nh{f:aD}{u:Unit}(h:u0 f=.inl u):∀b∈f.aI,b.aZ≠0→fC b.aJ=true:=by
 intro b hb hg;have:=(AU h).2;rw[ox]at this;obtain⟨i,hi⟩:=List.getElem?_of_mem hb;have:=this i b hi;have hg':(b.aZ==0)=false:=by simpa using hg
 cases hc:fC b.aJ with
 |true=>rfl
 |false=>
  unfold ya at this;simp only[hg',hc,Bool.not_false,if_true,Bool.false_eq_true,if_false]at this
  repeat' split at this
  all_goals cases this
structure Ni(f:aD):Prop where
 nE:∀b∈f.aI,0≤b.aJ.IP∧b.aJ.IP≤4294967295
 yI:∀h∈f.bh,0≤h.IP∧h.IP≤4294967295
theorem wL{n:Nat}{α:Type}{f:aD}{i m:Int}{s:ByteArray}{g:G prog (Sh.El (.one (Prod Int (Prod ByteArray Int))))}{r:Int×ByteArray×Int}(l:List α)(E:Nat→α→Int)(hn:l.length<n)(hs:l.length≤4000)
 (hel:∀(j:Nat) x,l[j]? =some x→yC.S n (f,i,(j:Int))=some (E j x)) (hg:outcome s m (decide (m<(l.length:Int))) (bw E 0 l)=.inl ()→g.run n=some r):
 (yD f i l.length m s g).run n=some (ua (outcome s m (decide (m<(l.length:Int))) (bw E 0 l)) r):=by
 simp only[yD,G.run,aK,if_true,gt_iff_lt];unfold outcome at hg ⊢;cases hm:decide (m<(l.length:Int))
 case true=>rfl
 rw[hm]at hg;simp only[Bool.false_eq_true,if_false]at hg ⊢;refine Eq.trans (yb (fun j=>(j:Int)) l E (fun i e=>some (e,s,(i:Int))) (g.run n) rfl hn (fun j x hx _ hE=>?_) (fun j x hx _ hE=>?_) (fun _=>?_)) ?_
 ·have hj:=(List.getElem?_eq_some_iff.1 hx).1;refine⟨.inl (E j x,(j:Int)),?_,rfl⟩;simp only[show(j:Int)<(l.length:Int)by omega,decide_true,if_true,hel j x hx,Option.bind_some]
  exact if_pos (show(E j x != 0)=true by simpa using hE)
 ·have hj:=(List.getElem?_eq_some_iff.1 hx).1;simp only[show(j:Int)<(l.length:Int)by omega,decide_true,if_true,hel j x hx,Option.bind_some,bR (show j<9223372036854775807 by omega)]
  exact if_neg (show ¬(E j x != 0)=true by simpa using hE)
 ·exact⟨.inr (),by simp,rfl⟩
 ·cases hE:bw E 0 l with
  |none=>rw[hE]at hg;exact hg rfl
  |some p=>rfl
end Go.L
namespace Go.L
open Go.AM
theorem Nj{β:Type}(n:Nat)(hn:5000≤n)(f:aD)(hs:Small f)(hr:Ni f)(k:lJ.sh.El→Option β):(lJ.S n f).bind k=k (ri f):=by
 have hseg:∀s∈f.au,(s.aI.length<n∧s.aI.length≤4000)∧s.Leaves.length<n∧s.Leaves.length≤4000:=fun s h=>by
  have:=hs.seg s h;omega
 obtain⟨h1,h2,h3,h4,h5,h6⟩:f.Links.length≤4000∧f.aG.length≤4000∧f.aI.length≤4000∧f.au.length≤4000∧f.bh.length≤4000∧f.dn.length≤4000:=⟨hs.links,hs.sM,hs.nE,hs.segments,hs.yI,hs.EU⟩;have:lJ.S n f=some (ri f):=by
  show(vS f).run n=_;simp only[vS,G.run,aK,bK,JJ,LO];unfold ri oL wK;cases hb:dx f
  case true=>rfl
  cases hb2:dy f.bT
  case true=>rfl
  have hF:oL f=.inl ():=by unfold oL;rw[hb];rfl
  simp only[Fa,ua,show((0:Int) != 0)=false from by decide,Bool.false_eq_true,if_false]
  refine wL f.Links _ (by omega) h1 (fun j x hx=>OE n f j x hx (by omega) h1 (yK hF) some) fun _=>?_
  refine wL f.aG _ (by omega) h2 (fun j x hx=>LP n f j x hx (by omega) h2 some) fun _=>?_
  refine wL f.aI _ (by omega) h3 (fun j x hx=>LQ n f j x hx (by omega) h3 (by omega) h2 (hr.nE x (List.mem_of_getElem? hx)).1 (hr.nE x (List.mem_of_getElem? hx)).2 some) fun hD=>?_
  refine wL f.au _ (by omega) h4 (fun j x hx=>JL n f j x hx (by omega) h4 ⟨(yK hF).1,(yK hF).2.1⟩ h3 hseg some) fun _=>?_
  refine wL f.bh _ (by omega) h5 (fun j x hx=>OH n f j x hx (by omega) h5 h3 h4 (fun s h=>(hseg s h).1) (Nh hD) hr.nE hr.yI some) fun _=>?_
  refine wL f.dn _ (by omega) h6 (fun j x hx=>OD n f j x hx (by omega) h6 h2 some) fun _=>rfl
 rw[this];rfl
end Go.L
end
