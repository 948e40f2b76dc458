/- Parts put together. No conditions. -/
import Derived.Test.YtiohninblcifpaaGreatDoorPo
import Derived.Test.YtiohninblcifpaaGreatDoorPv
set_option linter.unusedSimpArgs false
set_option linter.unusedVariables false
set_option maxRecDepth 100000
section
namespace Go.L
open Go.AM
theorem Dh{α β:Type}{g:Nat→α→List β}{l:List α}{y:β}{i:Nat}{x:α}(h:l[i]? =some x)(hy:y∈g i x):y∈fU g l:=by
 unfold fU;exact List.mem_flatMap.2 ⟨(x,i),List.mk_mem_zipIdx_iff_getElem?.2 h,hy⟩
theorem Bi{K V:Type}[DecidableEq K]{eq:K→K→Bool}(heq:∀a b,eq a b=true↔a=b)(k:K):∀(l:List (K×V)) (m:List (K×V)),(∀v,(k,v)∉l)→getM eq k (l.foldl (fun m p=>bN eq p.1 p.2 m) m)=getM eq k m
 | [],m,_=>rfl
 |p::l,m,h=>by
  rw[List.foldl_cons,Bi heq k l _ fun v hv=>h v (List.mem_cons_of_mem _ hv),rU heq,if_neg]
  rintro rfl;exact h p.2 List.mem_cons_self
theorem yd{K V:Type}[DecidableEq K]{eq:K→K→Bool}(heq:∀a b,eq a b=true↔a=b)(k:K)(v:V):∀(l:List (K×V)) (m:List (K×V)),(k,v)∈l→(∀v',(k,v')∈l→v'=v)→getM eq k (l.foldl (fun m p=>bN eq p.1 p.2 m) m)=some v
 | [],m,h,_=>(by cases h)
 |p::l,m,h,hu=>by
  rw[List.foldl_cons];by_cases hm:(k,v)∈l
  ·exact yd heq k v l _ hm fun v' hv=>hu v' (List.mem_cons_of_mem _ hv)
  ·rw[Bi heq k l _ fun v' hv=>hm (by rw[← hu v' (List.mem_cons_of_mem _ hv)];exact hv)]
   rcases List.mem_cons.1 h with e |e
   ·rw[← e,rU heq,if_pos rfl]
   ·exact absurd e hm
section
variable {f:av} (hv:Vf f)
include hv
theorem R3{i:Nat}{b:BD}(h:f.aG[i]? =some b):getM cm b.Target (vE f)=some (i:Int):=by
 unfold vE iA;refine yd NO _ _ _ _ (Dh h (List.mem_singleton.2 rfl)) fun v' hv'=>?_
 obtain⟨j,x,h1,h2⟩:=sg hv';simp only[List.mem_singleton,Prod.mk.injEq]at h2;have e1:=(hv.bd i b h).2.2.2.1;have e2:=(hv.bd j x h1).2.2.2.1;omega
theorem Ry{i:Nat}{t:au}(h:f.aA[i]? =some t):getM cm t.Target (Hr f)=some (i:Int):=by
 unfold Hr iA;refine yd NO _ _ _ _ (Dh h (List.mem_singleton.2 rfl)) fun v' hv'=>?_
 obtain⟨j,x,h1,h2⟩:=sg hv';simp only[List.mem_singleton,Prod.mk.injEq]at h2;have e1:=hv.Af i t h;have e2:=hv.Af j x h1;rw[e1,e2]at h2;simp only at h2;omega
theorem R4{i:Nat}{b:BD}(h:f.aG[i]? =some b):getM cm b.Target (Hr f)=none:=by
 cases hg:getM cm b.Target (Hr f)with
 |none=>rfl
 |some t=>
  obtain⟨j,x,h1,h2⟩:=sg (xg NO _ _ _ hg);simp only[List.mem_singleton,Prod.mk.injEq]at h2;have e1:=(hv.bd i b h).2.2.2.1;have e2:=hv.Af j x h1;have hi:=(List.getElem?_eq_some_iff.1 h).1;have:=hv.jB.2;rw[e2]at h2;simp only at h2;omega
theorem Rz{i:Nat}{t:au}(h:f.aA[i]? =some t):getM cm t.Target (vE f)=none:=by
 cases hg:getM cm t.Target (vE f)with
 |none=>rfl
 |some d=>
  obtain⟨j,x,h1,h2⟩:=sg (xg NO _ _ _ hg);simp only[List.mem_singleton,Prod.mk.injEq]at h2;have e1:=(hv.bd j x h1).2.2.2.1;have e2:=hv.Af i t h;have hi:=(List.getElem?_eq_some_iff.1 h1).1;have:=hv.jB.2;rw[e2]at h2;simp only at h2;omega
theorem Lb{i j:Nat}{d e:BD}(h1:f.aG[i]? =some d)(h2:f.aG[j]? =some e)(g1:d.aM≠0)(g2:e.aM≠0)(hp:d.ay=e.ay):i=j:=by
 obtain⟨-,-,-,-,q1⟩:=hv.bd i d h1;obtain⟨-,-,-,-,q2⟩:=hv.bd j e h2;rcases q1 with q1 |q1
 ·exact absurd q1.2 g1
 rcases q2 with q2 |q2
 ·exact absurd q2.2 g2
 rw[q1.1,q2.1]at hp;simp only[af.mk.injEq]at hp;omega
theorem Lc{i:Nat}{d:BD}(h1:f.aG[i]? =some d)(g1:d.aM≠0):d.ay.Len=24:=by
 obtain⟨-,-,-,-,q1⟩:=hv.bd i d h1;rcases q1 with q1 |q1
 ·exact absurd q1.2 g1
 ·rw[q1.1]
theorem HB{leaf:Int}{up:List Bool}{K:iw}{r:bZ}{bd t:Nat}{b:BD}{x:au}(hb:f.aG[bd]? =some b)(hg:b.aM≠0)(ht:f.aA[t]? =some x)(hbt:b.au=(t:Int))
 (hr:rY r=true) (htg:K.tg r=[b.Target,x.Target]) (hcon:K.dH b.ay r.N.IP=true):
 Aa f leaf up K r=(mw f K.lo (iW f leaf) (xG f leaf up K.es) (vE f) (t:Int) (fun p=>K.dH p r.N.IP) (K.sq r) (K.rt r) [b.Target,x.Target] r).toList∧
 nu f (vE f) (t:Int) r.N.IP (fun p=>K.dH p r.N.IP) [b.Target,x.Target]=some (bd:Int):=by
 constructor
 ·unfold Aa qz;rw[htg,hr];simp only[Bool.true_or,if_true,List.flatMap_cons,List.flatMap_nil,List.append_nil];unfold iu;rw[R4 hv hb,Ry hv ht,hr];simp only[List.nil_append,if_true]
 ·unfold nu;simp only[List.foldl_cons,List.foldl_nil];have e:sR f (vE f) (t:Int) r.N.IP (fun p=>K.dH p r.N.IP) none b.Target=some (bd:Int):=by
   unfold sR;rw[R3 hv hb];simp only[Ij,bq,hb,hbt,hcon,BEq.rfl,Bool.true_and,Bool.and_true];rw[if_neg (by decide),if_pos (by simpa using hg)]
  rw[e];unfold sR;rw[Rz hv ht]
end
theorem Ld{f:av}{leaf:Int}{up:List Bool}{rs:List bZ}{K:iw}(hi:∀c∈fW f leaf up K rs,∀d∈fW f leaf up K rs,kI c=kI d→c=d){x:az}:x∈mz (ri f leaf up K rs)↔∃c∈fW f leaf up K rs,c.az=x:=by
 refine⟨Qy,?_⟩;rintro⟨c,hc,rfl⟩;obtain⟨y,h1,h2,h3,_⟩:=NS hc;rw[← hi y h1 c hc h2];exact h3
def JU(f:av)(leaf:Int)(x:az):Prop:=∃(i:Nat) (d:BD),f.aG[i]? =some d∧d.aM≠0∧(iW f leaf)[i]? =some true∧x=(vC i d).az
theorem nY{f:av}{leaf:Int}{c:aj}:c∈qY f (iW f leaf)↔∃(i:Nat) (d:BD),f.aG[i]? =some d∧d.aM≠0∧(iW f leaf)[i]? =some true∧c=vC i d:=by
 refine⟨NR,?_⟩;rintro⟨i,d,h1,h2,h3,rfl⟩;refine Dh h1 ?_;unfold oJ;rw[if_pos (by rw[h3];simpa using h2)]
 exact List.mem_singleton.2 rfl
theorem Di{f:av}(hv:Vf f)(hl:f.Leaks=[]){leaf:Int}{up:List Bool}{K:iw}{x:az}:x∈ny f leaf up [] K↔JU f leaf x:=by
 rw[JB,hl];show x∈mz (ri f leaf up K [])↔_;have hc:fW f leaf up K []=qY f (iW f leaf):=by unfold fW;simp
 rw[Ld,hc]
 ·constructor
  ·rintro⟨c,h,rfl⟩;obtain⟨i,d,h1,h2,h3,rfl⟩:=nY.1 h;exact⟨i,d,h1,h2,h3,rfl⟩
  ·rintro⟨i,d,h1,h2,h3,rfl⟩;exact⟨vC i d,nY.2 ⟨i,d,h1,h2,h3,rfl⟩,rfl⟩
 ·intro c h d h' hp;rw[hc]at h h';obtain⟨i,d,h1,h2,h3,rfl⟩:=nY.1 h;obtain⟨j,e,k1,k2,k3,rfl⟩:=nY.1 h';unfold kI vC at hp;simp only[aa.mk.injEq]at hp;have:=Lb hv h1 k1 h2 k2 hp.2;subst this;rw[h1]at k1;cases k1;rfl
theorem Oe{f:av}(hv:Vf f)(hl:f.Leaks=[]){leaf:Int}{up:List Bool}{K:iw}{r:bZ}{bd t:Nat}{b:BD}{y:au}(hb:f.aG[bd]? =some b)(hg:b.aM≠0)(ht:f.aA[t]? =some y)(hbt:b.au=(t:Int))
 (hr:rY r=true) (htg:K.tg r=[b.Target,y.Target]) (hcon:K.dH b.ay r.N.IP=true) {x:az}:x∈ny f leaf up [r] K↔JU f leaf x∨
  ∃c,mw f K.lo (iW f leaf) (xG f leaf up K.es) (vE f) (t:Int) (fun p=>K.dH p r.N.IP) (K.sq r) (K.rt r) [b.Target,y.Target] r=some c∧c.az=x:=by
 rw[JB,hl];show x∈mz (ri f leaf up K [r])↔_;have hc:fW f leaf up K [r]=qY f (iW f leaf)++(mw f K.lo (iW f leaf) (xG f leaf up K.es) (vE f) (t:Int) (fun p=>K.dH p r.N.IP) (K.sq r) (K.rt r) [b.Target,y.Target] r).toList:=by
  unfold fW;rw[List.flatMap_cons,List.flatMap_nil,List.append_nil,(HB hv hb hg ht hbt hr htg hcon).1]
 have far:∀c d,c∈qY f (iW f leaf)→mw f K.lo (iW f leaf) (xG f leaf up K.es) (vE f) (t:Int) (fun p=>K.dH p r.N.IP) (K.sq r) (K.rt r) [b.Target,y.Target] r=some d→kI c≠kI d:=by
  intro c d h h' hp;obtain⟨i,e,h1,h2,h3,rfl⟩:=nY.1 h;have q:=(Eo h').2.2.2;unfold kI vC at hp;simp only[aa.mk.injEq]at hp;have:=Lc hv h1 h2;rw[hp.2,q]at this;exact absurd (show(32:Int)=24 from this) (by decide)
 rw[Ld,hc]
 ·constructor
  ·rintro⟨c,h,rfl⟩;rcases List.mem_append.1 h with h |h
   ·obtain⟨i,d,h1,h2,h3,rfl⟩:=nY.1 h;exact .inl ⟨i,d,h1,h2,h3,rfl⟩
   ·exact .inr ⟨c,by simpa using h,rfl⟩
  ·rintro(⟨i,d,h1,h2,h3,rfl⟩ |⟨c,h,rfl⟩)
   ·exact⟨vC i d,List.mem_append_left _ (nY.2 ⟨i,d,h1,h2,h3,rfl⟩),rfl⟩
   ·exact⟨c,List.mem_append_right _ (by simp[h]),rfl⟩
 ·intro c h d h' hp;rw[hc]at h h';rcases List.mem_append.1 h with h |h<;>rcases List.mem_append.1 h' with h' |h'
  ·obtain⟨i,d,h1,h2,h3,rfl⟩:=nY.1 h;obtain⟨j,e,k1,k2,k3,rfl⟩:=nY.1 h';unfold kI vC at hp;simp only[aa.mk.injEq]at hp;have:=Lb hv h1 k1 h2 k2 hp.2;subst this;rw[h1]at k1;cases k1;rfl
  ·exact absurd hp (far c d h (by simpa using h'))
  ·exact absurd hp.symm (far d c h' (by simpa using h))
  ·rw[Option.mem_toList]at h h';exact Option.some.inj (h.symm.trans h')
end Go.L
end
section
namespace Go.L
open Go.AM
def P5:Bool:=(List.range 4).all fun i=>(List.range 4).all fun j=>(List.range 256).all fun a=>cq ⟨167772160+(i:Int)*65536,24⟩ (167772160+(j:Int)*65536+(a:Int))==decide (i=j)
theorem MN:P5=true:=by kernel_rfl
theorem QJ{i j a:Nat}(hi:i<4)(hj:j<4)(ha:a<256):cq ⟨167772160+(i:Int)*65536,24⟩ (167772160+(j:Int)*65536+(a:Int))=decide (i=j):=by
 have h:=MN;unfold P5 at h;simp only[List.all_eq_true,List.mem_range,beq_iff_eq]at h;exact h i hi j hj a ha
theorem JV{f:av}(hv:Vf f){i j:Nat}{d b:BD}(h1:f.aG[i]? =some d)(h2:f.aG[j]? =some b)(g1:d.aM≠0)(g2:b.aM≠0){a:Int}(a0:0≤a)(a1:a<256):cq d.ay (b.ay.IP+a)=decide (i=j):=by
 obtain⟨-,-,-,-,q1⟩:=hv.bd i d h1;obtain⟨-,-,-,-,q2⟩:=hv.bd j b h2;rcases q1 with q1 |q1
 ·exact absurd q1.2 g1
 rcases q2 with q2 |q2
 ·exact absurd q2.2 g2
 have hi:=(List.getElem?_eq_some_iff.1 h1).1;have hj:=(List.getElem?_eq_some_iff.1 h2).1;have:=hv.jB.2;rw[q1.1,q2.1];have:=QJ (i:=i) (j:=j) (a:=a.toNat) (by omega) (by omega) (by omega)
 rw[show((a.toNat:Nat):Int)=a by omega]at this
 exact this
def qU(t ip:Int)(x:az):Prop:=x.au=t∧cq x.af ip=true
def B9:az:=Go.L.az.mk 0 (Go.L.af.mk 0 0) 0 0 0 0 0
def Found(l:List az)(t ip:Int)(r:az×Bool):Prop:=
 (r.2=false→r.1=B9∧∀z∈l,¬qU t ip z)∧(r.2=true→r.1∈l∧qU t ip r.1∧∀z∈l,qU t ip z→z.af.Len≤r.1.af.Len)
theorem Found.none{l:List az}{t ip:Int}{r:az×Bool}(h:Found l t ip r)(hn:∀z∈l,¬qU t ip z):r=(B9,false):=by
 obtain⟨x,b⟩:=r;cases b with
 |false=>rw[show x=B9 from(h.1 rfl).1]
 |true=>exact absurd (h.2 rfl).2.1 (hn _ (h.2 rfl).1)
theorem Found.one{l:List az}{t ip:Int}{r:az×Bool}(h:Found l t ip r){x:az}(hx:x∈l)(hh:qU t ip x)(hm:∀z∈l,qU t ip z→z=x∨z.af.Len<x.af.Len):r=(x,true):=by
 obtain⟨y,b⟩:=r;cases b with
 |false=>exact absurd hh ((h.1 rfl).2 x hx)
 |true=>
  obtain⟨h1,h2,h3⟩:=h.2 rfl;rcases hm y h1 h2 with e |e
  ·rw[show y=x from e]
  ·have:x.af.Len≤y.af.Len:=h3 x hx hh;have e:y.af.Len<x.af.Len:=e;omega
def qn(bd:Nat)(b:BD):az:=Go.L.az.mk b.au b.ay (bd:Int) 0 0 0 0
section
variable {f:av} (hv:Vf f) (hl:f.Leaks=[]) {leaf:Int} {K:iw} {bd:Nat} {b:BD} (hb:f.aG[bd]? =some b) (hg:b.aM≠0) {a:Int} (a0:0≤a) (a1:a<256)
include hv hb hg a0 a1
theorem zI{x:az}(h:JU f leaf x)(hh:qU b.au (b.ay.IP+a) x):(iW f leaf)[bd]? =some true∧x=qn bd b:=by
 obtain⟨i,d,h1,h2,h3,rfl⟩:=h;have:=hh.2;unfold vC at this;rw[show(cq d.ay (b.ay.IP+a)=true)=_ from rfl]at this;rw[JV hv h1 hb h2 hg a0 a1,decide_eq_true_eq]at this;subst this;rw[hb]at h1;cases h1;exact⟨h3,rfl⟩
theorem Le(hc:(iW f leaf)[bd]? =some true):JU f leaf (qn bd b)∧qU b.au (b.ay.IP+a) (qn bd b):=
 ⟨⟨bd,b,hb,hg,hc,rfl⟩,rfl,by
  show cq b.ay _=true;rw[JV hv hb hb hg hg a0 a1];exact decide_eq_true rfl⟩
include hl
theorem MO{up:List Bool}{q:az×Bool}(F:Found (ny f leaf up [] K) b.au (b.ay.IP+a) q):q=if(iW f leaf)[bd]? =some true then(qn bd b,true)else(B9,false):=by
 split
 ·rename_i hc;obtain⟨h1,h2⟩:=Le hv hb hg a0 a1 hc;exact F.one ((Di hv hl).2 h1) h2 fun z hz hh=>.inl (zI hv hb hg a0 a1 ((Di hv hl).1 hz) hh).2
 ·rename_i hc;exact F.none fun z hz hh=>hc (zI hv hb hg a0 a1 ((Di hv hl).1 hz) hh).1
structure P6(K:iw)(b:BD)(y:au)(ip:Int)(m next router:Int)(r:bZ):Prop where
 host:rY r=true
 tg:K.tg r=[b.Target,y.Target]
 ip:r.N.IP=ip
 SN:r.N.aS=m
 label:r.N.dU=y.aZ
 next:r.A.Next=next
 rt:K.rt r=(router,true)
theorem MP{t:Nat}{y:au}(ht:f.aA[t]? =some y)(hbt:b.au=(t:Int)){m next router:Int}{r:bZ}(R:P6 K b y (b.ay.IP+a) m next router r)(hcon:K.dH b.ay (b.ay.IP+a)=true)
 (hself:cq ⟨b.ay.IP+a,32⟩ (b.ay.IP+a)=true) {q:az×Bool} (F:Found (ny f leaf [] [r] K) b.au (b.ay.IP+a) q):
 q=if(iW f leaf)[bd]? =some true∧(next=K.lo∨f.bD=1)then(Go.L.az.mk b.au ⟨b.ay.IP+a,32⟩ (bd:Int) 0 0 m 0,true)
  else if next=K.lo then(if(iW f leaf)[bd]? =some true then(qn bd b,true)else(B9,false))
  else(Go.L.az.mk b.au ⟨b.ay.IP+a,32⟩ (-1) next y.aZ 0 router,true):=by
 have hy:y.aZ≠0:=by rw[hv.Af t y ht];simp only;omega
 have hi:∀z,z∈ny f leaf [] [r] K↔_:=fun z=>Oe hv hl hb hg ht hbt R.host R.tg (by rw[R.ip];exact hcon) (x:=z)
 have hhome:=(HB (leaf:=leaf) (up:=[]) (K:=K) hv hb hg ht hbt R.host R.tg (by rw[R.ip];exact hcon)).2
 have hus:∀e d,GA (xG f leaf [] K.es) e d=false:=fun e d=>by
  have:xG f leaf [] K.es=[]:=by
   unfold xG;have:fU (vB leaf [] K.es) f.ax=[]:=by
    unfold fU;rw[List.flatMap_eq_nil_iff];intro p _;unfold vB;rw[if_neg (by simp)]
   rw[this];rfl
  rw[this];unfold GA;simp[getM,aY]
 have hcr:((iW f leaf)[((bd:Nat):Int).toNat]?).getD false=decide ((iW f leaf)[bd]? =some true):=by
  rw[show((bd:Nat):Int).toNat=bd by omega]
  cases(iW f leaf)[bd]? with
  |none=>rfl
  |some v=>cases v<;>rfl
 have host1:∀(c:aj),mw f K.lo (iW f leaf) (xG f leaf [] K.es) (vE f) (t:Int) (fun p=>K.dH p r.N.IP) (K.sq r) (K.rt r) [b.Target,y.Target] r=some c→
  c.az∈ny f leaf [] [r] K∧qU b.au (b.ay.IP+a) c.az∧q=(c.az,true):=by
  intro c hc;have hm:c.az∈ny f leaf [] [r] K:=(hi _).2 (.inr ⟨c,hc,rfl⟩);obtain⟨-,-,p1,p2⟩:=Eo hc;have hh:qU b.au (b.ay.IP+a) c.az:=⟨by rw[p1,hbt],by rw[p2,R.ip];exact hself⟩
  refine⟨hm,hh,F.one hm hh fun z hz hz2=>?_⟩
  rcases(hi z).1 hz with hz3 |⟨c',hc',rfl⟩
  ·right;rw[(zI hv hb hg a0 a1 hz3 hz2).2,p2];show b.ay.Len<32;rw[Lc hv hb hg];decide
  ·left;rw[hc]at hc';cases hc';rfl
 have host0:mw f K.lo (iW f leaf) (xG f leaf [] K.es) (vE f) (t:Int) (fun p=>K.dH p r.N.IP) (K.sq r) (K.rt r) [b.Target,y.Target] r=none→q=if(iW f leaf)[bd]? =some true then(qn bd b,true)else(B9,false):=by
  intro hn;have hj:∀z,z∈ny f leaf [] [r] K↔JU f leaf z:=fun z=>by
   rw[hi z,hn];constructor
   ·rintro(h |⟨c,h,_⟩)
    ·exact h
    ·cases h
   ·exact .inl
  split
  ·rename_i hc;obtain⟨h1,h2⟩:=Le hv hb hg a0 a1 hc;exact F.one ((hj _).2 h1) h2 fun z hz hh=>.inl (zI hv hb hg a0 a1 ((hj z).1 hz) hh).2
  ·rename_i hc;exact F.none fun z hz hh=>hc (zI hv hb hg a0 a1 ((hj z).1 hz) hh).1
 have hC:mw f K.lo (iW f leaf) (xG f leaf [] K.es) (vE f) (t:Int) (fun p=>K.dH p r.N.IP) (K.sq r) (K.rt r) [b.Target,y.Target] r=
  if(iW f leaf)[bd]? =some true∧(next=K.lo∨f.bD=1)then some (ql r K.lo (K.sq r) (Go.L.az.mk (t:Int) (Go.L.af.mk r.N.IP 32) (bd:Int) 0 0 r.N.aS 0))
  else if next=K.lo then none
  else some (ql r K.lo (K.sq r) (Go.L.az.mk (t:Int) (Go.L.af.mk r.N.IP 32) (-1) r.A.Next r.N.dU 0 router)):=by
  unfold mw;rw[hhome];simp only[hcr,hus,R.next,R.rt,R.label,Bool.or_false];by_cases h1:(iW f leaf)[bd]? =some true<;>by_cases h2:next=K.lo<;>by_cases h3:f.bD=1<;>simp[h1,h2,h3,hy]
 rw[hC]at host1 host0;split
 ·rename_i h;rw[if_pos h]at host1;rw[(host1 _ rfl).2.2,← R.ip,← R.SN,hbt];rfl
 ·rename_i h;rw[if_neg h]at host1 host0;split
  ·rename_i h2;rw[if_pos h2]at host0;exact host0 rfl
  ·rename_i h2;rw[if_neg h2]at host1;rw[(host1 _ rfl).2.2,← R.ip,← R.next,← R.label,hbt];rfl
end
end Go.L
end
