/- Put together out of parts. No conditions. -/
import Derived.Test.YtpgpmlaafigpaaaGreatDoorWKf
import Derived.Test.YtpgpmlaafigpaaaGreatDoorPLbg
import Derived.Test.YtpgpmlaafigpaaaGreatDoorAd
namespace Go.L
open Go.AM
set_option maxRecDepth 100000
set_option linter.unusedSimpArgs false
set_option linter.unusedVariables false
set_option linter.unusedSectionVars false
def Good{γ:Type}(o:Option γ)(Q:γ→Prop):Prop:=∃v,o=some v∧Q v
theorem Good.bind{γ δ:Type}{o:Option γ}{Q:γ→Prop}{k:γ→Option δ}{R:δ→Prop}(h:Good o Q)(hk:∀v,Q v→Good (k v) R):Good (o.bind k) R:=by
 obtain⟨v,rfl,hv⟩:=h;exact hk v hv
theorem Good.mono{γ:Type}{o:Option γ}{Q R:γ→Prop}(h:Good o Q)(hk:∀v,Q v→R v):Good o R:=by
 obtain⟨v,e,hv⟩:=h;exact⟨v,e,hk v hv⟩
theorem Good.some{γ:Type}{v:γ}{Q:γ→Prop}(h:Q v):Good (some v) Q:=⟨v,rfl,h⟩
theorem oO{ST τ:Type}{f:ST→Option (ST⊕τ)}{Q:τ→Prop}(I:Nat→ST→Prop)(N:Nat)
 (hf:∀j s,j<N→I j s→Good (f s) fun r=>match r with | .inl s'=>I (j+1) s' | .inr t=>Q t)
 (he:∀s,I N s→Good (f s) fun r=>match r with | .inl _=>False | .inr t=>Q t) {n:Nat} (hn:N<n) {s0:ST} (h0:I 0 s0):Good (bZ f n s0) Q:=by
 have key:∀(k j n:Nat) (s:ST),j+k=N→k<n→I j s→Good (bZ f n s) Q:=by
  intro k;induction k with
  |zero=>
   intro j n s hj hn hs;obtain⟨n,rfl⟩:∃m,n=m+1:=⟨n - 1,by omega⟩
   have:j=N:=by omega
   subst this;obtain⟨r,hr,h⟩:=he s hs;cases r with
   |inl s'=>exact h.elim
   |inr t=>exact⟨t,by simp only[bZ,hr],h⟩
  |succ k ih=>
   intro j n s hj hn hs;obtain⟨n,rfl⟩:∃m,n=m+1:=⟨n - 1,by omega⟩
   obtain⟨r,hr,h⟩:=hf j s (by omega) hs
   cases r with
   |inl s'=>
    obtain⟨t,ht,hq⟩:=ih (j+1) n s' (by omega) (by omega) h
    exact⟨t,by simp only[bZ,hr];exact ht,hq⟩
   |inr t=>exact⟨t,by simp only[bZ,hr],h⟩
 exact key N 0 n s0 (by omega) hn h0
def Tk(c:Int)(x:az):Prop:=0≤x.at_∧x.at_≤c
end Go.L
namespace Go.L
open Go.AM
set_option maxRecDepth 100000
set_option linter.unusedSimpArgs false
set_option linter.unusedVariables false
set_option linter.unusedSectionVars false
theorem UR(n:Nat)(x k:Int)(hk:0<k)(hk2:k≤4000000000000000000):BF.S n (x,k)=some (x % k):=by
 show(EZ x k).run n=_;have h1:¬k≤0:=by omega
 have h2:k≠0:=by omega
 simp only[EZ,G.run,aI,IJ,Lv,decide_eq_true_eq,h1,if_false,h2,ne_eq,not_false_eq_true,decide_true,if_true,Option.bind_some,Q5 hk hk2,Q4 hk]<;>rfl
section
variable {n:Nat}
theorem cF(x:az)(m c:Int)(hx:Tk c x)(hc:c≤1000000)(h1:1≤m)(h2:m≤1000000):
 Good (γ:=Int×az) (bg.S n (x,m)) fun r=>0≤r.1∧r.1<m∧Tk (c+1) r.2:=by
 obtain⟨ha,hb⟩:=hx;show Good (γ:=Int×az) ((uW x m).run n) _;have w1:Go.IntKind.wrap .i64 (x.at_+1)=x.at_+1:=wrap_i64 (by omega) (by omega)
 have w2:Go.IntKind.wrap .i64 (x.at_+1 - 1)=x.at_:=by rw[wrap_i64 (by omega) (by omega)];omega
 have eM:∀{γ:Type} (a:Int) (k:BF.sh.El→Option γ),(BF.S n (a,m)).bind k=k (a % m):=fun a k=>by rw[UR n a m (by omega) (by omega)];rfl
 simp only[uW,G.run,aI,bD,cn,w1,w2,eM,if_true,decide_eq_true_eq];by_cases h:x.at_≥(x.l.length:Int)
 ·rw[if_pos h];exact .some ⟨by show(0:Int)≤0;omega,by show(0:Int)<m;omega,ha,by show x.at_≤c+1;omega⟩
 ·rw[if_neg h];obtain⟨i,hi⟩:∃i:Nat,x.at_=(i:Int):=⟨x.at_.toNat,by omega⟩
  have hlt:i<x.l.length:=by omega
  rw[hi,bQ,List.getElem?_eq_getElem hlt,Option.bind_some];exact .some ⟨Int.emod_nonneg _ (by omega),Int.emod_lt_of_pos _ (by omega),by show(0:Int)≤(i:Int)+1;omega,by show(i:Int)+1≤c+1;omega⟩
end
end Go.L
namespace Go.L
open Go.AM
set_option maxRecDepth 100000
set_option linter.unusedSimpArgs false
set_option linter.unusedVariables false
set_option linter.unusedSectionVars false
def Qc(L S:Int)(x:cK):Prop:=0≤x.A∧x.A<L∧L≤x.B∧x.B<L+S∧1≤x.EB∧x.EB≤2
def DC(x:cK):V2 Int:=⟨x.A,x.B⟩
def Mv(L S:Int)(l:List cK):Prop:=l.length≤32∧(∀x∈l,Qc L S x)∧(l.map DC).Nodup
def qZ(L S j i:Int)(l:List cK):Prop:=(∀x∈l,Qc L S x∧(x.A<j∨x.A=j∧x.B<L+i))∧(l.map DC).Nodup
theorem Nv{L S j i c:Int}{l:List cK}(h:qZ L S j i l)(hj:0≤j∧j<L)(hi:0≤i∧i<S)(hc:1≤c∧c≤2):qZ L S j (i+1) (l++[⟨j,L+i,c⟩]):=by
 refine⟨fun x hx=>?_,?_⟩
 ·rcases List.mem_append.1 hx with hx |hx
  ·obtain⟨h1,h2⟩:=h.1 x hx;exact⟨h1,by omega⟩
  ·simp only[List.mem_singleton]at hx;subst hx;refine⟨⟨?_,?_,?_,?_,?_,?_⟩,.inr ⟨rfl,?_⟩⟩<;>simp only<;>omega
 ·rw[List.map_append,List.nodup_append];refine⟨h.2,by simp,?_⟩
  intro a ha b hb;simp only[List.map_cons,List.map_nil,List.mem_singleton]at hb;subst hb;obtain⟨x,hx,rfl⟩:=List.mem_map.1 ha;obtain⟨h1,h2⟩:=h.1 x hx;intro e;simp only[DC,V2.mk.injEq]at e;omega
theorem Nw{L S j i:Int}{l:List cK}(h:qZ L S j i l):qZ L S j (i+1) l:=
 ⟨fun x hx=>⟨(h.1 x hx).1,by have:=(h.1 x hx).2;omega⟩,h.2⟩
theorem Qd{L S j:Int}{i:Int}{l:List cK}(h:qZ L S j i l)(hi:S≤i):qZ L S (j+1) 0 l:=
 ⟨fun x hx=>⟨(h.1 x hx).1,by have:=(h.1 x hx).2;have:=(h.1 x hx).1;unfold Qc at this;omega⟩,h.2⟩
section
variable {n:Nat}
theorem Nx(x:az)(L S c:Int)(hx:Tk c x)(hc:c≤100000)(hL:0≤L∧L≤8)(hS:0≤S∧S≤4)(hn:5000≤n):
 Good (γ:=List cK×az) (Ga.S n (x,L,S)) fun r=>Mv L S r.1∧Tk (c+64) r.2:=by
 show Good (γ:=List cK×az) ((Ca x L S).run n) _;simp only[Ca,G.run,aI,vc,if_true,decide_eq_true_eq];refine Good.bind (γ:=List Int×Int×List cK) (Q:=fun t=>Mv L S t.2.2∧0≤t.2.1∧t.2.1≤c+64) ?_ (fun t ht=>?_)
 ·refine oO (fun j (s:Int×List Int×Int×List cK)=>s.1=(j:Int)∧0≤s.2.2.1∧s.2.2.1≤c+8*(j:Int)∧(s.2.2.2.length:Int)≤4*(j:Int)∧qZ L S (j:Int) 0 s.2.2.2) L.toNat (fun j s hj hs=>?_) (fun s hs=>?_) (by omega) ⟨rfl,hx.1,by have:=hx.2;simp;omega,by simp,by simp[qZ]⟩
  ·obtain⟨h1,h2,h3,h4,h5⟩:=hs;have hlt:s.1<L:=by omega
   simp only[hlt,if_true];refine Good.bind (γ:=List Int×Int×List cK) (Q:=fun t=>0≤t.2.1∧t.2.1≤c+8*((j:Int)+1)∧(t.2.2.length:Int)≤4*((j:Int)+1)∧qZ L S ((j:Int)+1) 0 t.2.2) ?_ (fun t ht=>?_)
   ·refine oO (fun i (q:Int×List Int×Int×List cK)=>q.1=(i:Int)∧0≤q.2.2.1∧q.2.2.1≤c+8*(j:Int)+2*(i:Int)∧(q.2.2.2.length:Int)≤4*(j:Int)+(i:Int)∧qZ L S (j:Int) (i:Int) q.2.2.2) S.toNat (fun i q hi hq=>?_) (fun q hq=>?_) (by omega) ⟨rfl,h2,by simp;omega,by simp;omega,h5⟩
    ·obtain⟨g1,g2,g3,g4,g5⟩:=hq;have hlt:q.1<S:=by omega
     simp only[hlt,if_true];refine Good.bind (cF _ 8 (c+8*(j:Int)+2*(i:Int)) ⟨g2,g3⟩ (by omega) (by decide) (by decide)) (fun r hr=>?_)
     obtain⟨r1,r2,r3⟩:=hr;by_cases h7:(r.1 != 7)=true
     ·simp only[h7,if_true];refine Good.bind (cF r.2 2 (c+8*(j:Int)+2*(i:Int)+1) r3 (by omega) (by decide) (by decide)) (fun r' hr'=>?_)
      obtain⟨s1,s2,s3⟩:=hr';obtain⟨s3,s4⟩:=s3;have w:Go.IntKind.wrap .i64 (q.1+1)=q.1+1:=wrap_i64 (by omega) (by omega)
      have w2:Go.IntKind.wrap .i64 (L+q.1)=L+q.1:=wrap_i64 (by omega) (by omega)
      have w3:Go.IntKind.wrap .i64 (1+r'.1)=1+r'.1:=wrap_i64 (by omega) (by omega)
      have hroom:roomy (q.2.2.2.length+1) 24=true:=by simp[roomy];omega
      rw[if_pos ⟨trivial,hroom⟩,w,w2,w3];have hsn:qZ L S (j:Int) ((i:Int)+1) (q.2.2.2++[⟨(j:Int),L+(i:Int),1+r'.1⟩]):=Nv g5 ⟨by omega,by omega⟩ ⟨by omega,by omega⟩ ⟨by omega,by omega⟩
      refine .some ⟨?_,?_,?_,?_,?_⟩
      ·show q.1+1=((i+1:Nat):Int);omega
      ·omega
      ·show r'.2.at_≤c+8*(j:Int)+2*((i+1:Nat):Int);omega
      ·simp only[List.length_append,List.length_cons,List.length_nil];omega
      ·show qZ L S (j:Int) ((i+1:Nat):Int) (q.2.2.2++[⟨s.1,L+q.1,1+r'.1⟩]);rw[h1,g1];exact hsn
     ·simp only[h7,Bool.false_eq_true,if_false];obtain⟨s3,s4⟩:=r3;have w:Go.IntKind.wrap .i64 (q.1+1)=q.1+1:=wrap_i64 (by omega) (by omega)
      rw[w];exact .some ⟨by show q.1+1=((i+1:Nat):Int);omega,s3,by show r.2.at_≤c+8*(j:Int)+2*((i+1:Nat):Int);omega,by show(q.2.2.2.length:Int)≤4*(j:Int)+((i+1:Nat):Int);omega,Nw g5⟩
    ·obtain⟨g1,g2,g3,g4,g5⟩:=hq;have hlt:¬q.1<S:=by omega
     simp only[hlt,if_false];exact .some ⟨g2,by show q.2.2.1≤c+8*((j:Int)+1);omega,by show(q.2.2.2.length:Int)≤4*((j:Int)+1);omega,Qd g5 (by omega)⟩
   ·obtain⟨t1,t2,t3,t4⟩:=ht;have w:Go.IntKind.wrap .i64 (s.1+1)=s.1+1:=wrap_i64 (by omega) (by omega)
    rw[w];exact .some ⟨by show s.1+1=((j+1:Nat):Int);omega,t1,by show t.2.1≤c+8*((j+1:Nat):Int);omega,by show(t.2.2.length:Int)≤4*((j+1:Nat):Int);omega,t4⟩
  ·obtain⟨h1,h2,h3,h4,h5⟩:=hs;have hlt:¬s.1<L:=by omega
   simp only[hlt,if_false];exact .some ⟨⟨by show s.2.2.2.length≤32;omega,fun x hx=>(h5.1 x hx).1,h5.2⟩,h2,by show s.2.2.1≤c+64;omega⟩
 ·obtain⟨h1,h2,h3⟩:=ht;simp[bh];refine .some ⟨h1,h2,h3⟩
def qe(l:List Int):Prop:=l.Pairwise (· < ·)
theorem TR{l:List Int}{y:Int}(h:qe l)(hy:∀x∈l,x<y):qe (l++[y]):=by
 unfold qe at*;rw[List.pairwise_append];exact⟨h,by simp,fun a ha b hb=>by simp only[List.mem_singleton]at hb;subst hb;exact hy a ha⟩
def Qe(m q:Int)(l:List Int):Prop:=1≤l.length∧(l.length:Int)≤q∧(∀y∈l,0≤y∧y<m)∧qe l
theorem Ip(x:az)(m q c:Int)(hx:Tk c x)(hc:c≤100000)(hm:1≤m∧m≤8)(hq:1≤q)(hn:5000≤n):
 Good (γ:=List Int×az) (Dy.S n (x,m,q)) fun r=>Qe m q r.1∧Tk (c+9) r.2:=by
 show Good (γ:=List Int×az) ((Dx x m q).run n) _;simp only[Dx,G.run,aI,vc,if_true,decide_eq_true_eq];refine Good.bind (cF x m c hx (by omega) (by omega) (by omega)) (fun r hr=>?_)
 obtain⟨r1,r2,r3,r4⟩:=hr;refine Good.bind (γ:=List Int×Int×List Int) (Q:=fun t=>(t.2.2.length:Int)≤q∧(∀y∈t.2.2,0≤y∧y<m)∧qe t.2.2∧0≤t.2.1∧t.2.1≤c+9) ?_ (fun t ht=>?_)
 ·refine oO (fun j (s:Int×List Int×Int×List Int)=>s.1=(j:Int)∧0≤s.2.2.1∧s.2.2.1≤c+1+(j:Int)∧(s.2.2.2.length:Int)≤(j:Int)∧(s.2.2.2.length:Int)≤q∧(∀y∈s.2.2.2,0≤y∧y<(j:Int))∧qe s.2.2.2) m.toNat (fun j s hj hs=>?_) (fun s hs=>?_) (by omega) ⟨rfl,r3,by simp;omega,by simp,by simp;omega,by simp,by simp[qe]⟩
  ·obtain⟨h1,h2,h3,h4,h4',h5,h5'⟩:=hs;have hlt:s.1<m:=by omega
   have w:Go.IntKind.wrap .i64 (s.1+1)=s.1+1:=wrap_i64 (by omega) (by omega)
   have hroom:roomy (s.2.2.2.length+1) 8=true:=by simp[roomy];omega
   have h6:∀y∈s.2.2.2++[s.1],0≤y∧y<((j+1:Nat):Int):=by
    intro y hy;rcases List.mem_append.1 hy with hy |hy
    ·have:=h5 y hy;omega
    ·simp only[List.mem_singleton]at hy;subst hy;omega
   have h7:∀y∈s.2.2.2,0≤y∧y<((j+1:Nat):Int):=fun y hy=>by have:=h5 y hy;omega
   have h8:qe (s.2.2.2++[s.1]):=TR h5' fun y hy=>by have:=h5 y hy;omega
   simp only[hlt,if_true,w];by_cases hq:(s.2.2.2.length:Int)<q
   ·simp only[hq,if_true];by_cases he:(s.1==r.1)=true
    ·simp only[he,if_true];rw[if_pos ⟨trivial,hroom⟩];refine .some ⟨?_,?_,?_,?_,?_,h6,h8⟩<;>(try simp only[List.length_append,List.length_cons,List.length_nil])<;>omega
    ·simp only[he,Bool.false_eq_true,if_false];refine Good.bind (cF _ 3 (c+1+(j:Int)) ⟨h2,h3⟩ (by omega) (by decide) (by decide)) (fun r' hr'=>?_)
     obtain⟨s1,s2,s3,s4⟩:=hr';by_cases hz:(r'.1==1)=true
     ·simp only[hz,if_true];rw[if_pos ⟨trivial,hroom⟩];refine .some ⟨?_,?_,?_,?_,?_,h6,h8⟩<;>(try simp only[List.length_append,List.length_cons,List.length_nil])<;>omega
     ·simp only[hz,Bool.false_eq_true,if_false];refine .some ⟨?_,?_,?_,?_,?_,h7,h5'⟩<;>(try simp only[List.length_append,List.length_cons,List.length_nil])<;>omega
   ·simp only[hq,if_false];refine .some ⟨?_,fun y hy=>?_,h5',?_,?_⟩
    ·exact h4'
    ·have:=h5 y hy;omega
    ·exact h2
    ·show s.2.2.1≤c+9;omega
  ·obtain⟨h1,h2,h3,h4,h4',h5,h5'⟩:=hs;have hlt:¬s.1<m:=by omega
   simp only[hlt,if_false];refine .some ⟨?_,fun y hy=>?_,h5',?_,?_⟩
   ·exact h4'
   ·have:=h5 y hy;omega
   ·exact h2
   ·show s.2.2.1≤c+9;omega
 ·obtain⟨t1,t2,t2',t3,t4⟩:=ht;by_cases hz:((t.2.2.length:Int)==0)=true
  ·simp only[hz,if_true];simp[bh];refine .some ⟨⟨?_,?_,?_,?_⟩,t3,t4⟩
   ·simp
   ·simp;omega
   ·simp;omega
   ·simp[qe]
  ·simp only[hz,Bool.false_eq_true,if_false];simp[bh];refine .some ⟨⟨?_,t1,t2,t2'⟩,t3,t4⟩;simp only[beq_iff_eq]at hz;show 1≤t.2.2.length;omega
end
end Go.L
namespace Go.L
open Go.AM
set_option maxRecDepth 100000
set_option linter.unusedSimpArgs false
set_option linter.unusedVariables false
set_option linter.unusedSectionVars false
theorem R9{β:Type}(a b:Int)(hb:b≠0)(k:Unit→Option β):(IJ .i64 a b).run.bind k=k ():=by
 simp only[IJ,Lv,ne_eq,hb,not_false_eq_true,decide_true,if_true,Option.bind_some]
theorem V6:((2:Int) ^ (@Min.min Nat instMinNat (Int.toNat (16:Int)) (Go.IntKind.bits .i64)))=65536:=by decide
theorem wrap_u32'{a:Int}(h0:0≤a)(h1:a<4294967296):Go.IntKind.wrap .u32 a=a:=by
 simp only[Go.IntKind.wrap,Go.IntKind.bits,Go.IntKind.signed];simp
 omega
def Sa(nt:Int)(i:Int)(b:BD):Prop:=0≤b.aJ∧b.aJ<nt∧b.gy=10+i∧b.Target=500+i∧(b.bT=⟨0,0⟩∧b.bC=0∨b.bT=⟨167772160+i*65536,24⟩∧b.bC=167772161+i*65536)
def Iq(nt:Int)(x:cW):Prop:=0≤x.From∧x.From<nt∧0≤x.To∧x.To<nt∧x.From≠x.To∧(x.Prefix=⟨0,0⟩∨∃t,0≤t∧t<4∧x.Prefix=⟨167772160+t*65536,16⟩)
def Qf(L nb:Int)(s:aO):Prop:=Qe L 3 s.Leaves∧Qe nb 4 s.bB
def Qg(vp:List BD)(segs:List aO)(i:Int)(h:Host):Prop:=
 h.dM=2199023951872+i∧0≤h.BD∧h.BD<(vp.length:Int)∧(h.aO= -1∨∃s,gi segs h.aO=some s∧h.BD∈s.bB)∧
 (h.IP=0∨∃b,gi vp h.BD=some b∧b.bC≠0∧h.IP=b.bT.IP+(10+i))
section
variable {n:Nat}
theorem Mw(x:az)(i m c:Int)(hx:Tk c x)(hc:c≤100000)(hm:1≤m∧m≤8)(hi:0≤i∧i≤8):
 Good (γ:=BD×az) (E0.S n (x,i,m)) fun r=>Sa m i r.1∧Tk (c+2) r.2:=by
 show Good (γ:=BD×az) ((AP x i m).run n) _;have w1:Go.IntKind.wrap .i64 (10+i)=10+i:=wrap_i64 (by omega) (by omega)
 have w2:Go.IntKind.wrap .u32 (10+i)=10+i:=wrap_u32' (by omega) (by omega)
 have w3:Go.IntKind.wrap .i64 (500+i)=500+i:=wrap_i64 (by omega) (by omega)
 have w4:Go.IntKind.wrap .u32 (500+i)=500+i:=wrap_u32' (by omega) (by omega)
 have w5:Go.IntKind.wrap .i64 (i*65536)=i*65536:=wrap_i64 (by omega) (by omega)
 have w6:Go.IntKind.wrap .i64 (167772160+i*65536)=167772160+i*65536:=wrap_i64 (by omega) (by omega)
 have w7:Go.IntKind.wrap .u32 (167772160+i*65536)=167772160+i*65536:=wrap_u32' (by omega) (by omega)
 have w8:Go.IntKind.wrap .u32 (167772160+i*65536+1)=167772161+i*65536:=by rw[wrap_u32' (by omega) (by omega)];omega
 simp only[AP,G.run,aI,if_true,decide_eq_true_eq,V6,w1,w2,w3,w4,w5,w6,w7,w8];refine Good.bind (cF x m c hx (by omega) (by omega) (by omega)) (fun r hr=>?_)
 refine Good.bind (cF r.2 4 (c+1) hr.2.2 (by omega) (by decide) (by decide)) (fun r' hr'=>?_)
 have h:Tk (c+2) r'.2:=by have:=hr'.2.2;unfold Tk at*;omega
 split
 ·exact .some ⟨⟨hr.1,hr.2.1,rfl,rfl,.inr ⟨rfl,rfl⟩⟩,h⟩
 ·exact .some ⟨⟨hr.1,hr.2.1,rfl,rfl,.inl ⟨rfl,rfl⟩⟩,h⟩
theorem Qh(x:az)(m c:Int)(hx:Tk c x)(hc:c≤100000)(hm:2≤m∧m≤8):
 Good (γ:=cW×az) (H9.S n (x,m)) fun r=>Iq m r.1∧Tk (c+4) r.2:=by
 show Good (γ:=cW×az) ((Dz x m).run n) _;have w:Go.IntKind.wrap .i64 (m - 1)=m - 1:=wrap_i64 (by omega) (by omega)
 have e:=fun {γ:Type} (a:Int) (k:Unit→Option γ)=>R9 a m (by omega) k
 simp only[Dz,G.run,aI,if_true,decide_eq_true_eq,w,e,V6];refine Good.bind (cF x m c hx (by omega) (by omega) (by omega)) (fun r hr=>?_)
 refine Good.bind (cF r.2 (m - 1) (c+1) hr.2.2 (by omega) (by omega) (by omega)) (fun r' hr'=>?_)
 refine Good.bind (cF r'.2 2 (c+1+1) hr'.2.2 (by omega) (by decide) (by decide)) (fun q hq=>?_)
 obtain⟨a1,a2,a3⟩:=hr;obtain⟨b1,b2,b3⟩:=hr';have v1:Go.IntKind.wrap .i64 (r.1+1)=r.1+1:=wrap_i64 (by omega) (by omega)
 have v2:Go.IntKind.wrap .i64 (r.1+1+r'.1)=r.1+1+r'.1:=wrap_i64 (by omega) (by omega)
 have v3:Int.tmod (r.1+1+r'.1) m=(r.1+1+r'.1) % m:=Int.tmod_eq_emod_of_nonneg (by omega)
 have v4:0≤(r.1+1+r'.1) % m:=Int.emod_nonneg _ (by omega)
 have v5:(r.1+1+r'.1) % m<m:=Int.emod_lt_of_pos _ (by omega)
 have v6:r.1≠(r.1+1+r'.1) % m:=by
  by_cases hlt:r.1+1+r'.1<m
  ·rw[Int.emod_eq_of_lt (by omega) hlt];omega
  ·have e1:(r.1+1+r'.1) % m=(r.1+1+r'.1 - m) % m:=by rw[Int.sub_emod_right]
   rw[e1,Int.emod_eq_of_lt (by omega) (by omega)];omega
 rw[v1,v2,v3];split
 ·refine Good.bind (cF q.2 4 (c+1+1+1) hq.2.2 (by omega) (by decide) (by decide)) (fun p hp=>?_)
  have w5:Go.IntKind.wrap .i64 (p.1*65536)=p.1*65536:=wrap_i64 (by omega) (by omega)
  have w6:Go.IntKind.wrap .i64 (167772160+p.1*65536)=167772160+p.1*65536:=wrap_i64 (by omega) (by omega)
  have w7:Go.IntKind.wrap .u32 (167772160+p.1*65536)=167772160+p.1*65536:=wrap_u32' (by omega) (by omega)
  rw[w5,w6,w7];exact .some ⟨⟨a1,a2,v4,v5,v6,.inr ⟨p.1,hp.1,hp.2.1,rfl⟩⟩,by have:=hp.2.2;unfold Tk at*;show 0≤p.2.at_∧p.2.at_≤c+4;omega⟩
 ·exact .some ⟨⟨a1,a2,v4,v5,v6,.inl rfl⟩,by have:=hq.2.2;unfold Tk at*;show 0≤q.2.at_∧q.2.at_≤c+4;omega⟩
theorem Qi{α:Type}(l:List α)(i:Int)(h0:0≤i)(h1:i<(l.length:Int)):∃x,gi l i=some x∧x∈l:=by
 obtain⟨j,rfl⟩:∃j:Nat,i=(j:Int):=⟨i.toNat,by omega⟩
 have hj:j<l.length:=by omega
 exact⟨l[j],by rw[bQ];exact List.getElem?_eq_getElem hj,List.getElem_mem hj⟩
theorem cQ{β:Type}(len m b ai:Nat)(i:Int)(k:Unit→Option β)(h0:0≤i)(h1:i<(len:Int)):(aN len m b ai i).run.bind k=k ():=by
 simp[aN,h0,h1]
theorem FH{c d:Int}{x:az}(h:Tk c x)(hd:c≤d):Tk d x:=⟨h.1,Int.le_trans h.2 hd⟩
def Mx(nt:Int)(l:List BD):Prop:=∀(i:Nat) b,l[i]? =some b→Sa nt (i:Int) b
theorem V7{nt i:Int}{b:BD}(h:Sa nt i b)(hi:0≤i∧i≤8)(hg:b.bC≠0):b.bT.IP=167772160+i*65536:=by
 obtain⟨-,-,-,-,h |h⟩:=h
 ·exact absurd h.2 hg
 ·rw[h.1]
theorem Qj(x:az)(L S:Int)(links:List cK)(Oz:List aJ)(vp:List BD)(segs:List aO)(a8 a9 a10:Int)(b11 b12:Bool)(a13 a14 a15 a16 a17 a18 i c nt:Int)(hx:Tk c x)(hc:c≤100000)
 (h1:1≤segs.length∧segs.length≤8) (h2:∀s∈segs,Qf L (vp.length:Int) s) (h3:Mx nt vp) (h4:vp.length≤8) (hi:0≤i∧i≤8):
 Good (γ:=Host×az) (E1.S n (x,L,S,links,Oz,vp,segs,a8,a9,a10,b11,b12,a13,a14,a15,a16,a17,a18,i)) fun r=>Qg vp segs i r.1∧Tk (c+4) r.2:=by
 show Good (γ:=Host×az) ((AQ x L S links Oz vp segs a8 a9 a10 b11 b12 a13 a14 a15 a16 a17 a18 i).run n) _;have w1:Go.IntKind.wrap .i64 (2199023951872+i)=2199023951872+i:=wrap_i64 (by omega) (by omega)
 have w2:Go.IntKind.wrap .u64 (2199023951872+i)=2199023951872+i:=by
  simp only[Go.IntKind.wrap,Go.IntKind.bits,Go.IntKind.signed];simp
  omega
 have w3:Go.IntKind.wrap .i64 (10+i)=10+i:=wrap_i64 (by omega) (by omega)
 have w4:Go.IntKind.wrap .u32 (10+i)=10+i:=wrap_u32' (by omega) (by omega)
 simp only[AQ,G.run,aI,bD,cn,if_true,decide_eq_true_eq,w1,w2,w3,w4];refine Good.bind (cF x (segs.length:Int) c hx (by omega) (by omega) (by omega)) (fun r hr=>?_)
 obtain⟨s,hs,hm⟩:=Qi segs r.1 hr.1 hr.2.1;have hso:=(h2 s hm).2;obtain⟨so1,so2,so3,-⟩:=hso;rw[hs,Option.bind_some];refine Good.bind (cF r.2 (s.bB.length:Int) (c+1) hr.2.2 (by omega) (by omega) (by omega)) (fun r' hr'=>?_)
 obtain⟨d,hd,hdm⟩:=Qi s.bB r'.1 hr'.1 hr'.2.1;rw[hd,Option.bind_some];obtain⟨b,hb,_⟩:=Qi vp d (so3 d hdm).1 (so3 d hdm).2;rw[hb,Option.bind_some];have h3':Tk (c+1+1) r'.2:=hr'.2.2;have hbd:=so3 d hdm;have hbv:Sa nt d b:=by
  obtain⟨j,rfl⟩:∃j:Nat,d=(j:Int):=⟨d.toNat,by omega⟩
  rw[bQ]at hb;exact h3 j b hb
 have hseg:∀{v:Int},(v= -1∨v=r.1)→(v= -1∨∃s,gi segs v=some s∧d∈s.bB):=by
  rintro v (rfl |rfl)
  ·exact .inl rfl
  ·exact .inr ⟨s,hs,hdm⟩
 by_cases hg:(b.bC != 0)=true
 ·have hg':b.bC≠0:=by simpa using hg
  have hip:=V7 hbv ⟨hbd.1,by omega⟩ hg'
  have w5:Go.IntKind.wrap .u32 (b.bT.IP+(10+i))=b.bT.IP+(10+i):=wrap_u32' (by omega) (by omega)
  rw[if_pos hg];refine Good.bind (cF r'.2 6 (c+1+1) h3' (by omega) (by decide) (by decide)) (fun q hq=>?_)
  split
  ·rw[Option.bind_some,w5];refine Good.bind (cF q.2 10 (c+1+1+1) hq.2.2 (by omega) (by decide) (by decide)) (fun p hp=>?_)
   split
   ·exact .some ⟨⟨rfl,hbd.1,hbd.2,hseg (.inl rfl),.inr ⟨b,hb,hg',rfl⟩⟩,FH hp.2.2 (by omega)⟩
   ·exact .some ⟨⟨rfl,hbd.1,hbd.2,hseg (.inr rfl),.inr ⟨b,hb,hg',rfl⟩⟩,FH hp.2.2 (by omega)⟩
  ·refine Good.bind (cF q.2 10 (c+1+1+1) hq.2.2 (by omega) (by decide) (by decide)) (fun p hp=>?_)
   split
   ·exact .some ⟨⟨rfl,hbd.1,hbd.2,hseg (.inl rfl),.inl rfl⟩,FH hp.2.2 (by omega)⟩
   ·exact .some ⟨⟨rfl,hbd.1,hbd.2,hseg (.inr rfl),.inl rfl⟩,FH hp.2.2 (by omega)⟩
 ·rw[if_neg hg];refine Good.bind (cF r'.2 10 (c+1+1) h3' (by omega) (by decide) (by decide)) (fun p hp=>?_)
  split
  ·exact .some ⟨⟨rfl,hbd.1,hbd.2,hseg (.inl rfl),.inl rfl⟩,FH hp.2.2 (by omega)⟩
  ·exact .some ⟨⟨rfl,hbd.1,hbd.2,hseg (.inr rfl),.inl rfl⟩,FH hp.2.2 (by omega)⟩
def KN(l:List aJ):Prop:=∀(i:Nat) t,l[i]? =some t→t=⟨100+(i:Int),900+(i:Int)⟩
def Ir(vp:List BD)(segs:List aO)(l:List Host):Prop:=∀(i:Nat) h,l[i]? =some h→Qg vp segs (i:Int) h
structure Vf(f:bH):Prop where
 leaves:2≤f.Leaves∧f.Leaves≤4
 Is:1≤f.iy∧f.iy≤3
 links:Mv f.Leaves f.iy f.Links
 xI:1≤f.bq.length∧f.bq.length≤3
 Oz:KN f.bq
 vp:1≤f.bB.length∧f.bB.length≤4
 bd:Mx (f.bq.length:Int) f.bB
 segments:2≤f.aF.length∧f.aF.length≤6
 seg:∀s∈f.aF,Qf f.Leaves (f.bB.length:Int) s
 KL:f.ff.length≤8
 host:Ir f.bB f.aF f.ff
 KM:f.gJ.length≤2
 W5:∀x∈f.gJ,Iq (f.bq.length:Int) x
 WD:f.gJ.Nodup
 WE:0≤f.xV∧f.xV≤2
 US:0≤f.ry∧f.ry≤1
 V9:0≤f.uq∧f.uq≤1
 timers:1≤f.cq.uo∧f.cq.uo≤3∧f.cq.Dn=9∧40≤f.cq.F7∧f.cq.F7≤69∧f.cq.tu=20∧f.cq.zy=5∧f.cq.Window=30
theorem GP{α:Type}{P:Nat→α→Prop}{l:List α}{y:α}(h:∀(i:Nat) x,l[i]? =some x→P i x)(hy:P l.length y):∀(i:Nat) x,(l++[y])[i]? =some x→P i x:=by
 intro i x hx;rw[List.getElem?_append]at hx;split at hx
 ·exact h i x hx
 ·rename_i hge;have:i - l.length=0:=by
   rcases Nat.eq_zero_or_pos (i - l.length)with h0 |h0
   ·exact h0
   ·rw[List.getElem?_eq_none (by simp;omega)]at hx;cases hx
  have:i=l.length:=by omega
  subst this;simp at hx;subst hx;exact hy
theorem My(l:List Int)(hn:5000≤n):Good (γ:=bH) (E2.S n l) Vf:=by
 show Good (γ:=bH) ((AR l).run n) _;simp only[AR,G.run,aI,bD,cn,vc,if_true,decide_eq_true_eq];refine Good.bind (cF (n:=n) (Go.L.az.mk l 0) 3 0 ⟨Int.le_refl _,Int.le_refl _⟩ (by decide) (by decide) (by decide)) (fun r2 h2=>?_)
 refine Good.bind (cF r2.2 3 1 h2.2.2 (by decide) (by decide) (by decide)) (fun r3 h3=>?_)
 refine Good.bind (cF r3.2 3 2 h3.2.2 (by decide) (by decide) (by decide)) (fun r4 h4=>?_)
 refine Good.bind (cF r4.2 2 3 h4.2.2 (by decide) (by decide) (by decide)) (fun r5 h5=>?_)
 refine Good.bind (cF r5.2 2 4 h5.2.2 (by decide) (by decide) (by decide)) (fun r6 h6=>?_)
 refine Good.bind (cF r6.2 2 5 h6.2.2 (by decide) (by decide) (by decide)) (fun r7 h7=>?_)
 refine Good.bind (cF r7.2 3 6 h7.2.2 (by decide) (by decide) (by decide)) (fun r8 h8=>?_)
 refine Good.bind (cF r8.2 3 7 h8.2.2 (by decide) (by decide) (by decide)) (fun r9 h9=>?_)
 refine Good.bind (cF r9.2 30 8 h9.2.2 (by decide) (by decide) (by decide)) (fun r10 h10=>?_)
 obtain⟨l1,l2,-⟩:=h2;obtain⟨p1,p2,-⟩:=h3;obtain⟨e1,e2,-⟩:=h4;obtain⟨e3,e4,-⟩:=h5;obtain⟨e5,e6,-⟩:=h6;obtain⟨e7,e8,-⟩:=h9;obtain⟨e9,e10,h10'⟩:=h10;have wl:Go.IntKind.wrap .i64 (2+r2.1)=2+r2.1:=wrap_i64 (by omega) (by omega)
 have wp:Go.IntKind.wrap .i64 (1+r3.1)=1+r3.1:=wrap_i64 (by omega) (by omega)
 have wd:Go.IntKind.wrap .i64 (1+r9.1)=1+r9.1:=wrap_i64 (by omega) (by omega)
 have wa:Go.IntKind.wrap .i64 (40+r10.1)=40+r10.1:=wrap_i64 (by omega) (by omega)
 rw[wl,wp,wd,wa];refine Good.bind (Nx r10.2 (2+r2.1) (1+r3.1) 9 h10' (by decide) (by omega) (by omega) hn) (fun r11 h11=>?_)
 refine Good.bind (γ:=List Int×Int×List aJ) (Q:=fun t=>1≤t.2.2.length∧t.2.2.length≤3∧0≤t.2.1∧t.2.1≤77∧KN t.2.2) ?_ (fun t1 ht1=>?_)
 ·obtain⟨k1,k2⟩:=h11.2;refine oO (fun j (s:Int×List Int×Int×List aJ)=>s.1=(j:Int)∧0≤s.2.2.1∧s.2.2.1≤73+(j:Int)∧(s.2.2.2.length:Int)=(j:Int)∧KN s.2.2.2) 3 (fun j s hj hs=>?_) (fun s hs=>?_) (by omega) ⟨rfl,k1,by simp;omega,by simp,by simp[KN]⟩
  ·obtain⟨g1,g2,g3,g4,g5⟩:=hs;refine Good.bind (cF (n:=n) (Go.L.az.mk s.2.1 s.2.2.1) 3 (73+(j:Int)) ⟨g2,g3⟩ (by omega) (by decide) (by decide)) (fun r hr=>?_)
   obtain⟨s1,s2,s3,s4⟩:=hr;have w:Go.IntKind.wrap .i64 (s.1+1)=s.1+1:=wrap_i64 (by omega) (by omega)
   have w1:Go.IntKind.wrap .i64 (100+s.1)=100+s.1:=wrap_i64 (by omega) (by omega)
   have w2:Go.IntKind.wrap .u32 (100+s.1)=100+s.1:=wrap_u32' (by omega) (by omega)
   have w3:Go.IntKind.wrap .i64 (900+s.1)=900+s.1:=wrap_i64 (by omega) (by omega)
   have w4:Go.IntKind.wrap .u32 (900+s.1)=900+s.1:=wrap_u32' (by omega) (by omega)
   have hroom:roomy (s.2.2.2.length+1) 8=true:=by simp[roomy];omega
   by_cases hle:s.1≤r.1
   ·rw[if_pos hle,if_pos ⟨trivial,hroom⟩,w,w1,w2,w3,w4];refine .some ⟨?_,?_,?_,?_,?_⟩
    ·show s.1+1=((j+1:Nat):Int);omega
    ·exact s3
    ·show r.2.at_≤73+((j+1:Nat):Int);omega
    ·simp only[List.length_append,List.length_cons,List.length_nil];omega
    ·refine GP (P:=fun i t=>t=(⟨100+(i:Int),900+(i:Int)⟩:aJ)) g5 ?_
     rw[g4,g1]
   ·rw[if_neg hle];refine .some ⟨?_,?_,?_,?_,g5⟩
    ·show 1≤s.2.2.2.length;omega
    ·show s.2.2.2.length≤3;omega
    ·exact s3
    ·show r.2.at_≤77;omega
  ·obtain⟨g1,g2,g3,g4,g5⟩:=hs;refine Good.bind (cF (n:=n) (Go.L.az.mk s.2.1 s.2.2.1) 3 76 ⟨g2,by simpa using g3⟩ (by omega) (by decide) (by decide)) (fun r hr=>?_)
   obtain⟨s1,s2,s3,s4⟩:=hr;have hle:¬s.1≤r.1:=by omega
   rw[if_neg hle];refine .some ⟨?_,?_,?_,?_,g5⟩
   ·show 1≤s.2.2.2.length;omega
   ·show s.2.2.2.length≤3;omega
   ·exact s3
   ·show r.2.at_≤77;omega
 obtain⟨u1,u2,u3,u4,u5⟩:=ht1;refine Good.bind (cF (n:=n) (Go.L.az.mk t1.1 t1.2.1) 4 77 ⟨u3,u4⟩ (by decide) (by decide) (by decide)) (fun r25 h25=>?_)
 obtain⟨q1,q2,q3⟩:=h25;have w25:Go.IntKind.wrap .i64 (1+r25.1)=1+r25.1:=wrap_i64 (by omega) (by omega)
 rw[w25];simp[bh];refine Good.bind (γ:=List Int×Int×List BD) (Q:=fun t=>1≤t.2.2.length∧t.2.2.length≤4∧0≤t.2.1∧t.2.1≤86∧Mx (t1.2.2.length:Int) t.2.2) ?_ (fun t2 ht2=>?_)
 ·refine oO (fun j (s:Int×List Int×Int×List BD)=>s.1=(j:Int)∧0≤s.2.2.1∧s.2.2.1≤78+2*(j:Int)∧(s.2.2.2.length:Int)=(j:Int)∧Mx (t1.2.2.length:Int) s.2.2.2) (1+r25.1).toNat (fun j s hj hs=>?_) (fun s hs=>?_) (by omega) ⟨rfl,q3.1,by have:=q3.2;simp;omega,by simp,by simp[Mx]⟩
  ·obtain⟨g1,g2,g3,g4,g5⟩:=hs;have hlt:s.1<1+r25.1:=by omega
   rw[if_pos hlt];refine Good.bind (Mw (n:=n) (Go.L.az.mk s.2.1 s.2.2.1) s.1 (t1.2.2.length:Int) (78+2*(j:Int)) ⟨g2,g3⟩ (by omega) (by omega) (by omega)) (fun r hr=>?_)
   obtain⟨hb,s3,s4⟩:=hr;have w:Go.IntKind.wrap .i64 (s.1+1)=s.1+1:=wrap_i64 (by omega) (by omega)
   have hroom:roomy (s.2.2.2.length+1) 40=true:=by simp[roomy];omega
   rw[if_pos hroom,w];refine .some ⟨?_,?_,?_,?_,?_⟩
   ·show s.1+1=((j+1:Nat):Int);omega
   ·exact s3
   ·show r.2.at_≤78+2*((j+1:Nat):Int);omega
   ·simp only[List.length_append,List.length_cons,List.length_nil];omega
   ·refine GP (P:=fun i b=>Sa (t1.2.2.length:Int) (i:Int) b) g5 ?_
    rw[g4,← g1];exact hb
  ·obtain⟨g1,g2,g3,g4,g5⟩:=hs;have hlt:¬s.1<1+r25.1:=by omega
   rw[if_neg hlt];refine .some ⟨?_,?_,?_,?_,g5⟩
   ·show 1≤s.2.2.2.length;omega
   ·show s.2.2.2.length≤4;omega
   ·exact g2
   ·show s.2.2.1≤86;omega
 obtain⟨b1,b2,b3,b4,b5⟩:=ht2;refine Good.bind (cF (n:=n) (Go.L.az.mk t2.1 t2.2.1) 5 86 ⟨b3,b4⟩ (by decide) (by decide) (by decide)) (fun r39 h39=>?_)
 obtain⟨q1',q2',q3'⟩:=h39;have w39:Go.IntKind.wrap .i64 (2+r39.1)=2+r39.1:=wrap_i64 (by omega) (by omega)
 rw[w39];refine Good.bind (γ:=List Int×Int×List aO) (Q:=fun t=>2≤t.2.2.length∧t.2.2.length≤6∧(∀y∈t.2.2,Qf (2+r2.1) (t2.2.2.length:Int) y)∧0≤t.2.1∧t.2.1≤195) ?_ (fun t3 ht3=>?_)
 ·refine oO (fun j (s:Int×List Int×Int×List aO)=>s.1=(j:Int)∧0≤s.2.2.1∧s.2.2.1≤87+18*(j:Int)∧(s.2.2.2.length:Int)=(j:Int)∧∀y∈s.2.2.2,Qf (2+r2.1) (t2.2.2.length:Int) y) (2+r39.1).toNat (fun j s hj hs=>?_) (fun s hs=>?_) (by omega) ⟨rfl,q3'.1,by have:=q3'.2;simp;omega,by simp,by simp⟩
  ·obtain⟨g1,g2,g3,g4,g5⟩:=hs;have hlt:s.1<2+r39.1:=by omega
   rw[if_pos hlt];refine Good.bind (Ip (n:=n) (Go.L.az.mk s.2.1 s.2.2.1) (2+r2.1) 3 (87+18*(j:Int)) ⟨g2,g3⟩ (by omega) (by omega) (by omega) hn) (fun r hr=>?_)
   obtain⟨m1,m4⟩:=hr;refine Good.bind (Ip (n:=n) r.2 (t2.2.2.length:Int) 4 (87+18*(j:Int)+9) m4 (by omega) (by omega) (by omega) hn) (fun r' hr'=>?_)
   obtain⟨m5,m8,m9⟩:=hr';have w:Go.IntKind.wrap .i64 (s.1+1)=s.1+1:=wrap_i64 (by omega) (by omega)
   have hroom:roomy (s.2.2.2.length+1) 48=true:=by simp[roomy];omega
   rw[if_pos hroom,w];refine .some ⟨?_,?_,?_,?_,fun y hy=>?_⟩
   ·show s.1+1=((j+1:Nat):Int);omega
   ·exact m8
   ·show r'.2.at_≤87+18*((j+1:Nat):Int);omega
   ·simp only[List.length_append,List.length_cons,List.length_nil];omega
   ·rcases List.mem_append.1 hy with hy |hy
    ·exact g5 y hy
    ·simp only[List.mem_singleton]at hy;subst hy;exact⟨m1,m5⟩
  ·obtain⟨g1,g2,g3,g4,g5⟩:=hs;have hlt:¬s.1<2+r39.1:=by omega
   rw[if_neg hlt];refine .some ⟨?_,?_,g5,g2,?_⟩
   ·show 2≤s.2.2.2.length;omega
   ·show s.2.2.2.length≤6;omega
   ·show s.2.2.1≤195;omega
 obtain⟨c1,c2,c3,c4,c5⟩:=ht3;refine Good.bind (cF (n:=n) (Go.L.az.mk t3.1 t3.2.1) 9 195 ⟨c4,c5⟩ (by decide) (by decide) (by decide)) (fun r56 h56=>?_)
 obtain⟨v1,v2,v3⟩:=h56;refine Good.bind (γ:=List Int×Int×List Host) (Q:=fun t=>t.2.2.length≤8∧0≤t.2.1∧t.2.1≤228∧Ir t2.2.2 t3.2.2 t.2.2) ?_ (fun t4 ht4=>?_)
 ·refine oO (fun j (s:Int×List Int×Int×List Host)=>s.1=(j:Int)∧0≤s.2.2.1∧s.2.2.1≤196+4*(j:Int)∧(s.2.2.2.length:Int)=(j:Int)∧Ir t2.2.2 t3.2.2 s.2.2.2) r56.1.toNat (fun j s hj hs=>?_) (fun s hs=>?_) (by omega) ⟨rfl,v3.1,by have:=v3.2;simp;omega,by simp,by simp[Ir]⟩
  ·obtain⟨g1,g2,g3,g4,g5⟩:=hs;have hlt:s.1<r56.1:=by omega
   rw[if_pos hlt];refine Good.bind (Qj (n:=n) (Go.L.az.mk s.2.1 s.2.2.1) _ _ _ _ t2.2.2 t3.2.2 _ _ _ _ _ _ _ _ _ _ _ s.1 (196+4*(j:Int)) (t1.2.2.length:Int) ⟨g2,g3⟩ (by omega) (by omega) c3 b5 (by omega) (by omega)) (fun r hr=>?_)
   obtain⟨hh,s3,s4⟩:=hr;have w:Go.IntKind.wrap .i64 (s.1+1)=s.1+1:=wrap_i64 (by omega) (by omega)
   have hroom:roomy (s.2.2.2.length+1) 32=true:=by simp[roomy];omega
   rw[if_pos hroom,w];refine .some ⟨?_,?_,?_,?_,?_⟩
   ·show s.1+1=((j+1:Nat):Int);omega
   ·exact s3
   ·show r.2.at_≤196+4*((j+1:Nat):Int);omega
   ·simp only[List.length_append,List.length_cons,List.length_nil];omega
   ·refine GP (P:=fun i b=>Qg t2.2.2 t3.2.2 (i:Int) b) g5 ?_
    rw[g4,← g1];exact hh
  ·obtain⟨g1,g2,g3,g4,g5⟩:=hs;have hlt:¬s.1<r56.1:=by omega
   rw[if_neg hlt];refine .some ⟨?_,?_,?_,g5⟩
   ·show s.2.2.2.length≤8;omega
   ·exact g2
   ·show s.2.2.1≤228;omega
 obtain⟨d1,d2,d3,d4⟩:=ht4;have hsz:∀lk:List cW,lk.length≤2→(∀x∈lk,Iq (t1.2.2.length:Int) x)→lk.Nodup→Vf {Leaves:=2+r2.1,iy:=1+r3.1,Links:=r11.1,bq:=t1.2.2,bB:=t2.2.2,aF:=t3.2.2,ff:=t4.2.2,gJ:=lk,xV:=r4.1,ry:=r5.1,uq:=r6.1,Ai:=r7.1==0,HB:=r8.1==1,cq:={uo:=1+r9.1,Dn:=9,F7:=40+r10.1,tu:=20,zy:=5,Window:=30}}:=fun lk hlk hlv hld=>
  ⟨⟨by show 2≤2+r2.1;omega,by show 2+r2.1≤4;omega⟩,⟨by show 1≤1+r3.1;omega,by show 1+r3.1≤3;omega⟩,h11.1,⟨u1,u2⟩,u5,⟨b1,b2⟩,b5,⟨c1,c2⟩,c3,d1,d4,hlk,hlv,hld,
   ⟨e1,by show r4.1≤2;omega⟩,⟨e3,by show r5.1≤1;omega⟩,⟨e5,by show r6.1≤1;omega⟩,by show 1≤1+r9.1;omega,by show 1+r9.1≤3;omega,rfl,by show 40≤40+r10.1;omega,by show 40+r10.1≤69;omega,rfl,rfl,rfl⟩
 by_cases hm:(1:Int)<(t1.2.2.length:Int)
 ·rw[if_pos (by simpa using hm)]
  refine Good.bind (cF (n:=n) (Go.L.az.mk t4.1 t4.2.1) 3 228 ⟨d2,d3⟩ (by decide) (by decide) (by decide)) (fun r70 h70=>?_)
  obtain⟨v1',v2',v3'⟩:=h70;refine Good.bind (γ:=List Int×Int×List cW) (Q:=fun t=>t.2.2.length≤2∧(∀x∈t.2.2,Iq (t1.2.2.length:Int) x)∧t.2.2.Nodup) ?_ (fun t5 ht5=>?_)
  ·refine oO (fun j (s:Int×List Int×Int×List cW)=>s.1=(j:Int)∧0≤s.2.2.1∧s.2.2.1≤229+4*(j:Int)∧(s.2.2.2.length:Int)≤(j:Int)∧(∀x∈s.2.2.2,Iq (t1.2.2.length:Int) x)∧s.2.2.2.Nodup) r70.1.toNat (fun j s hj hs=>?_) (fun s hs=>?_) (by omega) ⟨rfl,v3'.1,by have:=v3'.2;simp;omega,by simp,by simp,by simp⟩
   ·obtain⟨g1,g2,g3,g4,g5,g6⟩:=hs;have hlt:s.1<r70.1:=by omega
    rw[if_pos hlt];refine Good.bind (Qh (n:=n) (Go.L.az.mk s.2.1 s.2.2.1) (t1.2.2.length:Int) (229+4*(j:Int)) ⟨g2,g3⟩ (by omega) (by omega)) (fun r hr=>?_)
    obtain⟨hk,s3,s4⟩:=hr;have w:Go.IntKind.wrap .i64 (s.1+1)=s.1+1:=wrap_i64 (by omega) (by omega)
    have hroom:roomy (s.2.2.2.length+1) 32=true:=by simp[roomy];omega
    refine Good.bind (γ:=Unit⊕Unit) (Q:=fun t=>match t with | .inl _=>True | .inr _=>r.1∉s.2.2.2) ?_ (fun t ht=>?_)
    ·refine oO (fun i (q:Int)=>q=(i:Int)∧∀j<i,∀y,s.2.2.2[j]? =some y→y≠r.1) s.2.2.2.length (fun i q hi hq=>?_) (fun q hq=>?_) (by omega) ⟨rfl,by simp⟩
     ·obtain⟨rfl,hq⟩:=hq;have hlt:(i:Int)<(s.2.2.2.length:Int):=by omega
      rw[if_pos hlt,cQ _ _ _ _ _ _ (by omega) hlt]
      simp only[iq,Int.toNat_natCast,List.getElem?_eq_getElem hi,Option.bind_some];split
      ·exact .some trivial
      ·rename_i hne;refine .some ⟨eu (by omega),fun k hk y hy=>?_⟩
       rcases Nat.lt_or_ge k i with hki |hki
       ·exact hq k hki y hy
       ·have:k=i:=by omega
        subst this;rw[List.getElem?_eq_getElem hi]at hy;simp only[Option.some.injEq]at hy;subst hy;intro e;apply hne;simp[e]
     ·obtain⟨rfl,hq⟩:=hq;simp only[Int.lt_irrefl,if_false];refine .some fun hmem=>?_
      obtain⟨k,hk⟩:=List.getElem?_of_mem hmem;exact hq k (List.getElem?_eq_some_iff.1 hk).1 _ hk rfl
    ·cases t with
     |inl _=>
      simp only[Sum.elim,G.run,aI,if_true];rw[w];refine .some ⟨?_,s3,?_,?_,g5,g6⟩
      ·show s.1+1=((j+1:Nat):Int);omega
      ·show r.2.at_≤229+4*((j+1:Nat):Int);omega
      ·show(s.2.2.2.length:Int)≤((j+1:Nat):Int);omega
     |inr _=>
      simp only[Sum.elim,G.run,aI,vc,if_true];rw[if_pos ⟨trivial,hroom⟩,w];refine .some ⟨?_,s3,?_,?_,fun x hx=>?_,?_⟩
      ·show s.1+1=((j+1:Nat):Int);omega
      ·show r.2.at_≤229+4*((j+1:Nat):Int);omega
      ·simp only[List.length_append,List.length_cons,List.length_nil];omega
      ·rcases List.mem_append.1 hx with hx |hx
       ·exact g5 x hx
       ·simp only[List.mem_singleton]at hx;subst hx;exact hk
      ·rw[List.nodup_append];refine⟨g6,by simp,fun a ha b hb=>?_⟩
       simp only[List.mem_singleton]at hb;subst hb;rintro rfl;exact ht ha
   ·obtain⟨g1,g2,g3,g4,g5,g6⟩:=hs;have hlt:¬s.1<r70.1:=by omega
    rw[if_neg hlt];exact .some ⟨by show s.2.2.2.length≤2;omega,g5,g6⟩
  ·exact .some (hsz _ ht5.1 ht5.2.1 ht5.2.2)
 ·rw[if_neg (by simpa using hm)]
  exact .some (hsz [] (by simp) (by simp) (by simp))
end
end Go.L
namespace Go.L
open Go.AM
set_option maxRecDepth 100000
set_option linter.unusedSimpArgs false
set_option linter.unusedVariables false
set_option linter.unusedSectionVars false
theorem oP{α K:Type}[DecidableEq K](key:α→K)(l:List α)(i:Nat)(x:α)(hx:l[i]? =some x)(h:∀(j:Nat) y,j<i→l[j]? =some y→key y≠key x):(bM key [] l).getD i false=false:=by
 rw[List.getD_eq_getElem?_getD,Ia,hx];simp only[Option.map_some,Option.getD_some,List.nil_append,decide_eq_false_iff_not,List.mem_map,not_exists,not_and];intro y hy e;obtain⟨j,hj⟩:=List.getElem?_of_mem hy;rw[List.getElem?_take]at hj;split at hj
 ·rename_i hlt;exact h j y hlt hj e
 ·cases hj
theorem rA{p:ByteArray}{m:Int}{b:Bool}{r:Option (Int×Nat)}(hb:b=false)(hr:r=none):outcome p m b r=.inl ():=by
 subst hb;subst hr;rfl
theorem qm{α:Type}{E:Nat→α→Int}{l:List α}(h:∀(j:Nat) x,l[j]? =some x→E j x=0):bY E 0 l=none:=
 (uC l 0).2 fun j x hx=>by rw[Nat.zero_add];exact h j x hx
theorem Qk:∀{l:List Int},qe l→yY l=true
 | [],_=>rfl
 | [_],_=>rfl
 |x::y::l,h=>by
  have h':qe (y::l):=(List.pairwise_cons.1 h).2;have hxy:x<y:=(List.pairwise_cons.1 h).1 y (by simp)
  have ih:=Qk h';simp only[yY,List.tail_cons,List.zip_cons_cons,List.all_cons,Bool.and_eq_true,decide_eq_true_eq]at ih ⊢;exact⟨hxy,ih⟩
theorem Sb{α:Type}{l:List α}(h:l.Nodup){i j:Nat}{x y:α}(hx:l[i]? =some x)(hy:l[j]? =some y)(hij:j<i):y≠x:=by
 obtain⟨h1,rfl⟩:=List.getElem?_eq_some_iff.1 hx;obtain⟨h2,rfl⟩:=List.getElem?_eq_some_iff.1 hy;exact(List.pairwise_iff_getElem.1 h) j i h2 h1 hij
section
variable {f:bH} (hv:Vf f)
include hv
theorem TT:Ik f=.inl ():=by
 obtain⟨h1,h2,h3⟩:=hv.links;refine rA (by simp;omega) (qm fun i x hx=>?_)
 obtain⟨a1,a2,a3,a4,a5,a6⟩:=h2 x (List.mem_of_getElem? hx);have hf:=oP (fun x:cK=>(⟨x.A,x.B⟩:V2 Int)) f.Links i x hx fun j y hj hy e=>by
  have e1:(f.Links.map DC)[i]? =some (DC x):=by rw[List.getElem?_map,hx];rfl
  have e2:(f.Links.map DC)[j]? =some (DC y):=by rw[List.getElem?_map,hy];rfl
  exact Sb h3 e1 e2 hj e
 have hw:Go.IntKind.wrap .i64 (f.Leaves+f.iy)=f.Leaves+f.iy:=wrap_i64 (by have:=hv.leaves;have:=hv.Is;omega) (by have:=hv.leaves;have:=hv.Is;omega)
 have c1:(decide (0≤x.A)&&decide (x.A<f.Leaves))=true:=by simp[a1,a2]
 have c2:decide (x.B≥f.Leaves)=true:=by simp;omega
 have c3:¬(!decide (x.B<Go.IntKind.wrap .i64 (f.Leaves+f.iy)))=true:=by rw[hw];simp;omega
 have c4:¬(decide (x.EB<1)||decide (1000<x.EB))=true:=by simp;omega
 rw[FC,if_pos c1,if_pos c2,if_neg c3,if_neg c4,hf,if_neg (by decide)]
theorem Ql:DB f=.inl ():=by
 obtain⟨h1,h2⟩:=hv.xI;have ht:=hv.Oz;refine rA (by simp;omega) (qm fun i x hx=>?_)
 have hi:=(List.getElem?_eq_some_iff.1 hx).1;have e:=ht i x hx;have hf1:=oP (fun x:aJ=>x.gy) f.bq i x hx fun j y hj hy e'=>by
  have e2:=ht j y hy;subst e2;subst e;simp at e';omega
 have hf2:=oP (fun x:aJ=>x.Target) f.bq i x hx fun j y hj hy e'=>by
  have e2:=ht j y hy;subst e2;subst e;simp at e';omega
 subst e;have c1:¬decide ((100+(i:Int))<1)=true:=by simp;omega
 have c2:¬decide (16777215<(100+(i:Int)))=true:=by simp;omega
 have c3:¬(((900+(i:Int))==0)=true):=by simp;omega
 rw[zP,if_neg c1,if_neg c2,if_neg c3,hf1,if_neg (by decide),hf2,if_neg (by decide)]
theorem TU:Im f=.inl ():=by
 refine rA (by have:=hv.KM;simp;omega) (qm fun i x hx=>?_)
 obtain⟨a1,a2,a3,a4,a5,a6⟩:=hv.W5 x (List.mem_of_getElem? hx);have hf:=oP (fun x:cW=>x) f.gJ i x hx fun j y hj hy e=>Sb hv.WD hx hy hj e
 have c1:¬(!(decide (0≤x.From)&&decide (x.From<(f.bq.length:Int))))=true:=by simp[a1,a2]
 have c2:¬(!(decide (0≤x.To)&&decide (x.To<(f.bq.length:Int))))=true:=by simp[a3,a4]
 have c3:¬(x.From==x.To)=true:=by simp[a5]
 have c4:¬(!qY x.Prefix)=true:=by
  rcases a6 with e |⟨t,t0,t4,e⟩
  ·rw[e];decide
  ·rw[e];rcases(by omega:t=0∨t=1∨t=2∨t=3)with rfl |rfl |rfl |rfl<;>decide
 rw[FD,if_neg c1,if_neg c2,if_neg c3,if_neg c4,hf,if_neg (by decide)]
theorem Qm:AY f=.inl ():=by
 obtain⟨h1,h2⟩:=hv.vp;obtain⟨h3,h4⟩:=hv.xI;have hb:=hv.bd;refine rA (by simp;omega) (qm fun i b hx=>?_)
 have hi:=(List.getElem?_eq_some_iff.1 hx).1;obtain⟨a1,a2,a3,a4,a5⟩:=hb i b hx;have hf1:=oP (fun x:BD=>x.gy) f.bB i b hx fun j y hj hy e=>by
  have:=(hb j y hy).2.2.1;have e':y.gy=b.gy:=e;omega
 have hf2:=oP (fun x:BD=>x.Target) f.bB i b hx fun j y hj hy e=>by
  have:=(hb j y hy).2.2.2.1;have e':y.Target=b.Target:=e;omega
 have c1:¬(!(decide (0≤b.aJ)&&decide (b.aJ<(f.bq.length:Int))))=true:=by simp[a1,a2]
 have c2:¬decide (b.gy<1)=true:=by simp;omega
 have c3:¬decide (16777215<b.gy)=true:=by simp;omega
 have c4:¬(b.Target==0)=true:=by simp;omega
 have c5:¬(f.bq.any fun x=>x.gy==b.gy)=true:=by
  simp only[List.any_eq_true,beq_iff_eq,not_exists,not_and];intro t ht e;obtain⟨j,hj⟩:=List.getElem?_of_mem ht;have:=hv.Oz j t hj;have hjl:=(List.getElem?_eq_some_iff.1 hj).1;rw[this]at e;simp only at e;omega
 have c6:¬(f.bq.any fun x=>x.Target==b.Target)=true:=by
  simp only[List.any_eq_true,beq_iff_eq,not_exists,not_and];intro t ht e;obtain⟨j,hj⟩:=List.getElem?_of_mem ht;have:=hv.Oz j t hj;have hjl:=(List.getElem?_eq_some_iff.1 hj).1;rw[this]at e;simp only at e;omega
 rw[GO,if_neg c1,if_neg c2,if_neg c3,if_neg c4,hf1,if_neg (by decide),hf2,if_neg (by decide),if_neg c5,if_neg c6]
 rcases a5 with⟨e1,e2⟩ |⟨e1,e2⟩
 ·rw[e1,e2,if_pos (by decide),if_neg (by decide)]
 ·have c7:¬(b.bC==0)=true:=by simp;omega
  have c11:¬((f.bB.take i).any (tG b.aJ b.bT.IP b.bT.Len))=true:=by
   simp only[List.any_eq_true,not_exists,not_and];intro y hy ho;obtain⟨j,hj⟩:=List.getElem?_of_mem hy;rw[List.getElem?_take]at hj;split at hj
   ·rename_i hlt;obtain⟨-,-,-,-,a6⟩:=hb j y hj;simp only[tG,Bool.and_eq_true,bne_iff_ne]at ho;obtain⟨-,hg,hc⟩:=ho;rcases a6 with⟨e3,e4⟩ |⟨e3,e4⟩
    ·exact hg e4
    ·rw[e1,e3]at hc;simp only at hc;rcases(by omega:(j=0∧i=1)∨(j=0∧i=2)∨(j=0∧i=3)∨(j=1∧i=2)∨(j=1∧i=3)∨(j=2∧i=3))with⟨rfl,rfl⟩ |⟨rfl,rfl⟩ |⟨rfl,rfl⟩ |⟨rfl,rfl⟩ |⟨rfl,rfl⟩ |⟨rfl,rfl⟩<;>revert hc<;>decide
   ·cases hj
  have c8:¬(!qY b.bT)=true:=by
   rw[e1];rcases(by omega:i=0∨i=1∨i=2∨i=3)with rfl |rfl |rfl |rfl<;>decide
  have c9:¬out b.bT.Len 8 30=true:=by rw[e1];show ¬out 24 8 30=true;decide
  have c10:¬(!AU b.bT b.bC)=true:=by
   rw[e1,e2];rcases(by omega:i=0∨i=1∨i=2∨i=3)with rfl |rfl |rfl |rfl<;>decide
  rw[if_neg c7,if_neg c8,if_neg c9,if_neg c10,if_neg c11]
theorem Ny:BH f=.inl ():=by
 obtain⟨h1,h2⟩:=hv.segments;refine rA (by simp;omega) (qm fun i x hx=>?_)
 have hi:=(List.getElem?_eq_some_iff.1 hx).1;obtain⟨⟨a1,a2,a3,a4⟩,⟨b1,b2,b3,b4⟩⟩:=hv.seg x (List.mem_of_getElem? hx);have c1:¬((x.Leaves.length:Int)==0)=true:=by simp only[beq_iff_eq];omega
 have c2:¬((x.bB.length:Int)==0)=true:=by simp only[beq_iff_eq];omega
 have c3:¬(x.Leaves.any fun n=> !(decide (0≤n)&&decide (n<f.Leaves)))=true:=by
  simp only[List.any_eq_true,not_exists,not_and];intro y hy;have:=a3 y hy;simp[this.1,this.2]
 have c4:¬(x.bB.any fun n=> !(decide (0≤n)&&decide (n<(f.bB.length:Int))))=true:=by
  simp only[List.any_eq_true,not_exists,not_and];intro y hy;have:=b3 y hy;simp[this.1,this.2]
 have c5:¬(!yY x.Leaves)=true:=by rw[Qk a4];decide
 have c6:¬(!yY x.bB)=true:=by rw[Qk b4];decide
 have c7:¬(x.Leaves.any fun n=>decide (32<(((f.aF.take i).countP fun s=>s.Leaves.contains n:Nat):Int)+1))=true:=by
  simp only[List.any_eq_true,not_exists,not_and,decide_eq_true_eq];intro y hy;have h3:((f.aF.take i).countP fun s=>s.Leaves.contains y)≤(f.aF.take i).length:=List.countP_le_length
  have h4:(f.aF.take i).length≤f.aF.length:=by simp;omega
  omega
 rw[Ji,if_neg c1,if_neg c2,if_neg c3,if_neg c4,if_neg c5,if_neg c6,if_neg c7]
theorem TV:Il f=.inl ():=by
 have h1:=hv.KL;have hh:=hv.host;refine rA (by simp;omega) (qm fun i h hx=>?_)
 have hi:=(List.getElem?_eq_some_iff.1 hx).1;obtain⟨a1,a2,a3,a4,a5⟩:=hh i h hx;have hf1:=oP (fun x:Host=>(⟨x.BD,x.dM⟩:aS)) f.ff i h hx fun j y hj hy e=>by
  have:=(hh j y hy).1;simp only[aS.mk.injEq]at e;omega
 have c1:¬(h.dM==0)=true:=by simp;omega
 have c2:¬decide (281474976710655<h.dM)=true:=by simp;omega
 have c3:¬FE h.dM=true:=by
  rw[a1];rcases(by omega:i=0∨i=1∨i=2∨i=3∨i=4∨i=5∨i=6∨i=7)with rfl |rfl |rfl |rfl |rfl |rfl |rfl |rfl<;>decide
 have c4:¬(!(decide (0≤h.BD)&&decide (h.BD<(f.bB.length:Int))))=true:=by simp[a2,a3]
 have hsr:h.aO= -1∨0≤h.aO∧h.aO<(f.aF.length:Int):=by
  rcases a4 with e |⟨s,hs,-⟩
  ·exact .inl e
  ·right;unfold gi at hs;split at hs
   ·have:=(List.getElem?_eq_some_iff.1 hs).1;omega
   ·cases hs
 have c5:¬out h.aO (-1) ((f.aF.length:Int) - 1)=true:=by
  simp only[out,Bool.or_eq_true,decide_eq_true_eq,not_or];have:=hv.segments;omega
 have c6:¬(h.aO != -1&& !(CS f h.aO).any fun x=>h.BD==x)=true:=by
  rcases a4 with e |⟨s,hs,hm⟩
  ·rw[e];simp
  ·have:((CS f h.aO).any fun x=>h.BD==x)=true:=by
    unfold CS;rw[hs];simp only[Option.map_some,Option.getD_some,List.any_eq_true];exact⟨h.BD,hm,by simp⟩
   rw[this];simp
 have c7:¬(h.dM==1577058561)=true:=by simp;omega
 have c8:¬vo h.dM=true:=by
  simp only[vo,Bool.and_eq_true,Bool.not_eq_true',decide_eq_false_iff_not,not_and];omega
 have hbd:=hv.vp;have key:h.IP≠0→∃d:Nat,d<4∧h.BD=(d:Int)∧h.IP=167772160+(d:Int)*65536+(10+(i:Int))∧(E7 f h.BD).bC=167772161+(d:Int)*65536∧(E7 f h.BD).bT=⟨167772160+(d:Int)*65536,24⟩:=by
  intro h0;rcases a5 with e |⟨b,hb,hg,e⟩
  ·exact absurd e h0
  ·obtain⟨d,hd⟩:∃d:Nat,h.BD=(d:Int):=⟨h.BD.toNat,by omega⟩
   have hbv:=hv.bd d b (by rw[hd,bQ]at hb;exact hb)
   obtain⟨-,-,-,-,e3 |e3⟩:=hbv
   ·exact absurd e3.2 hg
   ·refine⟨d,by omega,hd,?_,?_,?_⟩
    ·rw[e,e3.1]
    ·unfold E7;rw[hb];exact e3.2
    ·unfold E7;rw[hb];exact e3.1
 have c9:¬(!nA (E7 f h.BD) h.IP)=true:=by
  by_cases h0:h.IP=0
  ·rw[h0];simp[nA]
  ·obtain⟨d,hd,-,e1,e2,e3⟩:=key h0;rw[nA,e1,e2,e3];have hi8:i<8:=by omega
   clear key a5 a4 c6 c5 hsr c8 c7 c4 c3 c2 c1 hf1 a1 a2 a3 hx hh hbd h1 hv e1 e2 e3 h0;rcases(by omega:d=0∨d=1∨d=2∨d=3)with rfl |rfl |rfl |rfl<;>
    rcases(by omega:i=0∨i=1∨i=2∨i=3∨i=4∨i=5∨i=6∨i=7)with rfl |rfl |rfl |rfl |rfl |rfl |rfl |rfl<;>decide
 have c10:¬(h.IP != 0&&(bM (fun x:Host=>(⟨x.BD,Go.IntKind.wrap .u64 x.IP⟩:aS)) [] f.ff).getD i false)=true:=by
  by_cases h0:h.IP=0
  ·rw[h0];simp
  ·obtain⟨d,hd,ed,e1,-,-⟩:=key h0;rw[oP (fun x:Host=>(⟨x.BD,Go.IntKind.wrap .u64 x.IP⟩:aS)) f.ff i h hx fun j y hj hy e=>by
    simp only[aS.mk.injEq]at e;obtain⟨eb,ei⟩:=e;obtain⟨-,-,-,-,y5⟩:=hh j y hy;rcases y5 with y5 |⟨b,hb,hg,y5⟩
    ·rw[y5,e1]at ei;rcases(by omega:d=0∨d=1∨d=2∨d=3)with rfl |rfl |rfl |rfl<;>(simp only[Go.IntKind.wrap,Go.IntKind.bits,Go.IntKind.signed]at ei;simp at ei;omega)
    ·have hbv:=hv.bd d b (by rw[eb,ed,bQ]at hb;exact hb)
     obtain⟨-,-,-,-,e3 |e3⟩:=hbv
     ·exact absurd e3.2 hg
     ·rw[y5,e3.1,e1]at ei;simp only[Go.IntKind.wrap,Go.IntKind.bits,Go.IntKind.signed]at ei;simp at ei;omega]
   simp
 rw[FF,if_neg c1,if_neg c2,if_neg c3,if_neg c4,if_neg c5,if_neg c6,if_neg c7,if_neg c8,if_neg c9,hf1,if_neg (by decide),if_neg c10]
theorem Sc:xJ f=.inl ():=by
 have hL:=hv.leaves;have hS:=hv.Is;have hw:Go.IntKind.wrap .i64 (f.Leaves+f.iy)=f.Leaves+f.iy:=wrap_i64 (by omega) (by omega)
 have e1:=hv.WE;have e2:=hv.US;have e3:=hv.V9;have:vn f=false:=by
  simp only[vn,out,hw,Bool.or_eq_false_iff,decide_eq_false_iff_not];omega
 rw[xJ,this];rfl
theorem Sd:CT f=.inl ():=by
 obtain⟨t1,t2,t3,t4,t5,t6,t7,t8⟩:=hv.timers;have:yw f.cq=false:=by
  simp only[yw,out,Bool.or_eq_false_iff,decide_eq_false_iff_not];omega
 rw[CT,this];rfl
theorem TW:CU f=(0,⟨⟨[]⟩⟩,0):=by
 simp only[CU,Sc hv,Sd hv,TT hv,Ql hv,Qm hv,Ny hv,TV hv,TU hv,zF]
theorem TX:Small f:=by
 refine⟨?_,?_,?_,?_,?_,?_,fun s hs=>?_⟩
 ·have:=hv.links.1;omega
 ·have:=hv.xI;omega
 ·have:=hv.vp;omega
 ·have:=hv.segments;omega
 ·have:=hv.KL;omega
 ·have:=hv.KM;omega
 ·obtain⟨⟨a1,a2,-⟩,⟨b1,b2,-⟩⟩:=hv.seg s hs;omega
end
end Go.L
