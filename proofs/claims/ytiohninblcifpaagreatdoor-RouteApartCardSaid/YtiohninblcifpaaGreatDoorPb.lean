/- Parts put together. No conditions. -/
import Derived.Test.YtiohninblcifpaaGreatDoorPa
import Derived.Test.YtiohninblcifpaaGreatDoorAd
import Derived.Test.YtiohninblcifpaaGreatDoorWb
set_option linter.unusedSectionVars false
set_option linter.unusedSimpArgs false
set_option linter.unusedVariables false
set_option maxRecDepth 100000
section
namespace Go.L
open Go.AM
section
variable {K V:Type} {eq:K→K→Bool}
theorem Ep(heq:∀a b,eq a b=true↔a=b){k:K}:∀(m:List (K×V)) (j:Nat),bt eq k m j=none→∀p∈m,p.1≠k
 | [],_,_,_,hp=>by cases hp
 |p::ps,j,h,q,hq=>by
  simp only[bt]at h;split at h
  ·cases h
  ·rename_i hne;rcases List.mem_cons.1 hq with rfl |hq
   ·intro e;exact hne ((heq _ _).2 e.symm)
   ·exact Ep heq ps (j+1) h q hq
theorem BO(heq:∀a b,eq a b=true↔a=b){k:K}:∀(m:List (K×V)) (j i:Nat) (v:V),bt eq k m j=some (i,v)→j≤i∧m[i - j]? =some (k,v)
 | [],_,_,_,h=>by simp[bt]at h
 |p::ps,j,i,v,h=>by
  simp only[bt]at h;split at h
  ·rename_i he;simp only[Option.some.injEq,Prod.mk.injEq]at h;obtain⟨rfl,rfl⟩:=h;have:=(heq _ _).1 he;exact⟨Nat.le_refl _,by simp[this]⟩
  ·obtain⟨h1,h2⟩:=BO heq ps (j+1) i v h;refine⟨by omega,?_⟩
   rw[show i - j=(i - (j+1))+1 by omega]
   simpa using h2
theorem O5{m:List (K×V)}(hn:(m.map (·.1)).Nodup){i j:Nat}{k:K}{v w:V}(hi:m[i]? =some (k,v))(hj:m[j]? =some (k,w)):i=j:=by
 have e1:(m.map (·.1))[i]? =some k:=by rw[List.getElem?_map,hi];rfl
 have e2:(m.map (·.1))[j]? =some k:=by rw[List.getElem?_map,hj];rfl
 obtain⟨l1,q1⟩:=List.getElem?_eq_some_iff.1 e1;exact(List.getElem?_inj l1 hn).1 (e1.trans e2.symm)
theorem Tl(heq:∀a b,eq a b=true↔a=b)(m:List (K×V))(k:K)(v:V)(hn:(m.map (·.1)).Nodup)(q:K)(w:V):(q,w)∈cm eq k v m↔(q=k∧w=v)∨(q≠k∧(q,w)∈m):=by
 unfold cm;split
 ·rename_i i u hf;obtain⟨_,h2⟩:=BO heq m 0 i u hf;simp only[Nat.sub_zero]at h2;have hil:=(List.getElem?_eq_some_iff.1 h2).1;constructor
  ·intro h;obtain⟨j,hj⟩:=List.mem_iff_getElem?.1 h;rw[List.getElem?_set]at hj;by_cases he:i=j
   ·rw[if_pos he,if_pos hil]at hj;cases hj;exact .inl ⟨rfl,rfl⟩
   ·have hne:=he;rw[if_neg he]at hj;refine .inr ⟨?_,List.mem_of_getElem? hj⟩;rintro rfl;exact hne (O5 hn h2 hj)
  ·rintro(⟨rfl,rfl⟩ |⟨hne,h⟩)
   ·exact List.mem_iff_getElem?.2 ⟨i,by rw[List.getElem?_set];simp[hil]⟩
   ·obtain⟨j,hj⟩:=List.mem_iff_getElem?.1 h;refine List.mem_iff_getElem?.2 ⟨j,?_⟩;rw[List.getElem?_set,if_neg ?_]
    ·exact hj
    ·rintro rfl;rw[h2]at hj;simp only[Option.some.injEq,Prod.mk.injEq]at hj;exact hne hj.1.symm
 ·rename_i hf;have h2:=Ep heq m 0 hf;rw[List.mem_append,List.mem_singleton,Prod.mk.injEq];constructor
  ·rintro(h |h)
   ·exact .inr ⟨h2 _ h,h⟩
   ·exact .inl h
  ·rintro(h |⟨_,h⟩)
   ·exact .inr h
   ·exact .inl h
theorem Ks(heq:∀a b,eq a b=true↔a=b)(m:List (K×V))(k:K)(v:V)(hn:(m.map (·.1)).Nodup):((cm eq k v m).map (·.1)).Nodup∧(cm eq k v m).length≤m.length+1:=by
 unfold cm;split
 ·rename_i i u hf;obtain⟨_,h2⟩:=BO heq m 0 i u hf;simp only[Nat.sub_zero]at h2;have he:(m.set i (k,v)).map (·.1)=m.map (·.1):=by
   rw[List.map_set];obtain⟨hl,hg⟩:=List.getElem?_eq_some_iff.1 (show(m.map (·.1))[i]? =some k by rw[List.getElem?_map,h2];rfl)
   have e2:(m.map (·.1)).set i k=m.map (·.1):=by
    rw[← hg];exact List.set_getElem_self hl
   exact e2
  rw[he];exact⟨hn,by simp⟩
 ·rename_i hf;have h2:=Ep heq m 0 hf;rw[List.map_append];refine⟨List.nodup_append.2 ⟨hn,by simp,fun x hx y hy=>?_⟩,by simp⟩
  simp only[List.map_cons,List.map_nil,List.mem_singleton]at hy;subst hy;obtain⟨p,hp,rfl⟩:=List.mem_map.1 hx;exact h2 p hp
theorem Kt(m:List (K×V))(k:K):∀(j:Nat),bt eq k m j=(bt eq k m 0).map fun x=>(x.1+j,x.2):=by
 induction m with
 |nil=>intro j;rfl
 |cons p ps ih=>
  intro j;simp only[bt];split
  ·simp
  ·rw[ih (j+1),ih (0+1)];cases bt eq k ps 0 with
   |none=>rfl
   |some x=>simp only[Option.map_some,Option.some.injEq,Prod.mk.injEq,and_true];omega
def getM(eq:K→K→Bool)(k:K)(m:List (K×V)):Option V:=(bt eq k m 0).map (·.2)
theorem QU(k:K):getM eq k ([]:List (K×V))=none:=rfl
theorem xS(p:K×V)(m:List (K×V))(k:K):getM eq k (p::m)=if eq k p.1=true then some p.2 else getM eq k m:=by
 unfold getM;simp only[bt];split
 ·rfl
 ·rw[Kt m k (0+1)];cases bt eq k m 0<;>rfl
theorem wT(heq:∀a b,eq a b=true↔a=b)(m:List (K×V))(k:K)(v:V)(q:K)[Decidable (q=k)]:getM eq q (cm eq k v m)=if q=k then some v else getM eq q m:=by
 induction m with
 |nil=>
  show getM eq q [(k,v)]=_;rw[xS];by_cases h:q=k
  ·rw[if_pos h,if_pos ((heq _ _).2 h)]
  ·rw[if_neg h,if_neg (fun e=>h ((heq _ _).1 e))]
 |cons p m ih=>
  by_cases hp:eq k p.1=true
  ·have e:cm eq k v (p::m)=(k,v)::m:=by unfold cm;simp only[bt,if_pos hp];rfl
   rw[e,xS,xS];have hk:=(heq _ _).1 hp;by_cases h:q=k
   ·rw[if_pos h,if_pos ((heq _ _).2 h)]
   ·rw[if_neg h,if_neg (fun e=>h ((heq _ _).1 e)),if_neg (fun e=>h (((heq _ _).1 e).trans hk.symm))]
  ·have e:cm eq k v (p::m)=p::cm eq k v m:=by
    unfold cm;simp only[bt,if_neg hp];rw[Kt m k (0+1)];cases bt eq k m 0 with
    |none=>rfl
    |some x=>rfl
   rw[e,xS,xS,ih];by_cases hq:eq q p.1=true
   ·have:q≠k:=fun h=>hp ((heq _ _).2 (h▸(heq _ _).1 hq))
    rw[if_pos hq,if_pos hq,if_neg this]
   ·rw[if_neg hq,if_neg hq]
theorem QV(heq:∀a b,eq a b=true↔a=b){m:List (K×V)}(hn:(m.map (·.1)).Nodup)(k:K)(v:V):getM eq k m=some v↔(k,v)∈m:=by
 constructor
 ·intro h;unfold getM at h;cases hf:bt eq k m 0 with
  |none=>rw[hf]at h;cases h
  |some x=>
   obtain⟨i,w⟩:=x;rw[hf]at h;cases h;exact List.mem_of_getElem? (BO heq m 0 i w hf).2
 ·intro h;unfold getM;cases hf:bt eq k m 0 with
  |none=>exact absurd rfl (Ep heq m 0 hf _ h)
  |some x=>
   obtain⟨i,w⟩:=x;have h2:=(BO heq m 0 i w hf).2;obtain⟨j,hj,he⟩:=List.getElem_of_mem h;have hj2:m[j]? =some (k,v):=by rw[List.getElem?_eq_getElem hj,he]
   have:=O5 hn h2 hj2;rw[this,hj2]at h2;simp only[Option.some.injEq,Prod.mk.injEq,true_and]at h2;subst h2;rfl
end
end Go.L
end
section
namespace Go.L
open Go.AM
theorem QW(n:Nat)(l:List Int)(v:Int)(hn:l.length<n)(hs:l.length<100000):At (jd.S n (l,v)) (fun(r:Int)=>0≤r↔v∈l):=by
 refine(?_ :cF n (jc l v) _);unfold jc;refine .skip (.op () rfl (.skip (.loop (fun a:Int=>dI l (fun pre (_:Unit)=>v∉pre) (a,())) (fun a=>l.length - a.toNat) (Sum.elim (fun(t:Int)=>0≤t∧v∈l) fun _=>v∉l) rfl (dI.start (by simp)) (by simpa using hn) (fun a ha=>?_) (fun t ht=>?_))))
 ·refine .skip (.br (fun h=>?_) fun h=>.skip (.done rfl (ha.fin h)))
  obtain⟨x,pre,h1,h2,h3,_,h4⟩:=ha.get h;refine .skip (.op x h1 (.skip (.br (fun he=>.skip (.done rfl ?_)) fun he=>.skip (.done rfl ?_))))
  ·obtain⟨i,hi,_⟩:=ha;refine⟨by show(0:Int)≤a;simp only at hi;omega,?_⟩
   rw[beq_iff_eq]at he;rw[he];exact h2
  ·refine h4 hs () ?_;rw[beq_eq_false_iff_ne]at he;simp only[List.mem_append,List.mem_singleton,not_or];exact⟨h3,he⟩
 ·cases t with
  |inl t=>exact .done rfl ⟨fun _=>ht.2,fun _=>ht.1⟩
  |inr t=>exact .skip (.done rfl ⟨fun h=>absurd h (by decide),fun h=>absurd h ht⟩)
theorem Bc(n:Nat)(l:List Int)(v:Int)(hn:l.length<n)(hs:l.length<100000):At (dY.S n (l,v)) (fun(b:Bool)=>b=decide (v∈l)):=by
 refine(?_ :cF n (hG l v) _);unfold hG;refine .skip (.call _ (QW n l v hn hs) fun r hr=>.skip (.done rfl ?_))
 exact decide_eq_decide.2 hr
end Go.L
end
section
namespace Go.AM
section
variable {P:Program} [aF] {ρ:Type} {n:Nat} {p:ρ→Prop}
def dG(n:Nat)(g:G P ρ)(p:ρ→Prop):Prop:=g.can n p
theorem dG.skip{m:Nat}{g:G P ρ}(h:dG n g p):dG n (.skip m g) p:=h
theorem dG.br{d:Tmp}{c:Bool}{t f:G P ρ}(ht:c=true→dG n t p)(hf:c=false→dG n f p):dG n (.br d c t f) p:=by
 show if c then t.can n p else f.can n p
 cases c with
 |true=>exact ht rfl
 |false=>exact hf rfl
theorem dG.sp{c:Bool}{t f:G P ρ}(ht:c=true→dG n t p)(hf:c=false→dG n f p):dG n (.sp c t f) p:=by
 show if c then t.can n p else f.can n p
 cases c with
 |true=>exact ht rfl
 |false=>exact hf rfl
theorem dG.call{c:aD P}{x:c.X}{k:c.sh.El→G P ρ}(q:c.sh.El→Prop)(h:At (c.S n x) q)(hk:∀r,q r→dG n (k r) p):dG n (.call c x k) p:=
 let⟨r,h1,h2⟩:=h;⟨r,h1,hk r h2⟩
theorem dG.cV{c:yf P}{x:c.X}{k:c.sh.El→G P ρ}(q:c.sh.El→Prop)(h:At (c.S n x) q)(hk:∀r,q r→dG n (k r) p):dG n (.cV c x k) p:=
 let⟨r,h1,h2⟩:=h;⟨r,h1,hk r h2⟩
theorem dG.bw{c:dF P}{b v:Nat}{ex:List PR}{x:c.X}{k:c.sh.El→G P ρ}(q:c.sh.El→Prop)(h:At (c.S n x) q)(hk:∀r,q r→dG n (k r) p):dG n (.bw c b v ex x k) p:=
 let⟨r,h1,h2⟩:=h;⟨r,h1,hk r h2⟩
theorem dG.op{X:Type}{t:mO X}{k:X→G P ρ}(x:X)(h:t.run=some x)(hk:dG n (k x) p):dG n (.op t k) p:=⟨x,h,hk⟩
theorem dG.done{ts:List TS}{r:ρ}(ht:aO ts=true)(h:p r):dG (P:=P) n (.done ts r) p:=⟨ht,h⟩
theorem dG.tidy{ts:List TS}{g:G P ρ}(ht:aO ts=true)(h:dG n g p):dG n (.tidy ts g) p:=⟨ht,h⟩
theorem dG.inl{pr:List PR}{g:G P ρ}(h:dG n g p):dG n (.inl pr g) p:=h
theorem dG.gu{m:Nat}{g:G P ρ}(h:dG n g p):dG n (.gu m g) p:=h
theorem dG.join{sh:Sh}{Y:sh.El→bh×St}{g:G P sh.El}{k:sh.El→G P ρ}(q:sh.El→Prop)(h:dG n g q)(hk:∀t,q t→dG n (k t) p):dG n (.join sh Y g k) p:=
 G.dy n g hk h
theorem dG.pick{z:PK}{seen:List Nat}{a:G P ρ}{f:Nat→G P ρ}(h0:(∀i,i<z.n→i∈seen)→dG n a p)(h1:∀i,i<z.n→i∉seen→dG n (f i) p):dG n (.pick z seen (pk a f)) p:=⟨h0,h1⟩
theorem dG.grow{z:GK}{k:Bool→G P ρ}(hz:z.ok=true)(h1:dG n (k true) p)(h2:dG n (k false) p):dG n (.grow z k) p:=⟨hz,h1,h2⟩
theorem dG.iter{σ τ:Type}{f:σ→((σ⊕τ)→Prop)→Prop}(hf:∀a (q q':σ⊕τ→Prop),(∀x,q x→q' x)→f a q→f a q')(I:σ→Prop)(m:σ→Nat)(q:τ→Prop)(hb:∀a,I a→f a (o6 I m q a)):
 ∀(M:Nat) (a:σ),I a→m a<M→pU f M a q
 | 0,_,_,h=>absurd h (Nat.not_lt_zero _)
 |M+1,a,hI,hm=>hf a _ _ (fun x hx=>match x,hx with
  | .inl b,hx=>dG.iter hf I m q hb M b hx.1 (by have:=hx.2;omega)
  | .inr t,hx=>hx) (hb a hI)
theorem dG.loop{σ:Type}{sh:Sh}{hd:List TS}{E:σ→St}{X:sh.El→bh×St}{a0:σ}{body:σ→G P (σ⊕sh.El)}{k:sh.El→G P ρ}(I:σ→Prop)(m:σ→Nat)(q:sh.El→Prop)
 (ht:aO hd=true) (hI:I a0) (hm:m a0<n) (hb:∀a,I a→dG n (body a) (o6 I m q a)) (hk:∀t,q t→dG n (k t) p):dG n (.loop sh hd E X a0 body k) p:=by
 refine⟨ht,?_⟩;exact dG.iter (f:=fun a q=>(body a).can n q) (fun a _ _ h h'=>G.dy n (body a) h h') I m (fun t=>(k t).can n p) (fun a ha=>G.dy n (body a) (fun x hx=>match x,hx with
  | .inl b,hx=>hx
  | .inr t,hx=>hk t hx) (hb a ha)) n a0 hI hm
theorem dG.nq{hs sh:Sh}{hd:List TS}{E:hs.El→St}{X:sh.El→bh×St}{a0:hs.El}{body:hs.El→G P (hs.El⊕sh.El)}{k:sh.El→G P ρ}(I:hs.El→Prop)(m:hs.El→Nat)(q:sh.El→Prop)
 (ht:aO hd=true) (hI:I a0) (hm:m a0<n) (hb:∀a,I a→dG n (body a) (o6 I m q a)) (hk:∀t,q t→dG n (k t) p):dG n (.nq hs sh hd E X a0 body k) p:=
 dG.loop (E:=E) (X:=X) I m q ht hI hm hb hk
end
theorem Pc{n:Nat}{seen:List Nat}(hnd:seen.Nodup)(hlt:∀i∈seen,i<n)(hall:∀i,i<n→i∈seen):seen.Perm (List.range n):=
 (List.perm_ext_iff_of_nodup hnd List.nodup_range).2 fun i=>⟨fun h=>List.mem_range.2 (hlt i h),fun h=>hall i (List.mem_range.1 h)⟩
end Go.AM
end
