/- Parts put together. No conditions. -/
import Derived.Test.YtiohninblcifpaaGreatDoorPa
import Derived.Test.YtiohninblcifpaaGreatDoorAd
import Derived.Test.YtiohninblcifpaaGreatDoorWb
set_option linter.unusedSectionVars false
set_option linter.unusedSimpArgs false
set_option linter.unusedVariables false
set_option maxRecDepth 100000
section
namespace Go.L
open Go.AM
section
variable {K V:Type} {eq:K→K→Bool}
theorem Cy(heq:∀a b,eq a b=true↔a=b){k:K}:∀(m:List (K×V)) (j:Nat),aW eq k m j=none→∀p∈m,p.1≠k
 | [],_,_,_,hp=>by cases hp
 |p::ps,j,h,q,hq=>by
  simp only[aW]at h;split at h
  ·cases h
  ·rename_i hne;rcases List.mem_cons.1 hq with rfl |hq
   ·intro e;exact hne ((heq _ _).2 e.symm)
   ·exact Cy heq ps (j+1) h q hq
theorem Cz(heq:∀a b,eq a b=true↔a=b){k:K}:∀(m:List (K×V)) (j i:Nat) (v:V),aW eq k m j=some (i,v)→j≤i∧m[i - j]? =some (k,v)
 | [],_,_,_,h=>by simp[aW]at h
 |p::ps,j,i,v,h=>by
  simp only[aW]at h;split at h
  ·rename_i he;simp only[Option.some.injEq,Prod.mk.injEq]at h;obtain⟨rfl,rfl⟩:=h;have:=(heq _ _).1 he;exact⟨Nat.le_refl _,by simp[this]⟩
  ·obtain⟨h1,h2⟩:=Cz heq ps (j+1) i v h;refine⟨by omega,?_⟩
   rw[show i - j=(i - (j+1))+1 by omega]
   simpa using h2
theorem K7{m:List (K×V)}(hn:(m.map (·.1)).Nodup){i j:Nat}{k:K}{v w:V}(hi:m[i]? =some (k,v))(hj:m[j]? =some (k,w)):i=j:=by
 have e1:(m.map (·.1))[i]? =some k:=by rw[List.getElem?_map,hi];rfl
 have e2:(m.map (·.1))[j]? =some k:=by rw[List.getElem?_map,hj];rfl
 obtain⟨l1,q1⟩:=List.getElem?_eq_some_iff.1 e1;exact(List.getElem?_inj l1 hn).1 (e1.trans e2.symm)
theorem K8(heq:∀a b,eq a b=true↔a=b)(m:List (K×V))(k:K)(v:V)(hn:(m.map (·.1)).Nodup)(q:K)(w:V):(q,w)∈bS eq k v m↔(q=k∧w=v)∨(q≠k∧(q,w)∈m):=by
 unfold bS;split
 ·rename_i i u hf;obtain⟨_,h2⟩:=Cz heq m 0 i u hf;simp only[Nat.sub_zero]at h2;have hil:=(List.getElem?_eq_some_iff.1 h2).1;constructor
  ·intro h;obtain⟨j,hj⟩:=List.mem_iff_getElem?.1 h;rw[List.getElem?_set]at hj;by_cases he:i=j
   ·rw[if_pos he,if_pos hil]at hj;cases hj;exact .inl ⟨rfl,rfl⟩
   ·have hne:=he;rw[if_neg he]at hj;refine .inr ⟨?_,List.mem_of_getElem? hj⟩;rintro rfl;exact hne (K7 hn h2 hj)
  ·rintro(⟨rfl,rfl⟩ |⟨hne,h⟩)
   ·exact List.mem_iff_getElem?.2 ⟨i,by rw[List.getElem?_set];simp[hil]⟩
   ·obtain⟨j,hj⟩:=List.mem_iff_getElem?.1 h;refine List.mem_iff_getElem?.2 ⟨j,?_⟩;rw[List.getElem?_set,if_neg ?_]
    ·exact hj
    ·rintro rfl;rw[h2]at hj;simp only[Option.some.injEq,Prod.mk.injEq]at hj;exact hne hj.1.symm
 ·rename_i hf;have h2:=Cy heq m 0 hf;rw[List.mem_append,List.mem_singleton,Prod.mk.injEq];constructor
  ·rintro(h |h)
   ·exact .inr ⟨h2 _ h,h⟩
   ·exact .inl h
  ·rintro(h |⟨_,h⟩)
   ·exact .inr h
   ·exact .inl h
theorem E6(heq:∀a b,eq a b=true↔a=b)(m:List (K×V))(k:K)(v:V)(hn:(m.map (·.1)).Nodup):((bS eq k v m).map (·.1)).Nodup∧(bS eq k v m).length≤m.length+1:=by
 unfold bS;split
 ·rename_i i u hf;obtain⟨_,h2⟩:=Cz heq m 0 i u hf;simp only[Nat.sub_zero]at h2;have he:(m.set i (k,v)).map (·.1)=m.map (·.1):=by
   rw[List.map_set];obtain⟨hl,hg⟩:=List.getElem?_eq_some_iff.1 (show(m.map (·.1))[i]? =some k by rw[List.getElem?_map,h2];rfl)
   have e2:(m.map (·.1)).set i k=m.map (·.1):=by
    rw[← hg];exact List.set_getElem_self hl
   exact e2
  rw[he];exact⟨hn,by simp⟩
 ·rename_i hf;have h2:=Cy heq m 0 hf;rw[List.map_append];refine⟨List.nodup_append.2 ⟨hn,by simp,fun x hx y hy=>?_⟩,by simp⟩
  simp only[List.map_cons,List.map_nil,List.mem_singleton]at hy;subst hy;obtain⟨p,hp,rfl⟩:=List.mem_map.1 hx;exact h2 p hp
theorem E7(m:List (K×V))(k:K):∀(j:Nat),aW eq k m j=(aW eq k m 0).map fun x=>(x.1+j,x.2):=by
 induction m with
 |nil=>intro j;rfl
 |cons p ps ih=>
  intro j;simp only[aW];split
  ·simp
  ·rw[ih (j+1),ih (0+1)];cases aW eq k ps 0 with
   |none=>rfl
   |some x=>simp only[Option.map_some,Option.some.injEq,Prod.mk.injEq,and_true];omega
def getM(eq:K→K→Bool)(k:K)(m:List (K×V)):Option V:=(aW eq k m 0).map (·.2)
theorem JC(k:K):getM eq k ([]:List (K×V))=none:=rfl
theorem sG(p:K×V)(m:List (K×V))(k:K):getM eq k (p::m)=if eq k p.1=true then some p.2 else getM eq k m:=by
 unfold getM;simp only[aW];split
 ·rfl
 ·rw[E7 m k (0+1)];cases aW eq k m 0<;>rfl
theorem E8(heq:∀a b,eq a b=true↔a=b)(m:List (K×V))(k:K)(v:V)(q:K)[Decidable (q=k)]:getM eq q (bS eq k v m)=if q=k then some v else getM eq q m:=by
 induction m with
 |nil=>
  show getM eq q [(k,v)]=_;rw[sG];by_cases h:q=k
  ·rw[if_pos h,if_pos ((heq _ _).2 h)]
  ·rw[if_neg h,if_neg (fun e=>h ((heq _ _).1 e))]
 |cons p m ih=>
  by_cases hp:eq k p.1=true
  ·have e:bS eq k v (p::m)=(k,v)::m:=by unfold bS;simp only[aW,if_pos hp];rfl
   rw[e,sG,sG];have hk:=(heq _ _).1 hp;by_cases h:q=k
   ·rw[if_pos h,if_pos ((heq _ _).2 h)]
   ·rw[if_neg h,if_neg (fun e=>h ((heq _ _).1 e)),if_neg (fun e=>h (((heq _ _).1 e).trans hk.symm))]
  ·have e:bS eq k v (p::m)=p::bS eq k v m:=by
    unfold bS;simp only[aW,if_neg hp];rw[E7 m k (0+1)];cases aW eq k m 0 with
    |none=>rfl
    |some x=>rfl
   rw[e,sG,sG,ih];by_cases hq:eq q p.1=true
   ·have:q≠k:=fun h=>hp ((heq _ _).2 (h▸(heq _ _).1 hq))
    rw[if_pos hq,if_pos hq,if_neg this]
   ·rw[if_neg hq,if_neg hq]
end
end Go.L
end
section
namespace Go.L
open Go.AM
theorem JD(n:Nat)(l:List Int)(v:Int)(hn:l.length<n)(hs:l.length<100000):At (om.S n (l,v)) (fun(r:Int)=>0≤r↔v∈l):=by
 refine(?_ :cH n (jW l v) _);unfold jW;refine .skip (.op () rfl (.skip (.loop (fun a:Int=>dP l (fun pre (_:Unit)=>v∉pre) (a,())) (fun a=>l.length - a.toNat) (Sum.elim (fun(t:Int)=>0≤t∧v∈l) fun _=>v∉l) rfl (dP.start (by simp)) (by simpa using hn) (fun a ha=>?_) (fun t ht=>?_))))
 ·refine .skip (.br (fun h=>?_) fun h=>.skip (.done rfl (ha.fin h)))
  obtain⟨x,pre,h1,h2,h3,_,h4⟩:=ha.get h;refine .skip (.op x h1 (.skip (.br (fun he=>.skip (.done rfl ?_)) fun he=>.skip (.done rfl ?_))))
  ·obtain⟨i,hi,_⟩:=ha;refine⟨by show(0:Int)≤a;simp only at hi;omega,?_⟩
   rw[beq_iff_eq]at he;rw[he];exact h2
  ·refine h4 hs () ?_;rw[beq_eq_false_iff_ne]at he;simp only[List.mem_append,List.mem_singleton,not_or];exact⟨h3,he⟩
 ·cases t with
  |inl t=>exact .done rfl ⟨fun _=>ht.2,fun _=>ht.1⟩
  |inr t=>exact .skip (.done rfl ⟨fun h=>absurd h (by decide),fun h=>absurd h ht⟩)
theorem vQ(n:Nat)(l:List Int)(v:Int)(hn:l.length<n)(hs:l.length<100000):At (fF.S n (l,v)) (fun(b:Bool)=>b=decide (v∈l)):=by
 refine(?_ :cH n (iS l v) _);unfold iS;refine .skip (.call _ (JD n l v hn hs) fun r hr=>.skip (.done rfl ?_))
 exact decide_eq_decide.2 hr
end Go.L
end
section
namespace Go.AM
section
variable {P:Program} [ax] {ρ:Type} {n:Nat} {p:ρ→Prop}
def b8(n:Nat)(g:G P ρ)(p:ρ→Prop):Prop:=g.can n p
theorem b8.skip{m:Nat}{g:G P ρ}(h:b8 n g p):b8 n (.skip m g) p:=h
theorem b8.br{d:Tmp}{c:Bool}{t f:G P ρ}(ht:c=true→b8 n t p)(hf:c=false→b8 n f p):b8 n (.br d c t f) p:=by
 show if c then t.can n p else f.can n p
 cases c with
 |true=>exact ht rfl
 |false=>exact hf rfl
theorem b8.sp{c:Bool}{t f:G P ρ}(ht:c=true→b8 n t p)(hf:c=false→b8 n f p):b8 n (.sp c t f) p:=by
 show if c then t.can n p else f.can n p
 cases c with
 |true=>exact ht rfl
 |false=>exact hf rfl
theorem b8.call{c:aA P}{x:c.X}{k:c.sh.El→G P ρ}(q:c.sh.El→Prop)(h:At (c.S n x) q)(hk:∀r,q r→b8 n (k r) p):b8 n (.call c x k) p:=
 let⟨r,h1,h2⟩:=h;⟨r,h1,hk r h2⟩
theorem b8.bz{c:qF P}{x:c.X}{k:c.sh.El→G P ρ}(q:c.sh.El→Prop)(h:At (c.S n x) q)(hk:∀r,q r→b8 n (k r) p):b8 n (.bz c x k) p:=
 let⟨r,h1,h2⟩:=h;⟨r,h1,hk r h2⟩
theorem b8.gM{c:jV P}{b v:Nat}{ex:List PR}{x:c.X}{k:c.sh.El→G P ρ}(q:c.sh.El→Prop)(h:At (c.S n x) q)(hk:∀r,q r→b8 n (k r) p):b8 n (.gM c b v ex x k) p:=
 let⟨r,h1,h2⟩:=h;⟨r,h1,hk r h2⟩
theorem b8.op{X:Type}{t:jo X}{k:X→G P ρ}(x:X)(h:t.run=some x)(hk:b8 n (k x) p):b8 n (.op t k) p:=⟨x,h,hk⟩
theorem b8.done{ts:List TS}{r:ρ}(ht:ej ts=true)(h:p r):b8 (P:=P) n (.done ts r) p:=⟨ht,h⟩
theorem b8.tidy{ts:List TS}{g:G P ρ}(ht:ej ts=true)(h:b8 n g p):b8 n (.tidy ts g) p:=⟨ht,h⟩
theorem b8.inl{pr:List PR}{g:G P ρ}(h:b8 n g p):b8 n (.inl pr g) p:=h
theorem b8.eG{m:Nat}{g:G P ρ}(h:b8 n g p):b8 n (.eG m g) p:=h
theorem b8.join{sh:Sh}{Y:sh.El→aS×St}{g:G P sh.El}{k:sh.El→G P ρ}(q:sh.El→Prop)(h:b8 n g q)(hk:∀t,q t→b8 n (k t) p):b8 n (.join sh Y g k) p:=
 G.bP n g hk h
theorem b8.pick{z:PK}{seen:List Nat}{a:G P ρ}{f:Nat→G P ρ}(h0:(∀i,i<z.n→i∈seen)→b8 n a p)(h1:∀i,i<z.n→i∉seen→b8 n (f i) p):b8 n (.pick z seen (pk a f)) p:=⟨h0,h1⟩
theorem b8.grow{z:GK}{k:Bool→G P ρ}(hz:z.ok=true)(h1:b8 n (k true) p)(h2:b8 n (k false) p):b8 n (.grow z k) p:=⟨hz,h1,h2⟩
theorem b8.iter{σ τ:Type}{f:σ→((σ⊕τ)→Prop)→Prop}(hf:∀a (q q':σ⊕τ→Prop),(∀x,q x→q' x)→f a q→f a q')(I:σ→Prop)(m:σ→Nat)(q:τ→Prop)(hb:∀a,I a→f a (kP I m q a)):
 ∀(M:Nat) (a:σ),I a→m a<M→lg f M a q
 | 0,_,_,h=>absurd h (Nat.not_lt_zero _)
 |M+1,a,hI,hm=>hf a _ _ (fun x hx=>match x,hx with
  | .inl b,hx=>b8.iter hf I m q hb M b hx.1 (by have:=hx.2;omega)
  | .inr t,hx=>hx) (hb a hI)
theorem b8.loop{σ:Type}{sh:Sh}{hd:List TS}{E:σ→St}{X:sh.El→aS×St}{a0:σ}{body:σ→G P (σ⊕sh.El)}{k:sh.El→G P ρ}(I:σ→Prop)(m:σ→Nat)(q:sh.El→Prop)
 (ht:ej hd=true) (hI:I a0) (hm:m a0<n) (hb:∀a,I a→b8 n (body a) (kP I m q a)) (hk:∀t,q t→b8 n (k t) p):b8 n (.loop sh hd E X a0 body k) p:=by
 refine⟨ht,?_⟩;exact b8.iter (f:=fun a q=>(body a).can n q) (fun a _ _ h h'=>G.bP n (body a) h h') I m (fun t=>(k t).can n p) (fun a ha=>G.bP n (body a) (fun x hx=>match x,hx with
  | .inl b,hx=>hx
  | .inr t,hx=>hk t hx) (hb a ha)) n a0 hI hm
theorem b8.jh{hs sh:Sh}{hd:List TS}{E:hs.El→St}{X:sh.El→aS×St}{a0:hs.El}{body:hs.El→G P (hs.El⊕sh.El)}{k:sh.El→G P ρ}(I:hs.El→Prop)(m:hs.El→Nat)(q:sh.El→Prop)
 (ht:ej hd=true) (hI:I a0) (hm:m a0<n) (hb:∀a,I a→b8 n (body a) (kP I m q a)) (hk:∀t,q t→b8 n (k t) p):b8 n (.jh hs sh hd E X a0 body k) p:=
 b8.loop (E:=E) (X:=X) I m q ht hI hm hb hk
end
theorem Iw{n:Nat}{seen:List Nat}(hnd:seen.Nodup)(hlt:∀i∈seen,i<n)(hall:∀i,i<n→i∈seen):seen.Perm (List.range n):=
 (List.perm_ext_iff_of_nodup hnd List.nodup_range).2 fun i=>⟨fun h=>List.mem_range.2 (hlt i h),fun h=>hall i (List.mem_range.1 h)⟩
end Go.AM
end
