/- Parts put together. No conditions. -/
import Derived.Test.YtiohninblcifpaaGreatDoorPa
import Derived.Test.YtiohninblcifpaaGreatDoorAd
import Derived.Test.YtiohninblcifpaaGreatDoorWb
set_option linter.unusedSectionVars false
set_option linter.unusedSimpArgs false
set_option linter.unusedVariables false
set_option maxRecDepth 100000
section
namespace Go.L
open Go.AM
section
variable {K V:Type} {eq:K→K→Bool}
theorem DI(heq:∀a b,eq a b=true↔a=b){k:K}:∀(m:List (K×V)) (j:Nat),aY eq k m j=none→∀p∈m,p.1≠k
 | [],_,_,_,hp=>by cases hp
 |p::ps,j,h,q,hq=>by
  simp only[aY]at h;split at h
  ·cases h
  ·rename_i hne;rcases List.mem_cons.1 hq with rfl |hq
   ·intro e;exact hne ((heq _ _).2 e.symm)
   ·exact DI heq ps (j+1) h q hq
theorem Bd(heq:∀a b,eq a b=true↔a=b){k:K}:∀(m:List (K×V)) (j i:Nat) (v:V),aY eq k m j=some (i,v)→j≤i∧m[i - j]? =some (k,v)
 | [],_,_,_,h=>by simp[aY]at h
 |p::ps,j,i,v,h=>by
  simp only[aY]at h;split at h
  ·rename_i he;simp only[Option.some.injEq,Prod.mk.injEq]at h;obtain⟨rfl,rfl⟩:=h;have:=(heq _ _).1 he;exact⟨Nat.le_refl _,by simp[this]⟩
  ·obtain⟨h1,h2⟩:=Bd heq ps (j+1) i v h;refine⟨by omega,?_⟩
   rw[show i - j=(i - (j+1))+1 by omega]
   simpa using h2
theorem NG{m:List (K×V)}(hn:(m.map (·.1)).Nodup){i j:Nat}{k:K}{v w:V}(hi:m[i]? =some (k,v))(hj:m[j]? =some (k,w)):i=j:=by
 have e1:(m.map (·.1))[i]? =some k:=by rw[List.getElem?_map,hi];rfl
 have e2:(m.map (·.1))[j]? =some k:=by rw[List.getElem?_map,hj];rfl
 obtain⟨l1,q1⟩:=List.getElem?_eq_some_iff.1 e1;exact(List.getElem?_inj l1 hn).1 (e1.trans e2.symm)
theorem Rj(heq:∀a b,eq a b=true↔a=b)(m:List (K×V))(k:K)(v:V)(hn:(m.map (·.1)).Nodup)(q:K)(w:V):(q,w)∈bN eq k v m↔(q=k∧w=v)∨(q≠k∧(q,w)∈m):=by
 unfold bN;split
 ·rename_i i u hf;obtain⟨_,h2⟩:=Bd heq m 0 i u hf;simp only[Nat.sub_zero]at h2;have hil:=(List.getElem?_eq_some_iff.1 h2).1;constructor
  ·intro h;obtain⟨j,hj⟩:=List.mem_iff_getElem?.1 h;rw[List.getElem?_set]at hj;by_cases he:i=j
   ·rw[if_pos he,if_pos hil]at hj;cases hj;exact .inl ⟨rfl,rfl⟩
   ·have hne:=he;rw[if_neg he]at hj;refine .inr ⟨?_,List.mem_of_getElem? hj⟩;rintro rfl;exact hne (NG hn h2 hj)
  ·rintro(⟨rfl,rfl⟩ |⟨hne,h⟩)
   ·exact List.mem_iff_getElem?.2 ⟨i,by rw[List.getElem?_set];simp[hil]⟩
   ·obtain⟨j,hj⟩:=List.mem_iff_getElem?.1 h;refine List.mem_iff_getElem?.2 ⟨j,?_⟩;rw[List.getElem?_set,if_neg ?_]
    ·exact hj
    ·rintro rfl;rw[h2]at hj;simp only[Option.some.injEq,Prod.mk.injEq]at hj;exact hne hj.1.symm
 ·rename_i hf;have h2:=DI heq m 0 hf;rw[List.mem_append,List.mem_singleton,Prod.mk.injEq];constructor
  ·rintro(h |h)
   ·exact .inr ⟨h2 _ h,h⟩
   ·exact .inl h
  ·rintro(h |⟨_,h⟩)
   ·exact .inr h
   ·exact .inl h
theorem Jp(heq:∀a b,eq a b=true↔a=b)(m:List (K×V))(k:K)(v:V)(hn:(m.map (·.1)).Nodup):((bN eq k v m).map (·.1)).Nodup∧(bN eq k v m).length≤m.length+1:=by
 unfold bN;split
 ·rename_i i u hf;obtain⟨_,h2⟩:=Bd heq m 0 i u hf;simp only[Nat.sub_zero]at h2;have he:(m.set i (k,v)).map (·.1)=m.map (·.1):=by
   rw[List.map_set];obtain⟨hl,hg⟩:=List.getElem?_eq_some_iff.1 (show(m.map (·.1))[i]? =some k by rw[List.getElem?_map,h2];rfl)
   have e2:(m.map (·.1)).set i k=m.map (·.1):=by
    rw[← hg];exact List.set_getElem_self hl
   exact e2
  rw[he];exact⟨hn,by simp⟩
 ·rename_i hf;have h2:=DI heq m 0 hf;rw[List.map_append];refine⟨List.nodup_append.2 ⟨hn,by simp,fun x hx y hy=>?_⟩,by simp⟩
  simp only[List.map_cons,List.map_nil,List.mem_singleton]at hy;subst hy;obtain⟨p,hp,rfl⟩:=List.mem_map.1 hx;exact h2 p hp
theorem Jq(m:List (K×V))(k:K):∀(j:Nat),aY eq k m j=(aY eq k m 0).map fun x=>(x.1+j,x.2):=by
 induction m with
 |nil=>intro j;rfl
 |cons p ps ih=>
  intro j;simp only[aY];split
  ·simp
  ·rw[ih (j+1),ih (0+1)];cases aY eq k ps 0 with
   |none=>rfl
   |some x=>simp only[Option.map_some,Option.some.injEq,Prod.mk.injEq,and_true];omega
def getM(eq:K→K→Bool)(k:K)(m:List (K×V)):Option V:=(aY eq k m 0).map (·.2)
theorem Pa(k:K):getM eq k ([]:List (K×V))=none:=rfl
theorem xE(p:K×V)(m:List (K×V))(k:K):getM eq k (p::m)=if eq k p.1=true then some p.2 else getM eq k m:=by
 unfold getM;simp only[aY];split
 ·rfl
 ·rw[Jq m k (0+1)];cases aY eq k m 0<;>rfl
theorem rU(heq:∀a b,eq a b=true↔a=b)(m:List (K×V))(k:K)(v:V)(q:K)[Decidable (q=k)]:getM eq q (bN eq k v m)=if q=k then some v else getM eq q m:=by
 induction m with
 |nil=>
  show getM eq q [(k,v)]=_;rw[xE];by_cases h:q=k
  ·rw[if_pos h,if_pos ((heq _ _).2 h)]
  ·rw[if_neg h,if_neg (fun e=>h ((heq _ _).1 e))]
 |cons p m ih=>
  by_cases hp:eq k p.1=true
  ·have e:bN eq k v (p::m)=(k,v)::m:=by unfold bN;simp only[aY,if_pos hp];rfl
   rw[e,xE,xE];have hk:=(heq _ _).1 hp;by_cases h:q=k
   ·rw[if_pos h,if_pos ((heq _ _).2 h)]
   ·rw[if_neg h,if_neg (fun e=>h ((heq _ _).1 e)),if_neg (fun e=>h (((heq _ _).1 e).trans hk.symm))]
  ·have e:bN eq k v (p::m)=p::bN eq k v m:=by
    unfold bN;simp only[aY,if_neg hp];rw[Jq m k (0+1)];cases aY eq k m 0 with
    |none=>rfl
    |some x=>rfl
   rw[e,xE,xE,ih];by_cases hq:eq q p.1=true
   ·have:q≠k:=fun h=>hp ((heq _ _).2 (h▸(heq _ _).1 hq))
    rw[if_pos hq,if_pos hq,if_neg this]
   ·rw[if_neg hq,if_neg hq]
theorem Jr(heq:∀a b,eq a b=true↔a=b){m:List (K×V)}(hn:(m.map (·.1)).Nodup)(k:K)(v:V):getM eq k m=some v↔(k,v)∈m:=by
 constructor
 ·intro h;unfold getM at h;cases hf:aY eq k m 0 with
  |none=>rw[hf]at h;cases h
  |some x=>
   obtain⟨i,w⟩:=x;rw[hf]at h;cases h;exact List.mem_of_getElem? (Bd heq m 0 i w hf).2
 ·intro h;unfold getM;cases hf:aY eq k m 0 with
  |none=>exact absurd rfl (DI heq m 0 hf _ h)
  |some x=>
   obtain⟨i,w⟩:=x;have h2:=(Bd heq m 0 i w hf).2;obtain⟨j,hj,he⟩:=List.getElem_of_mem h;have hj2:m[j]? =some (k,v):=by rw[List.getElem?_eq_getElem hj,he]
   have:=NG hn h2 hj2;rw[this,hj2]at h2;simp only[Option.some.injEq,Prod.mk.injEq,true_and]at h2;subst h2;rfl
end
end Go.L
end
section
namespace Go.L
open Go.AM
theorem Pb(n:Nat)(l:List Int)(v:Int)(hn:l.length<n)(hs:l.length<100000):At (iT.S n (l,v)) (fun(r:Int)=>0≤r↔v∈l):=by
 refine(?_ :cD n (iS l v) _);unfold iS;refine .skip (.op () rfl (.skip (.loop (fun a:Int=>dW l (fun pre (_:Unit)=>v∉pre) (a,())) (fun a=>l.length - a.toNat) (Sum.elim (fun(t:Int)=>0≤t∧v∈l) fun _=>v∉l) rfl (dW.start (by simp)) (by simpa using hn) (fun a ha=>?_) (fun t ht=>?_))))
 ·refine .skip (.br (fun h=>?_) fun h=>.skip (.done rfl (ha.fin h)))
  obtain⟨x,pre,h1,h2,h3,_,h4⟩:=ha.get h;refine .skip (.op x h1 (.skip (.br (fun he=>.skip (.done rfl ?_)) fun he=>.skip (.done rfl ?_))))
  ·obtain⟨i,hi,_⟩:=ha;refine⟨by show(0:Int)≤a;simp only at hi;omega,?_⟩
   rw[beq_iff_eq]at he;rw[he];exact h2
  ·refine h4 hs () ?_;rw[beq_eq_false_iff_ne]at he;simp only[List.mem_append,List.mem_singleton,not_or];exact⟨h3,he⟩
 ·cases t with
  |inl t=>exact .done rfl ⟨fun _=>ht.2,fun _=>ht.1⟩
  |inr t=>exact .skip (.done rfl ⟨fun h=>absurd h (by decide),fun h=>absurd h ht⟩)
theorem AA(n:Nat)(l:List Int)(v:Int)(hn:l.length<n)(hs:l.length<100000):At (dX.S n (l,v)) (fun(b:Bool)=>b=decide (v∈l)):=by
 refine(?_ :cD n (gK l v) _);unfold gK;refine .skip (.call _ (Pb n l v hn hs) fun r hr=>.skip (.done rfl ?_))
 exact decide_eq_decide.2 hr
end Go.L
end
section
namespace Go.AM
section
variable {P:Program} [aH] {ρ:Type} {n:Nat} {p:ρ→Prop}
def dK(n:Nat)(g:G P ρ)(p:ρ→Prop):Prop:=g.can n p
theorem dK.skip{m:Nat}{g:G P ρ}(h:dK n g p):dK n (.skip m g) p:=h
theorem dK.br{d:Tmp}{c:Bool}{t f:G P ρ}(ht:c=true→dK n t p)(hf:c=false→dK n f p):dK n (.br d c t f) p:=by
 show if c then t.can n p else f.can n p
 cases c with
 |true=>exact ht rfl
 |false=>exact hf rfl
theorem dK.sp{c:Bool}{t f:G P ρ}(ht:c=true→dK n t p)(hf:c=false→dK n f p):dK n (.sp c t f) p:=by
 show if c then t.can n p else f.can n p
 cases c with
 |true=>exact ht rfl
 |false=>exact hf rfl
theorem dK.call{c:aK P}{x:c.X}{k:c.sh.El→G P ρ}(q:c.sh.El→Prop)(h:At (c.S n x) q)(hk:∀r,q r→dK n (k r) p):dK n (.call c x k) p:=
 let⟨r,h1,h2⟩:=h;⟨r,h1,hk r h2⟩
theorem dK.cR{c:u7 P}{x:c.X}{k:c.sh.El→G P ρ}(q:c.sh.El→Prop)(h:At (c.S n x) q)(hk:∀r,q r→dK n (k r) p):dK n (.cR c x k) p:=
 let⟨r,h1,h2⟩:=h;⟨r,h1,hk r h2⟩
theorem dK.cB{c:gU P}{b v:Nat}{ex:List PR}{x:c.X}{k:c.sh.El→G P ρ}(q:c.sh.El→Prop)(h:At (c.S n x) q)(hk:∀r,q r→dK n (k r) p):dK n (.cB c b v ex x k) p:=
 let⟨r,h1,h2⟩:=h;⟨r,h1,hk r h2⟩
theorem dK.op{X:Type}{t:mP X}{k:X→G P ρ}(x:X)(h:t.run=some x)(hk:dK n (k x) p):dK n (.op t k) p:=⟨x,h,hk⟩
theorem dK.done{ts:List TS}{r:ρ}(ht:aN ts=true)(h:p r):dK (P:=P) n (.done ts r) p:=⟨ht,h⟩
theorem dK.tidy{ts:List TS}{g:G P ρ}(ht:aN ts=true)(h:dK n g p):dK n (.tidy ts g) p:=⟨ht,h⟩
theorem dK.inl{pr:List PR}{g:G P ρ}(h:dK n g p):dK n (.inl pr g) p:=h
theorem dK.gm{m:Nat}{g:G P ρ}(h:dK n g p):dK n (.gm m g) p:=h
theorem dK.join{sh:Sh}{Y:sh.El→bx×St}{g:G P sh.El}{k:sh.El→G P ρ}(q:sh.El→Prop)(h:dK n g q)(hk:∀t,q t→dK n (k t) p):dK n (.join sh Y g k) p:=
 G.dD n g hk h
theorem dK.pick{z:PK}{seen:List Nat}{a:G P ρ}{f:Nat→G P ρ}(h0:(∀i,i<z.n→i∈seen)→dK n a p)(h1:∀i,i<z.n→i∉seen→dK n (f i) p):dK n (.pick z seen (pk a f)) p:=⟨h0,h1⟩
theorem dK.grow{z:GK}{k:Bool→G P ρ}(hz:z.ok=true)(h1:dK n (k true) p)(h2:dK n (k false) p):dK n (.grow z k) p:=⟨hz,h1,h2⟩
theorem dK.iter{σ τ:Type}{f:σ→((σ⊕τ)→Prop)→Prop}(hf:∀a (q q':σ⊕τ→Prop),(∀x,q x→q' x)→f a q→f a q')(I:σ→Prop)(m:σ→Nat)(q:τ→Prop)(hb:∀a,I a→f a (pe I m q a)):
 ∀(M:Nat) (a:σ),I a→m a<M→pV f M a q
 | 0,_,_,h=>absurd h (Nat.not_lt_zero _)
 |M+1,a,hI,hm=>hf a _ _ (fun x hx=>match x,hx with
  | .inl b,hx=>dK.iter hf I m q hb M b hx.1 (by have:=hx.2;omega)
  | .inr t,hx=>hx) (hb a hI)
theorem dK.loop{σ:Type}{sh:Sh}{hd:List TS}{E:σ→St}{X:sh.El→bx×St}{a0:σ}{body:σ→G P (σ⊕sh.El)}{k:sh.El→G P ρ}(I:σ→Prop)(m:σ→Nat)(q:sh.El→Prop)
 (ht:aN hd=true) (hI:I a0) (hm:m a0<n) (hb:∀a,I a→dK n (body a) (pe I m q a)) (hk:∀t,q t→dK n (k t) p):dK n (.loop sh hd E X a0 body k) p:=by
 refine⟨ht,?_⟩;exact dK.iter (f:=fun a q=>(body a).can n q) (fun a _ _ h h'=>G.dD n (body a) h h') I m (fun t=>(k t).can n p) (fun a ha=>G.dD n (body a) (fun x hx=>match x,hx with
  | .inl b,hx=>hx
  | .inr t,hx=>hk t hx) (hb a ha)) n a0 hI hm
theorem dK.nr{hs sh:Sh}{hd:List TS}{E:hs.El→St}{X:sh.El→bx×St}{a0:hs.El}{body:hs.El→G P (hs.El⊕sh.El)}{k:sh.El→G P ρ}(I:hs.El→Prop)(m:hs.El→Nat)(q:sh.El→Prop)
 (ht:aN hd=true) (hI:I a0) (hm:m a0<n) (hb:∀a,I a→dK n (body a) (pe I m q a)) (hk:∀t,q t→dK n (k t) p):dK n (.nr hs sh hd E X a0 body k) p:=
 dK.loop (E:=E) (X:=X) I m q ht hI hm hb hk
end
theorem NN{n:Nat}{seen:List Nat}(hnd:seen.Nodup)(hlt:∀i∈seen,i<n)(hall:∀i,i<n→i∈seen):seen.Perm (List.range n):=
 (List.perm_ext_iff_of_nodup hnd List.nodup_range).2 fun i=>⟨fun h=>List.mem_range.2 (hlt i h),fun h=>hall i (List.mem_range.1 h)⟩
end Go.AM
end
