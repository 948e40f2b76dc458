/- Functions that answer, with an answer that does not depend on the fuel. No conditions. -/
import Derived.Test.YtpgpmlaafigpaaaGreatDoorAd
namespace Go.AM
set_option linter.unusedVariables false
def cr{α:Type}(N:Nat)(f:Nat→Option α)(p:α→Prop):Prop:=∃r,p r∧∀n,N≤n→f n=Option.some r
theorem cr.of{α:Type}{N:Nat}{p:α→Prop}(r:α)(h:p r):cr N (fun _=>Option.some r) p:=⟨r,h,fun _ _=>rfl⟩
theorem cr.mono{α:Type}{N:Nat}{f:Nat→Option α}{p q:α→Prop}(h:cr N f p)(hp:∀r,p r→q r):cr N f q:=by
 obtain⟨r,h1,h2⟩:=h;exact⟨r,hp r h1,h2⟩
theorem cr.bind{α β:Type}{N:Nat}{f:Nat→Option α}{g:Nat→α→Option β}{p:α→Prop}{q:β→Prop}(h:cr N f p)(hg:∀a,p a→cr N (fun n=>g n a) q):cr N (fun n=>(f n).bind (g n)) q:=by
 obtain⟨a,h1,h2⟩:=h;obtain⟨b,h3,h4⟩:=hg a h1;exact⟨b,h3,fun n hn=>by show(f n).bind (g n)=_;rw[h2 n hn];exact h4 n hn⟩
theorem cr.ite{α:Type}{N:Nat}{c:Prop}[Decidable c]{f g:Nat→Option α}{p:α→Prop}(hf:c→cr N f p)(hg:¬c→cr N g p):cr N (fun n=>if c then f n else g n) p:=by
 by_cases hc:c
 ·simp only[hc,if_true];exact hf hc
 ·simp only[hc,if_false];exact hg hc
def FA{σ τ:Type}(I:σ→Prop)(m:σ→Nat)(p:τ→Prop)(a:σ):σ⊕τ→Prop
 | .inl b=>I b∧m b<m a
 | .inr t=>p t
theorem cr.Uc{σ τ:Type}{N:Nat}{body:Nat→σ→Option (σ⊕τ)}(I:σ→Prop)(m:σ→Nat)(p:τ→Prop)
 (h:∀a,I a→cr N (fun n=>body n a) (FA I m p a)):
 ∀(M:Nat) (a:σ),I a→m a<M→∃r,p r∧∀n,N≤n→∀k,M≤k→bZ (body n) k a=Option.some r
 | 0,a,_,hm=>absurd hm (Nat.not_lt_zero _)
 |M+1,a,hI,hm=>by
  obtain⟨r,h1,h2⟩:=h a hI;cases r with
  |inl b=>
   obtain⟨t,h3,h4⟩:=cr.Uc I m p h M b h1.1 (by have:=h1.2;omega)
   refine⟨t,h3,fun n hn k hk=>?_⟩
   cases k with
   |zero=>omega
   |succ k=>simp only[bZ,h2 n hn];exact h4 n hn k (by omega)
  |inr t=>
   refine⟨t,h1,fun n hn k hk=>?_⟩
   cases k with
   |zero=>omega
   |succ k=>simp only[bZ,h2 n hn]
theorem cr.loop{σ τ:Type}{N:Nat}{body:Nat→σ→Option (σ⊕τ)}{a:σ}(I:σ→Prop)(m:σ→Nat)(p:τ→Prop)(hI:I a)(hm:m a<N)
 (h:∀a,I a→cr N (fun n=>body n a) (FA I m p a)):cr N (fun n=>bZ (body n) n a) p:=by
 obtain⟨r,h1,h2⟩:=cr.Uc I m p h N a hI hm;exact⟨r,h1,fun n hn=>h2 n hn n hn⟩
section
variable {P:Program} [aD] {ρ:Type} {N:Nat} {p:ρ→Prop}
def bk(N:Nat)(g:G P ρ)(p:ρ→Prop):Prop:=cr N (fun n=>g.run n) p
theorem bk.skip{m:Nat}{g:G P ρ}(h:bk N g p):bk N (.skip m g) p:=h
theorem bk.br{d:Tmp}{c:Bool}{t f:G P ρ}(ht:c=true→bk N t p)(hf:c=false→bk N f p):bk N (.br d c t f) p:=by
 show cr N (fun n=>if c then t.run n else f.run n) p
 exact cr.ite ht (fun h=>hf (by simpa using h))
theorem bk.call{c:aA P}{x:c.X}{k:c.sh.El→G P ρ}(q:c.sh.El→Prop)(h:cr N (fun n=>c.S n x) q)(hk:∀r,q r→bk N (k r) p):bk N (.call c x k) p:=
 cr.bind (f:=fun n=>c.S n x) (g:=fun n r=>(k r).run n) h hk
theorem bk.op{X:Type}{t:kO X}{k:X→G P ρ}(x:X)(h:t.run=some x)(hk:bk N (k x) p):bk N (.op t k) p:=by
 obtain⟨r,h1,h2⟩:=hk;exact⟨r,h1,fun n hn=>by show t.run.bind (fun x=>(k x).run n)=_;rw[h];exact h2 n hn⟩
theorem bk.done{ts:List TS}{r:ρ}(ht:aI ts=true)(h:p r):bk (P:=P) N (.done ts r) p:=
 ⟨r,h,fun n _=>by show(if aI ts=true then some r else none)=_;rw[if_pos ht]⟩
theorem bk.tidy{ts:List TS}{g:G P ρ}(ht:aI ts=true)(h:bk N g p):bk N (.tidy ts g) p:=by
 obtain⟨r,h1,h2⟩:=h;exact⟨r,h1,fun n hn=>by show(if aI ts=true then g.run n else none)=_;rw[if_pos ht];exact h2 n hn⟩
theorem bk.fL{m:Nat}{g:G P ρ}(h:bk N g p):bk N (.fL m g) p:=h
theorem bk.join{sh:Sh}{Y:sh.El→bu×St}{g:G P sh.El}{k:sh.El→G P ρ}(q:sh.El→Prop)(h:bk N g q)(hk:∀t,q t→bk N (k t) p):bk N (.join sh Y g k) p:=
 cr.bind (f:=fun n=>g.run n) (g:=fun n t=>(k t).run n) h hk
theorem bk.inl{pr:List PR}{g:G P ρ}(h:bk N g p):bk N (.inl pr g) p:=h
theorem bk.sp{c:Bool}{t f:G P ρ}(ht:c=true→bk N t p)(hf:c=false→bk N f p):bk N (.sp c t f) p:=by
 show cr N (fun n=>if c then t.run n else f.run n) p
 exact cr.ite ht (fun h=>hf (by simpa using h))
theorem bk.fK{c:uG P}{x:c.X}{k:c.sh.El→G P ρ}(q:c.sh.El→Prop)(h:cr N (fun n=>c.S n x) q)(hk:∀r,q r→bk N (k r) p):bk N (.fK c x k) p:=
 cr.bind (f:=fun n=>c.S n x) (g:=fun n r=>(k r).run n) h hk
theorem bk.ax{c:cD P}{b v:Nat}{ex:List PR}{x:c.X}{k:c.sh.El→G P ρ}(q:c.sh.El→Prop)(h:cr N (fun n=>c.S n x) q)(hk:∀r,q r→bk N (k r) p):bk N (.ax c b v ex x k) p:=
 cr.bind (f:=fun n=>c.S n x) (g:=fun n r=>(k r).run n) h hk
theorem bk.loop{σ:Type}{sh:Sh}{hd:List TS}{E:σ→St}{X:sh.El→bu×St}{a0:σ}{body:σ→G P (σ⊕sh.El)}{k:sh.El→G P ρ}(I:σ→Prop)(m:σ→Nat)(q:sh.El→Prop)
 (ht:aI hd=true) (hI:I a0) (hm:m a0<N) (hb:∀a,I a→bk N (body a) (FA I m q a))
 (hk:∀t,q t→bk N (k t) p):bk N (.loop sh hd E X a0 body k) p:=by
 have h1:=cr.bind (f:=fun n=>bZ (fun a=>(body a).run n) n a0) (g:=fun n t=>(k t).run n) (cr.loop (N:=N) (body:=fun n a=>(body a).run n) I m q hI hm hb) hk
 obtain⟨r,h2,h3⟩:=h1;exact⟨r,h2,fun n hn=>by show(if aI hd=true then(bZ (fun a=>(body a).run n) n a0).bind fun t=>(k t).run n else none)=_;rw[if_pos ht];exact h3 n hn⟩
end
end Go.AM
