/- Functions that answer at one amount of fuel, and so; guides node by node. No conditions. -/
import Derived.Test.YtiohninblcifpaaGreatDoorAd
set_option linter.unusedVariables false
namespace Go.AM
def At{α:Type}(o:Option α)(p:α→Prop):Prop:=∃r,o=some r∧p r
theorem At.of{α:Type}{p:α→Prop}{o:Option α}{r:α}(e:o=some r)(h:p r):At o p:=⟨r,e,h⟩
theorem At.mono{α:Type}{o:Option α}{p q:α→Prop}(h:At o p)(hp:∀r,p r→q r):At o q:=by
 obtain⟨r,h1,h2⟩:=h;exact⟨r,h1,hp r h2⟩
theorem At.bind{α β:Type}{o:Option α}{g:α→Option β}{p:α→Prop}{q:β→Prop}(h:At o p)(hg:∀a,p a→At (g a) q):At (o.bind g) q:=by
 obtain⟨a,h1,h2⟩:=h;obtain⟨b,h3,h4⟩:=hg a h2;exact⟨b,by rw[h1];exact h3,h4⟩
theorem At.ite{α:Type}{c:Prop}[Decidable c]{f g:Option α}{p:α→Prop}(hf:c→At f p)(hg:¬c→At g p):At (if c then f else g) p:=by
 by_cases hc:c
 ·rw[if_pos hc];exact hf hc
 ·rw[if_neg hc];exact hg hc
theorem At.eq{α:Type}{o:Option α}{r:α}(h:∀{β:Type} (k:α→Option β),o.bind k=k r):At o fun x=>x=r:=by
 have:=h (fun x=>some x)
 cases o with
 |none=>cases this
 |some y=>exact⟨y,rfl,Option.some.inj this⟩
def zV{σ τ:Type}(I:σ→Prop)(m:σ→Nat)(p:τ→Prop)(a:σ):σ⊕τ→Prop
 | .inl b=>I b∧m b<m a
 | .inr t=>p t
theorem At.iter{σ τ:Type}{body:σ→Option (σ⊕τ)}(I:σ→Prop)(m:σ→Nat)(p:τ→Prop)(h:∀a,I a→At (body a) (zV I m p a)):
 ∀(M:Nat) (a:σ),I a→m a<M→At (bI body M a) p
 | 0,a,_,hm=>absurd hm (Nat.not_lt_zero _)
 |M+1,a,hI,hm=>by
  obtain⟨r,h1,h2⟩:=h a hI;cases r with
  |inl b=>
   obtain⟨t,h3,h4⟩:=At.iter I m p h M b h2.1 (by have:=h2.2;omega)
   exact⟨t,by simp only[bI,h1];exact h3,h4⟩
  |inr t=>exact⟨t,by simp only[bI,h1],h2⟩
section
variable {P:Program} [aB] {ρ:Type} {n:Nat} {p:ρ→Prop}
def cO(n:Nat)(g:G P ρ)(p:ρ→Prop):Prop:=At (g.run n) p
theorem cO.skip{m:Nat}{g:G P ρ}(h:cO n g p):cO n (.skip m g) p:=h
theorem cO.br{d:Tmp}{c:Bool}{t f:G P ρ}(ht:c=true→cO n t p)(hf:c=false→cO n f p):cO n (.br d c t f) p:=
 At.ite (f:=t.run n) (g:=f.run n) ht (fun h=>hf (by simpa using h))
theorem cO.sp{c:Bool}{t f:G P ρ}(ht:c=true→cO n t p)(hf:c=false→cO n f p):cO n (.sp c t f) p:=
 At.ite (f:=t.run n) (g:=f.run n) ht (fun h=>hf (by simpa using h))
theorem cO.call{c:aA P}{x:c.X}{k:c.sh.El→G P ρ}(q:c.sh.El→Prop)(h:At (c.S n x) q)(hk:∀r,q r→cO n (k r) p):cO n (.call c x k) p:=
 At.bind (g:=fun r=>(k r).run n) h hk
theorem cO.fM{c:tu P}{x:c.X}{k:c.sh.El→G P ρ}(q:c.sh.El→Prop)(h:At (c.S n x) q)(hk:∀r,q r→cO n (k r) p):cO n (.fM c x k) p:=
 At.bind (g:=fun r=>(k r).run n) h hk
theorem cO.bk{c:dm P}{b v:Nat}{ex:List PR}{x:c.X}{k:c.sh.El→G P ρ}(q:c.sh.El→Prop)(h:At (c.S n x) q)(hk:∀r,q r→cO n (k r) p):cO n (.bk c b v ex x k) p:=
 At.bind (g:=fun r=>(k r).run n) h hk
theorem cO.op{X:Type}{t:mI X}{k:X→G P ρ}(x:X)(h:t.run=some x)(hk:cO n (k x) p):cO n (.op t k) p:=
 At.bind (o:=t.run) (g:=fun x=>(k x).run n) (p:=fun y=>y=x) ⟨x,h,rfl⟩ (fun a ha=>by subst ha;exact hk)
theorem cO.done{ts:List TS}{r:ρ}(ht:aK ts=true)(h:p r):cO (P:=P) n (.done ts r) p:=
 ⟨r,by show(if aK ts=true then some r else none)=_;rw[if_pos ht],h⟩
theorem cO.tidy{ts:List TS}{g:G P ρ}(ht:aK ts=true)(h:cO n g p):cO n (.tidy ts g) p:=by
 obtain⟨r,h1,h2⟩:=h;exact⟨r,by show(if aK ts=true then g.run n else none)=_;rw[if_pos ht];exact h1,h2⟩
theorem cO.inl{pr:List PR}{g:G P ρ}(h:cO n g p):cO n (.inl pr g) p:=h
theorem cO.fH{m:Nat}{g:G P ρ}(h:cO n g p):cO n (.fH m g) p:=h
theorem cO.join{sh:Sh}{Y:sh.El→aX×St}{g:G P sh.El}{k:sh.El→G P ρ}(q:sh.El→Prop)(h:cO n g q)(hk:∀t,q t→cO n (k t) p):cO n (.join sh Y g k) p:=
 At.bind (o:=g.run n) (g:=fun t=>(k t).run n) h hk
theorem cO.loop{σ:Type}{sh:Sh}{hd:List TS}{E:σ→St}{X:sh.El→aX×St}{a0:σ}{body:σ→G P (σ⊕sh.El)}{k:sh.El→G P ρ}(I:σ→Prop)(m:σ→Nat)(q:sh.El→Prop)
 (ht:aK hd=true) (hI:I a0) (hm:m a0<n) (hb:∀a,I a→cO n (body a) (zV I m q a)) (hk:∀t,q t→cO n (k t) p):cO n (.loop sh hd E X a0 body k) p:=by
 obtain⟨r,h2,h3⟩:=At.bind (o:=bI (fun a=>(body a).run n) n a0) (g:=fun t=>(k t).run n) (At.iter (body:=fun a=>(body a).run n) I m q hb n a0 hI hm) hk
 exact⟨r,by show(if aK hd=true then(bI (fun a=>(body a).run n) n a0).bind fun t=>(k t).run n else none)=_;rw[if_pos ht];exact h2,h3⟩
end
end Go.AM
