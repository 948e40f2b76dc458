/- Functions that answer at one amount of fuel, and so; guides node by node. No conditions. -/
import Derived.Test.YtpgpmlaafigpaaaGreatDoorAd
namespace Go.AM
set_option linter.unusedVariables false
def At{α:Type}(o:Option α)(p:α→Prop):Prop:=∃r,o=some r∧p r
theorem At.of{α:Type}{p:α→Prop}{o:Option α}{r:α}(e:o=some r)(h:p r):At o p:=⟨r,e,h⟩
theorem At.mono{α:Type}{o:Option α}{p q:α→Prop}(h:At o p)(hp:∀r,p r→q r):At o q:=by
 obtain⟨r,h1,h2⟩:=h;exact⟨r,h1,hp r h2⟩
theorem At.bind{α β:Type}{o:Option α}{g:α→Option β}{p:α→Prop}{q:β→Prop}(h:At o p)(hg:∀a,p a→At (g a) q):At (o.bind g) q:=by
 obtain⟨a,h1,h2⟩:=h;obtain⟨b,h3,h4⟩:=hg a h2;exact⟨b,by rw[h1];exact h3,h4⟩
theorem At.ite{α:Type}{c:Prop}[Decidable c]{f g:Option α}{p:α→Prop}(hf:c→At f p)(hg:¬c→At g p):At (if c then f else g) p:=by
 by_cases hc:c
 ·rw[if_pos hc];exact hf hc
 ·rw[if_neg hc];exact hg hc
theorem At.eq{α:Type}{o:Option α}{r:α}(h:∀{β:Type} (k:α→Option β),o.bind k=k r):At o fun x=>x=r:=by
 have:=h (fun x=>some x)
 cases o with
 |none=>cases this
 |some y=>exact⟨y,rfl,Option.some.inj this⟩
def Fz{σ τ:Type}(I:σ→Prop)(m:σ→Nat)(p:τ→Prop)(a:σ):σ⊕τ→Prop
 | .inl b=>I b∧m b<m a
 | .inr t=>p t
theorem At.iter{σ τ:Type}{body:σ→Option (σ⊕τ)}(I:σ→Prop)(m:σ→Nat)(p:τ→Prop)(h:∀a,I a→At (body a) (Fz I m p a)):
 ∀(M:Nat) (a:σ),I a→m a<M→At (bZ body M a) p
 | 0,a,_,hm=>absurd hm (Nat.not_lt_zero _)
 |M+1,a,hI,hm=>by
  obtain⟨r,h1,h2⟩:=h a hI;cases r with
  |inl b=>
   obtain⟨t,h3,h4⟩:=At.iter I m p h M b h2.1 (by have:=h2.2;omega)
   exact⟨t,by simp only[bZ,h1];exact h3,h4⟩
  |inr t=>exact⟨t,by simp only[bZ,h1],h2⟩
section
variable {P:Program} [aD] {ρ:Type} {n:Nat} {p:ρ→Prop}
def gB(n:Nat)(g:G P ρ)(p:ρ→Prop):Prop:=At (g.run n) p
theorem gB.skip{m:Nat}{g:G P ρ}(h:gB n g p):gB n (.skip m g) p:=h
theorem gB.br{d:Tmp}{c:Bool}{t f:G P ρ}(ht:c=true→gB n t p)(hf:c=false→gB n f p):gB n (.br d c t f) p:=
 At.ite (f:=t.run n) (g:=f.run n) ht (fun h=>hf (by simpa using h))
theorem gB.sp{c:Bool}{t f:G P ρ}(ht:c=true→gB n t p)(hf:c=false→gB n f p):gB n (.sp c t f) p:=
 At.ite (f:=t.run n) (g:=f.run n) ht (fun h=>hf (by simpa using h))
theorem gB.call{c:aA P}{x:c.X}{k:c.sh.El→G P ρ}(q:c.sh.El→Prop)(h:At (c.S n x) q)(hk:∀r,q r→gB n (k r) p):gB n (.call c x k) p:=
 At.bind (g:=fun r=>(k r).run n) h hk
theorem gB.fK{c:uG P}{x:c.X}{k:c.sh.El→G P ρ}(q:c.sh.El→Prop)(h:At (c.S n x) q)(hk:∀r,q r→gB n (k r) p):gB n (.fK c x k) p:=
 At.bind (g:=fun r=>(k r).run n) h hk
theorem gB.ax{c:cD P}{b v:Nat}{ex:List PR}{x:c.X}{k:c.sh.El→G P ρ}(q:c.sh.El→Prop)(h:At (c.S n x) q)(hk:∀r,q r→gB n (k r) p):gB n (.ax c b v ex x k) p:=
 At.bind (g:=fun r=>(k r).run n) h hk
theorem gB.op{X:Type}{t:kO X}{k:X→G P ρ}(x:X)(h:t.run=some x)(hk:gB n (k x) p):gB n (.op t k) p:=
 At.bind (o:=t.run) (g:=fun x=>(k x).run n) (p:=fun y=>y=x) ⟨x,h,rfl⟩ (fun a ha=>by subst ha;exact hk)
theorem gB.done{ts:List TS}{r:ρ}(ht:aI ts=true)(h:p r):gB (P:=P) n (.done ts r) p:=
 ⟨r,by show(if aI ts=true then some r else none)=_;rw[if_pos ht],h⟩
theorem gB.tidy{ts:List TS}{g:G P ρ}(ht:aI ts=true)(h:gB n g p):gB n (.tidy ts g) p:=by
 obtain⟨r,h1,h2⟩:=h;exact⟨r,by show(if aI ts=true then g.run n else none)=_;rw[if_pos ht];exact h1,h2⟩
theorem gB.inl{pr:List PR}{g:G P ρ}(h:gB n g p):gB n (.inl pr g) p:=h
theorem gB.fL{m:Nat}{g:G P ρ}(h:gB n g p):gB n (.fL m g) p:=h
theorem gB.join{sh:Sh}{Y:sh.El→bu×St}{g:G P sh.El}{k:sh.El→G P ρ}(q:sh.El→Prop)(h:gB n g q)(hk:∀t,q t→gB n (k t) p):gB n (.join sh Y g k) p:=
 At.bind (o:=g.run n) (g:=fun t=>(k t).run n) h hk
theorem gB.loop{σ:Type}{sh:Sh}{hd:List TS}{E:σ→St}{X:sh.El→bu×St}{a0:σ}{body:σ→G P (σ⊕sh.El)}{k:sh.El→G P ρ}(I:σ→Prop)(m:σ→Nat)(q:sh.El→Prop)
 (ht:aI hd=true) (hI:I a0) (hm:m a0<n) (hb:∀a,I a→gB n (body a) (Fz I m q a)) (hk:∀t,q t→gB n (k t) p):gB n (.loop sh hd E X a0 body k) p:=by
 obtain⟨r,h2,h3⟩:=At.bind (o:=bZ (fun a=>(body a).run n) n a0) (g:=fun t=>(k t).run n) (At.iter (body:=fun a=>(body a).run n) I m q hb n a0 hI hm) hk
 exact⟨r,by show(if aI hd=true then(bZ (fun a=>(body a).run n) n a0).bind fun t=>(k t).run n else none)=_;rw[if_pos ht];exact h2,h3⟩
end
end Go.AM
