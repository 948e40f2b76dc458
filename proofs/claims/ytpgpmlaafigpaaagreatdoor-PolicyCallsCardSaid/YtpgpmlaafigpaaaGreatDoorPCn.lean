/- Guides with loops over maps, node by node: what comes out is so, whatever the order. No conditions. -/
import Derived.Test.YtpgpmlaafigpaaaGreatDoorAd
import Derived.Test.YtpgpmlaafigpaaaGreatDoorPAt
namespace Go.AM
set_option linter.unusedVariables false
set_option linter.unusedSectionVars false
section
variable {P:Program} [aD] {ρ:Type} {n:Nat} {p:ρ→Prop}
def dY(n:Nat)(g:G P ρ)(p:ρ→Prop):Prop:=g.can n p
theorem dY.skip{m:Nat}{g:G P ρ}(h:dY n g p):dY n (.skip m g) p:=h
theorem dY.br{d:Tmp}{c:Bool}{t f:G P ρ}(ht:c=true→dY n t p)(hf:c=false→dY n f p):dY n (.br d c t f) p:=by
 show if c then t.can n p else f.can n p
 cases c with
 |true=>exact ht rfl
 |false=>exact hf rfl
theorem dY.sp{c:Bool}{t f:G P ρ}(ht:c=true→dY n t p)(hf:c=false→dY n f p):dY n (.sp c t f) p:=by
 show if c then t.can n p else f.can n p
 cases c with
 |true=>exact ht rfl
 |false=>exact hf rfl
theorem dY.call{c:aA P}{x:c.X}{k:c.sh.El→G P ρ}(q:c.sh.El→Prop)(h:At (c.S n x) q)(hk:∀r,q r→dY n (k r) p):dY n (.call c x k) p:=
 let⟨r,h1,h2⟩:=h;⟨r,h1,hk r h2⟩
theorem dY.fK{c:uG P}{x:c.X}{k:c.sh.El→G P ρ}(q:c.sh.El→Prop)(h:At (c.S n x) q)(hk:∀r,q r→dY n (k r) p):dY n (.fK c x k) p:=
 let⟨r,h1,h2⟩:=h;⟨r,h1,hk r h2⟩
theorem dY.ax{c:cD P}{b v:Nat}{ex:List PR}{x:c.X}{k:c.sh.El→G P ρ}(q:c.sh.El→Prop)(h:At (c.S n x) q)(hk:∀r,q r→dY n (k r) p):dY n (.ax c b v ex x k) p:=
 let⟨r,h1,h2⟩:=h;⟨r,h1,hk r h2⟩
theorem dY.op{X:Type}{t:kO X}{k:X→G P ρ}(x:X)(h:t.run=some x)(hk:dY n (k x) p):dY n (.op t k) p:=⟨x,h,hk⟩
theorem dY.done{ts:List TS}{r:ρ}(ht:aI ts=true)(h:p r):dY (P:=P) n (.done ts r) p:=⟨ht,h⟩
theorem dY.tidy{ts:List TS}{g:G P ρ}(ht:aI ts=true)(h:dY n g p):dY n (.tidy ts g) p:=⟨ht,h⟩
theorem dY.inl{pr:List PR}{g:G P ρ}(h:dY n g p):dY n (.inl pr g) p:=h
theorem dY.fL{m:Nat}{g:G P ρ}(h:dY n g p):dY n (.fL m g) p:=h
theorem dY.join{sh:Sh}{Y:sh.El→bu×St}{g:G P sh.El}{k:sh.El→G P ρ}(q:sh.El→Prop)(h:dY n g q)(hk:∀t,q t→dY n (k t) p):dY n (.join sh Y g k) p:=
 G.dQ n g hk h
theorem dY.pick{z:PK}{seen:List Nat}{a:G P ρ}{f:Nat→G P ρ}(h0:(∀i,i<z.n→i∈seen)→dY n a p)(h1:∀i,i<z.n→i∉seen→dY n (f i) p):dY n (.pick z seen (pk a f)) p:=⟨h0,h1⟩
theorem dY.iter{σ τ:Type}{f:σ→((σ⊕τ)→Prop)→Prop}(hf:∀a (q q':σ⊕τ→Prop),(∀x,q x→q' x)→f a q→f a q')(I:σ→Prop)(m:σ→Nat)(q:τ→Prop)(hb:∀a,I a→f a (Fz I m q a)):
 ∀(M:Nat) (a:σ),I a→m a<M→zx f M a q
 | 0,_,_,h=>absurd h (Nat.not_lt_zero _)
 |M+1,a,hI,hm=>hf a _ _ (fun x hx=>match x,hx with
  | .inl b,hx=>dY.iter hf I m q hb M b hx.1 (by have:=hx.2;omega)
  | .inr t,hx=>hx) (hb a hI)
theorem dY.loop{σ:Type}{sh:Sh}{hd:List TS}{E:σ→St}{X:sh.El→bu×St}{a0:σ}{body:σ→G P (σ⊕sh.El)}{k:sh.El→G P ρ}(I:σ→Prop)(m:σ→Nat)(q:sh.El→Prop)
 (ht:aI hd=true) (hI:I a0) (hm:m a0<n) (hb:∀a,I a→dY n (body a) (Fz I m q a)) (hk:∀t,q t→dY n (k t) p):dY n (.loop sh hd E X a0 body k) p:=by
 refine⟨ht,?_⟩;exact dY.iter (f:=fun a q=>(body a).can n q) (fun a _ _ h h'=>G.dQ n (body a) h h') I m (fun t=>(k t).can n p) (fun a ha=>G.dQ n (body a) (fun x hx=>match x,hx with
  | .inl b,hx=>hx
  | .inr t,hx=>hk t hx) (hb a ha)) n a0 hI hm
end
theorem JL{n:Nat}{seen:List Nat}(hnd:seen.Nodup)(hlt:∀i∈seen,i<n)(hall:∀i,i<n→i∈seen):seen.Perm (List.range n):=
 (List.perm_ext_iff_of_nodup hnd List.nodup_range).2 fun i=>⟨fun h=>List.mem_range.2 (hlt i h),fun h=>hall i (List.mem_range.1 h)⟩
end Go.AM
