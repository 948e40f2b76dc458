/- Guides with loops over maps, node by node: what comes out is so, whatever the order. No conditions. -/
import Derived.Test.YtiohninblcifpaaGreatDoorAd
import Derived.Test.YtiohninblcifpaaGreatDoorPa
set_option linter.unusedSectionVars false
set_option linter.unusedVariables false
namespace Go.AM
section
variable {P:Program} [az] {ρ:Type} {n:Nat} {p:ρ→Prop}
def cG(n:Nat)(g:G P ρ)(p:ρ→Prop):Prop:=g.can n p
theorem cG.skip{m:Nat}{g:G P ρ}(h:cG n g p):cG n (.skip m g) p:=h
theorem cG.br{d:Tmp}{c:Bool}{t f:G P ρ}(ht:c=true→cG n t p)(hf:c=false→cG n f p):cG n (.br d c t f) p:=by
 show if c then t.can n p else f.can n p
 cases c with
 |true=>exact ht rfl
 |false=>exact hf rfl
theorem cG.sp{c:Bool}{t f:G P ρ}(ht:c=true→cG n t p)(hf:c=false→cG n f p):cG n (.sp c t f) p:=by
 show if c then t.can n p else f.can n p
 cases c with
 |true=>exact ht rfl
 |false=>exact hf rfl
theorem cG.call{c:aF P}{x:c.X}{k:c.sh.El→G P ρ}(q:c.sh.El→Prop)(h:At (c.S n x) q)(hk:∀r,q r→cG n (k r) p):cG n (.call c x k) p:=
 let⟨r,h1,h2⟩:=h;⟨r,h1,hk r h2⟩
theorem cG.eU{c:rT P}{x:c.X}{k:c.sh.El→G P ρ}(q:c.sh.El→Prop)(h:At (c.S n x) q)(hk:∀r,q r→cG n (k r) p):cG n (.eU c x k) p:=
 let⟨r,h1,h2⟩:=h;⟨r,h1,hk r h2⟩
theorem cG.aA{c:cU P}{b v:Nat}{ex:List PR}{x:c.X}{k:c.sh.El→G P ρ}(q:c.sh.El→Prop)(h:At (c.S n x) q)(hk:∀r,q r→cG n (k r) p):cG n (.aA c b v ex x k) p:=
 let⟨r,h1,h2⟩:=h;⟨r,h1,hk r h2⟩
theorem cG.op{X:Type}{t:ql X}{k:X→G P ρ}(x:X)(h:t.run=some x)(hk:cG n (k x) p):cG n (.op t k) p:=⟨x,h,hk⟩
theorem cG.done{ts:List TS}{r:ρ}(ht:aK ts=true)(h:p r):cG (P:=P) n (.done ts r) p:=⟨ht,h⟩
theorem cG.tidy{ts:List TS}{g:G P ρ}(ht:aK ts=true)(h:cG n g p):cG n (.tidy ts g) p:=⟨ht,h⟩
theorem cG.inl{pr:List PR}{g:G P ρ}(h:cG n g p):cG n (.inl pr g) p:=h
theorem cG.gu{m:Nat}{g:G P ρ}(h:cG n g p):cG n (.gu m g) p:=h
theorem cG.join{sh:Sh}{Y:sh.El→aS×St}{g:G P sh.El}{k:sh.El→G P ρ}(q:sh.El→Prop)(h:cG n g q)(hk:∀t,q t→cG n (k t) p):cG n (.join sh Y g k) p:=
 G.cF n g hk h
theorem cG.pick{z:PK}{seen:List Nat}{a:G P ρ}{f:Nat→G P ρ}(h0:(∀i,i<z.n→i∈seen)→cG n a p)(h1:∀i,i<z.n→i∉seen→cG n (f i) p):cG n (.pick z seen (pk a f)) p:=⟨h0,h1⟩
theorem cG.grow{z:GK}{k:Bool→G P ρ}(hz:z.ok=true)(h1:cG n (k true) p)(h2:cG n (k false) p):cG n (.grow z k) p:=⟨hz,h1,h2⟩
theorem cG.iter{σ τ:Type}{f:σ→((σ⊕τ)→Prop)→Prop}(hf:∀a (q q':σ⊕τ→Prop),(∀x,q x→q' x)→f a q→f a q')(I:σ→Prop)(m:σ→Nat)(q:τ→Prop)(hb:∀a,I a→f a (xE I m q a)):
 ∀(M:Nat) (a:σ),I a→m a<M→nF f M a q
 | 0,_,_,h=>absurd h (Nat.not_lt_zero _)
 |M+1,a,hI,hm=>hf a _ _ (fun x hx=>match x,hx with
  | .inl b,hx=>cG.iter hf I m q hb M b hx.1 (by have:=hx.2;omega)
  | .inr t,hx=>hx) (hb a hI)
theorem cG.loop{σ:Type}{sh:Sh}{hd:List TS}{E:σ→St}{X:sh.El→aS×St}{a0:σ}{body:σ→G P (σ⊕sh.El)}{k:sh.El→G P ρ}(I:σ→Prop)(m:σ→Nat)(q:sh.El→Prop)
 (ht:aK hd=true) (hI:I a0) (hm:m a0<n) (hb:∀a,I a→cG n (body a) (xE I m q a)) (hk:∀t,q t→cG n (k t) p):cG n (.loop sh hd E X a0 body k) p:=by
 refine⟨ht,?_⟩;exact cG.iter (f:=fun a q=>(body a).can n q) (fun a _ _ h h'=>G.cF n (body a) h h') I m (fun t=>(k t).can n p) (fun a ha=>G.cF n (body a) (fun x hx=>match x,hx with
  | .inl b,hx=>hx
  | .inr t,hx=>hk t hx) (hb a ha)) n a0 hI hm
theorem cG.qD{hs sh:Sh}{hd:List TS}{E:hs.El→St}{X:sh.El→aS×St}{a0:hs.El}{body:hs.El→G P (hs.El⊕sh.El)}{k:sh.El→G P ρ}(I:hs.El→Prop)(m:hs.El→Nat)(q:sh.El→Prop)
 (ht:aK hd=true) (hI:I a0) (hm:m a0<n) (hb:∀a,I a→cG n (body a) (xE I m q a)) (hk:∀t,q t→cG n (k t) p):cG n (.qD hs sh hd E X a0 body k) p:=
 cG.loop (E:=E) (X:=X) I m q ht hI hm hb hk
end
theorem JQ{n:Nat}{seen:List Nat}(hnd:seen.Nodup)(hlt:∀i∈seen,i<n)(hall:∀i,i<n→i∈seen):seen.Perm (List.range n):=
 (List.perm_ext_iff_of_nodup hnd List.nodup_range).2 fun i=>⟨fun h=>List.mem_range.2 (hlt i h),fun h=>hall i (List.mem_range.1 h)⟩
end Go.AM
