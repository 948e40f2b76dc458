/- Guides with loops over maps, node by node: what comes out is so, whatever the order. No conditions. -/
import Derived.Test.YtiohninblcifpaaGreatDoorAd
import Derived.Test.YtiohninblcifpaaGreatDoorPa
set_option linter.unusedSectionVars false
set_option linter.unusedVariables false
namespace Go.AM
section
variable {P:Program} [aB] {ρ:Type} {n:Nat} {p:ρ→Prop}
def cQ(n:Nat)(g:G P ρ)(p:ρ→Prop):Prop:=g.can n p
theorem cQ.skip{m:Nat}{g:G P ρ}(h:cQ n g p):cQ n (.skip m g) p:=h
theorem cQ.br{d:Tmp}{c:Bool}{t f:G P ρ}(ht:c=true→cQ n t p)(hf:c=false→cQ n f p):cQ n (.br d c t f) p:=by
 show if c then t.can n p else f.can n p
 cases c with
 |true=>exact ht rfl
 |false=>exact hf rfl
theorem cQ.sp{c:Bool}{t f:G P ρ}(ht:c=true→cQ n t p)(hf:c=false→cQ n f p):cQ n (.sp c t f) p:=by
 show if c then t.can n p else f.can n p
 cases c with
 |true=>exact ht rfl
 |false=>exact hf rfl
theorem cQ.call{c:aA P}{x:c.X}{k:c.sh.El→G P ρ}(q:c.sh.El→Prop)(h:At (c.S n x) q)(hk:∀r,q r→cQ n (k r) p):cQ n (.call c x k) p:=
 let⟨r,h1,h2⟩:=h;⟨r,h1,hk r h2⟩
theorem cQ.fM{c:tu P}{x:c.X}{k:c.sh.El→G P ρ}(q:c.sh.El→Prop)(h:At (c.S n x) q)(hk:∀r,q r→cQ n (k r) p):cQ n (.fM c x k) p:=
 let⟨r,h1,h2⟩:=h;⟨r,h1,hk r h2⟩
theorem cQ.bk{c:dm P}{b v:Nat}{ex:List PR}{x:c.X}{k:c.sh.El→G P ρ}(q:c.sh.El→Prop)(h:At (c.S n x) q)(hk:∀r,q r→cQ n (k r) p):cQ n (.bk c b v ex x k) p:=
 let⟨r,h1,h2⟩:=h;⟨r,h1,hk r h2⟩
theorem cQ.op{X:Type}{t:mI X}{k:X→G P ρ}(x:X)(h:t.run=some x)(hk:cQ n (k x) p):cQ n (.op t k) p:=⟨x,h,hk⟩
theorem cQ.done{ts:List TS}{r:ρ}(ht:aK ts=true)(h:p r):cQ (P:=P) n (.done ts r) p:=⟨ht,h⟩
theorem cQ.tidy{ts:List TS}{g:G P ρ}(ht:aK ts=true)(h:cQ n g p):cQ n (.tidy ts g) p:=⟨ht,h⟩
theorem cQ.inl{pr:List PR}{g:G P ρ}(h:cQ n g p):cQ n (.inl pr g) p:=h
theorem cQ.fH{m:Nat}{g:G P ρ}(h:cQ n g p):cQ n (.fH m g) p:=h
theorem cQ.join{sh:Sh}{Y:sh.El→aX×St}{g:G P sh.El}{k:sh.El→G P ρ}(q:sh.El→Prop)(h:cQ n g q)(hk:∀t,q t→cQ n (k t) p):cQ n (.join sh Y g k) p:=
 G.cM n g hk h
theorem cQ.pick{z:PK}{seen:List Nat}{a:G P ρ}{f:Nat→G P ρ}(h0:(∀i,i<z.n→i∈seen)→cQ n a p)(h1:∀i,i<z.n→i∉seen→cQ n (f i) p):cQ n (.pick z seen (pk a f)) p:=⟨h0,h1⟩
theorem cQ.grow{z:GK}{k:Bool→G P ρ}(hz:z.ok=true)(h1:cQ n (k true) p)(h2:cQ n (k false) p):cQ n (.grow z k) p:=⟨hz,h1,h2⟩
theorem cQ.iter{σ τ:Type}{f:σ→((σ⊕τ)→Prop)→Prop}(hf:∀a (q q':σ⊕τ→Prop),(∀x,q x→q' x)→f a q→f a q')(I:σ→Prop)(m:σ→Nat)(q:τ→Prop)(hb:∀a,I a→f a (zV I m q a)):
 ∀(M:Nat) (a:σ),I a→m a<M→nO f M a q
 | 0,_,_,h=>absurd h (Nat.not_lt_zero _)
 |M+1,a,hI,hm=>hf a _ _ (fun x hx=>match x,hx with
  | .inl b,hx=>cQ.iter hf I m q hb M b hx.1 (by have:=hx.2;omega)
  | .inr t,hx=>hx) (hb a hI)
theorem cQ.loop{σ:Type}{sh:Sh}{hd:List TS}{E:σ→St}{X:sh.El→aX×St}{a0:σ}{body:σ→G P (σ⊕sh.El)}{k:sh.El→G P ρ}(I:σ→Prop)(m:σ→Nat)(q:sh.El→Prop)
 (ht:aK hd=true) (hI:I a0) (hm:m a0<n) (hb:∀a,I a→cQ n (body a) (zV I m q a)) (hk:∀t,q t→cQ n (k t) p):cQ n (.loop sh hd E X a0 body k) p:=by
 refine⟨ht,?_⟩;exact cQ.iter (f:=fun a q=>(body a).can n q) (fun a _ _ h h'=>G.cM n (body a) h h') I m (fun t=>(k t).can n p) (fun a ha=>G.cM n (body a) (fun x hx=>match x,hx with
  | .inl b,hx=>hx
  | .inr t,hx=>hk t hx) (hb a ha)) n a0 hI hm
theorem cQ.rC{hs sh:Sh}{hd:List TS}{E:hs.El→St}{X:sh.El→aX×St}{a0:hs.El}{body:hs.El→G P (hs.El⊕sh.El)}{k:sh.El→G P ρ}(I:hs.El→Prop)(m:hs.El→Nat)(q:sh.El→Prop)
 (ht:aK hd=true) (hI:I a0) (hm:m a0<n) (hb:∀a,I a→cQ n (body a) (zV I m q a)) (hk:∀t,q t→cQ n (k t) p):cQ n (.rC hs sh hd E X a0 body k) p:=
 cQ.loop (E:=E) (X:=X) I m q ht hI hm hb hk
end
theorem MI{n:Nat}{seen:List Nat}(hnd:seen.Nodup)(hlt:∀i∈seen,i<n)(hall:∀i,i<n→i∈seen):seen.Perm (List.range n):=
 (List.perm_ext_iff_of_nodup hnd List.nodup_range).2 fun i=>⟨fun h=>List.mem_range.2 (hlt i h),fun h=>hall i (List.mem_range.1 h)⟩
end Go.AM
