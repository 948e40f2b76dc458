/- Parts put together. No conditions. -/
import Derived.Test.YtiohninblcifpaaGreatDoorAd
set_option linter.unusedVariables false
set_option maxRecDepth 100000
section
namespace Go.AM
def At{α:Type}(o:Option α)(p:α→Prop):Prop:=∃r,o=some r∧p r
theorem At.of{α:Type}{p:α→Prop}{o:Option α}{r:α}(e:o=some r)(h:p r):At o p:=⟨r,e,h⟩
theorem At.mono{α:Type}{o:Option α}{p q:α→Prop}(h:At o p)(hp:∀r,p r→q r):At o q:=by
 obtain⟨r,h1,h2⟩:=h;exact⟨r,h1,hp r h2⟩
theorem At.bind{α β:Type}{o:Option α}{g:α→Option β}{p:α→Prop}{q:β→Prop}(h:At o p)(hg:∀a,p a→At (g a) q):At (o.bind g) q:=by
 obtain⟨a,h1,h2⟩:=h;obtain⟨b,h3,h4⟩:=hg a h2;exact⟨b,by rw[h1];exact h3,h4⟩
theorem At.ite{α:Type}{c:Prop}[Decidable c]{f g:Option α}{p:α→Prop}(hf:c→At f p)(hg:¬c→At g p):At (if c then f else g) p:=by
 by_cases hc:c
 ·rw[if_pos hc];exact hf hc
 ·rw[if_neg hc];exact hg hc
theorem At.eq{α:Type}{o:Option α}{r:α}(h:∀{β:Type} (k:α→Option β),o.bind k=k r):At o fun x=>x=r:=by
 have:=h (fun x=>some x)
 cases o with
 |none=>cases this
 |some y=>exact⟨y,rfl,Option.some.inj this⟩
def o6{σ τ:Type}(I:σ→Prop)(m:σ→Nat)(p:τ→Prop)(a:σ):σ⊕τ→Prop
 | .inl b=>I b∧m b<m a
 | .inr t=>p t
theorem At.iter{σ τ:Type}{body:σ→Option (σ⊕τ)}(I:σ→Prop)(m:σ→Nat)(p:τ→Prop)(h:∀a,I a→At (body a) (o6 I m p a)):
 ∀(M:Nat) (a:σ),I a→m a<M→At (bV body M a) p
 | 0,a,_,hm=>absurd hm (Nat.not_lt_zero _)
 |M+1,a,hI,hm=>by
  obtain⟨r,h1,h2⟩:=h a hI;cases r with
  |inl b=>
   obtain⟨t,h3,h4⟩:=At.iter I m p h M b h2.1 (by have:=h2.2;omega)
   exact⟨t,by simp only[bV,h1];exact h3,h4⟩
  |inr t=>exact⟨t,by simp only[bV,h1],h2⟩
section
variable {P:Program} [aF] {ρ:Type} {n:Nat} {p:ρ→Prop}
def cF(n:Nat)(g:G P ρ)(p:ρ→Prop):Prop:=At (g.run n) p
theorem cF.skip{m:Nat}{g:G P ρ}(h:cF n g p):cF n (.skip m g) p:=h
theorem cF.br{d:Tmp}{c:Bool}{t f:G P ρ}(ht:c=true→cF n t p)(hf:c=false→cF n f p):cF n (.br d c t f) p:=
 At.ite (f:=t.run n) (g:=f.run n) ht (fun h=>hf (by simpa using h))
theorem cF.sp{c:Bool}{t f:G P ρ}(ht:c=true→cF n t p)(hf:c=false→cF n f p):cF n (.sp c t f) p:=
 At.ite (f:=t.run n) (g:=f.run n) ht (fun h=>hf (by simpa using h))
theorem cF.call{c:aD P}{x:c.X}{k:c.sh.El→G P ρ}(q:c.sh.El→Prop)(h:At (c.S n x) q)(hk:∀r,q r→cF n (k r) p):cF n (.call c x k) p:=
 At.bind (g:=fun r=>(k r).run n) h hk
theorem cF.cV{c:yf P}{x:c.X}{k:c.sh.El→G P ρ}(q:c.sh.El→Prop)(h:At (c.S n x) q)(hk:∀r,q r→cF n (k r) p):cF n (.cV c x k) p:=
 At.bind (g:=fun r=>(k r).run n) h hk
theorem cF.bw{c:dF P}{b v:Nat}{ex:List PR}{x:c.X}{k:c.sh.El→G P ρ}(q:c.sh.El→Prop)(h:At (c.S n x) q)(hk:∀r,q r→cF n (k r) p):cF n (.bw c b v ex x k) p:=
 At.bind (g:=fun r=>(k r).run n) h hk
theorem cF.op{X:Type}{t:mO X}{k:X→G P ρ}(x:X)(h:t.run=some x)(hk:cF n (k x) p):cF n (.op t k) p:=
 At.bind (o:=t.run) (g:=fun x=>(k x).run n) (p:=fun y=>y=x) ⟨x,h,rfl⟩ (fun a ha=>by subst ha;exact hk)
theorem cF.done{ts:List TS}{r:ρ}(ht:aO ts=true)(h:p r):cF (P:=P) n (.done ts r) p:=
 ⟨r,by show(if aO ts=true then some r else none)=_;rw[if_pos ht],h⟩
theorem cF.tidy{ts:List TS}{g:G P ρ}(ht:aO ts=true)(h:cF n g p):cF n (.tidy ts g) p:=by
 obtain⟨r,h1,h2⟩:=h;exact⟨r,by show(if aO ts=true then g.run n else none)=_;rw[if_pos ht];exact h1,h2⟩
theorem cF.inl{pr:List PR}{g:G P ρ}(h:cF n g p):cF n (.inl pr g) p:=h
theorem cF.gu{m:Nat}{g:G P ρ}(h:cF n g p):cF n (.gu m g) p:=h
theorem cF.join{sh:Sh}{Y:sh.El→bh×St}{g:G P sh.El}{k:sh.El→G P ρ}(q:sh.El→Prop)(h:cF n g q)(hk:∀t,q t→cF n (k t) p):cF n (.join sh Y g k) p:=
 At.bind (o:=g.run n) (g:=fun t=>(k t).run n) h hk
theorem cF.loop{σ:Type}{sh:Sh}{hd:List TS}{E:σ→St}{X:sh.El→bh×St}{a0:σ}{body:σ→G P (σ⊕sh.El)}{k:sh.El→G P ρ}(I:σ→Prop)(m:σ→Nat)(q:sh.El→Prop)
 (ht:aO hd=true) (hI:I a0) (hm:m a0<n) (hb:∀a,I a→cF n (body a) (o6 I m q a)) (hk:∀t,q t→cF n (k t) p):cF n (.loop sh hd E X a0 body k) p:=by
 obtain⟨r,h2,h3⟩:=At.bind (o:=bV (fun a=>(body a).run n) n a0) (g:=fun t=>(k t).run n) (At.iter (body:=fun a=>(body a).run n) I m q hb n a0 hI hm) hk
 exact⟨r,by show(if aO hd=true then(bV (fun a=>(body a).run n) n a0).bind fun t=>(k t).run n else none)=_;rw[if_pos ht];exact h2,h3⟩
end
end Go.AM
end
section
namespace Go.L
open Go.AM
section
variable {α σ:Type}
def dI(l:List α)(P:List α→σ→Prop)(a:Int×σ):Prop:=∃i:Nat,a.1=(i:Int)∧i≤l.length∧P (l.take i) a.2
theorem dI.start{l:List α}{P:List α→σ→Prop}{s:σ}(h:P [] s):dI l P ((0:Int),s):=⟨0,rfl,Nat.zero_le _,by simpa using h⟩
theorem dI.get{l:List α}{P:List α→σ→Prop}{a:Int×σ}(h:dI l P a)(hlt:decide (a.1<((l.length:Nat):Int))=true):
 ∃x pre,gv l a.1=some x∧x∈l∧P pre a.2∧(a.1=((pre.length:Nat):Int)∧∃post,l=pre++x::post)∧(l.length<100000→∀s',P (pre++[x]) s'→dI l P (IntKind.wrap .i64 (a.1+1),s')∧l.length - (IntKind.wrap .i64 (a.1+1)).toNat<l.length - a.1.toNat):=by
 obtain⟨i,hi,hil,hp⟩:=h;simp only[decide_eq_true_eq]at hlt;have hi':i<l.length:=by omega
 have hx:l[i]? =some (l[i]):=List.getElem?_eq_getElem hi';refine⟨l[i],l.take i,by rw[hi,bN,hx],List.getElem_mem hi',hp,⟨by rw[hi,List.length_take,Nat.min_eq_left hil],l.drop (i+1),by rw[List.getElem_cons_drop,List.take_append_drop]⟩,fun hl s' hs=>?_⟩
 have ht:l.take (i+1)=l.take i++[l[i]]:=by rw[List.take_add_one,hx];rfl
 rw[hi,ep (by omega)]
 exact⟨⟨i+1,rfl,by omega,by rw[ht];exact hs⟩,by simp only[Int.toNat_natCast];omega⟩
theorem dI.fin{l:List α}{P:List α→σ→Prop}{a:Int×σ}(h:dI l P a)(hge:decide (a.1<((l.length:Nat):Int))=false):P l a.2:=by
 obtain⟨i,hi,hil,hp⟩:=h;simp only[decide_eq_false_iff_not]at hge;have:i=l.length:=by omega
 subst this;rwa[List.take_length]at hp
end
def cM(a b:Int):Int:=if a<b then -1 else if a>b then 1 else 0
theorem Fw(a b:Int):cM a b<0↔a<b:=by
 unfold cM;split
 ·omega
 ·split<;>omega
theorem xR(a b:Int):cM a b=0↔a=b:=by
 unfold cM;split
 ·omega
 ·split<;>omega
theorem O3(a b:Int):cM b a= - cM a b:=by unfold cM;split<;>split<;>(try split)<;>omega
def qb:List Int→Int
 | []=>0
 |x::xs=>if x=0 then qb xs else x
def Ko(b:Bool):Int:=if b then 1 else 0
def eA:List Int→List Int→Int
 |a::as,b::bs=>if cM a b=0 then eA as bs else cM a b
 |_,_=>0
theorem rL:∀{as bs:List Int},as.length=bs.length→(eA as bs=0↔as=bs)
 | [],[],_=>by simp[eA]
 |a::as,b::bs,h=>by
  simp only[List.length_cons,Nat.add_right_cancel_iff]at h;have ih:=rL h;simp only[eA,List.cons.injEq];split
  ·rename_i h0;rw[ih,(xR a b).1 h0];simp
  ·rename_i h0;exact⟨fun e=>absurd e h0,fun e=>absurd ((xR a b).2 e.1) h0⟩
theorem rM:∀(as bs:List Int),eA bs as= - eA as bs
 | [],[]=>rfl
 | [],_::_=>rfl
 |_::_,[]=>rfl
 |a::as,b::bs=>by
  simp only[eA,O3 a b,rM as bs];split<;>split<;>omega
theorem sQ:∀{as bs cs:List Int},eA as bs<0→eA bs cs<0→eA as cs<0
 |a::as,b::bs,c::cs,h1,h2=>by
  simp only[eA]at h1 h2 ⊢;have p1:=xR a b;have p2:=xR b c;have p3:=xR a c;have q1:=Fw a b;have q2:=Fw b c;have q3:=Fw a c;split at h1<;>split at h2<;>split
  ·exact sQ h1 h2
  all_goals omega
 | [],_,_,h,_=>by simp[eA]at h
 |_::_,[],_,h,_=>by simp[eA]at h
 |_::_,_::_,[],_,h=>by simp[eA]at h
theorem EZ(as:List Int):¬eA as as<0:=by rw[(rL rfl).2 rfl];omega
end Go.L
end
