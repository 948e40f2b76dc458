/- Parts put together. No conditions. -/
import Derived.Test.YtiohninblcifpaaGreatDoorAd
set_option linter.unusedVariables false
set_option maxRecDepth 100000
section
namespace Go.AM
def At{α:Type}(o:Option α)(p:α→Prop):Prop:=∃r,o=some r∧p r
theorem At.of{α:Type}{p:α→Prop}{o:Option α}{r:α}(e:o=some r)(h:p r):At o p:=⟨r,e,h⟩
theorem At.mono{α:Type}{o:Option α}{p q:α→Prop}(h:At o p)(hp:∀r,p r→q r):At o q:=by
 obtain⟨r,h1,h2⟩:=h;exact⟨r,h1,hp r h2⟩
theorem At.bind{α β:Type}{o:Option α}{g:α→Option β}{p:α→Prop}{q:β→Prop}(h:At o p)(hg:∀a,p a→At (g a) q):At (o.bind g) q:=by
 obtain⟨a,h1,h2⟩:=h;obtain⟨b,h3,h4⟩:=hg a h2;exact⟨b,by rw[h1];exact h3,h4⟩
theorem At.ite{α:Type}{c:Prop}[Decidable c]{f g:Option α}{p:α→Prop}(hf:c→At f p)(hg:¬c→At g p):At (if c then f else g) p:=by
 by_cases hc:c
 ·rw[if_pos hc];exact hf hc
 ·rw[if_neg hc];exact hg hc
theorem At.eq{α:Type}{o:Option α}{r:α}(h:∀{β:Type} (k:α→Option β),o.bind k=k r):At o fun x=>x=r:=by
 have:=h (fun x=>some x)
 cases o with
 |none=>cases this
 |some y=>exact⟨y,rfl,Option.some.inj this⟩
def kP{σ τ:Type}(I:σ→Prop)(m:σ→Nat)(p:τ→Prop)(a:σ):σ⊕τ→Prop
 | .inl b=>I b∧m b<m a
 | .inr t=>p t
theorem At.iter{σ τ:Type}{body:σ→Option (σ⊕τ)}(I:σ→Prop)(m:σ→Nat)(p:τ→Prop)(h:∀a,I a→At (body a) (kP I m p a)):
 ∀(M:Nat) (a:σ),I a→m a<M→At (kj body M a) p
 | 0,a,_,hm=>absurd hm (Nat.not_lt_zero _)
 |M+1,a,hI,hm=>by
  obtain⟨r,h1,h2⟩:=h a hI;cases r with
  |inl b=>
   obtain⟨t,h3,h4⟩:=At.iter I m p h M b h2.1 (by have:=h2.2;omega)
   exact⟨t,by simp only[kj,h1];exact h3,h4⟩
  |inr t=>exact⟨t,by simp only[kj,h1],h2⟩
section
variable {P:Program} [ax] {ρ:Type} {n:Nat} {p:ρ→Prop}
def cH(n:Nat)(g:G P ρ)(p:ρ→Prop):Prop:=At (g.run n) p
theorem cH.skip{m:Nat}{g:G P ρ}(h:cH n g p):cH n (.skip m g) p:=h
theorem cH.br{d:Tmp}{c:Bool}{t f:G P ρ}(ht:c=true→cH n t p)(hf:c=false→cH n f p):cH n (.br d c t f) p:=
 At.ite (f:=t.run n) (g:=f.run n) ht (fun h=>hf (by simpa using h))
theorem cH.sp{c:Bool}{t f:G P ρ}(ht:c=true→cH n t p)(hf:c=false→cH n f p):cH n (.sp c t f) p:=
 At.ite (f:=t.run n) (g:=f.run n) ht (fun h=>hf (by simpa using h))
theorem cH.call{c:aA P}{x:c.X}{k:c.sh.El→G P ρ}(q:c.sh.El→Prop)(h:At (c.S n x) q)(hk:∀r,q r→cH n (k r) p):cH n (.call c x k) p:=
 At.bind (g:=fun r=>(k r).run n) h hk
theorem cH.bz{c:qF P}{x:c.X}{k:c.sh.El→G P ρ}(q:c.sh.El→Prop)(h:At (c.S n x) q)(hk:∀r,q r→cH n (k r) p):cH n (.bz c x k) p:=
 At.bind (g:=fun r=>(k r).run n) h hk
theorem cH.gM{c:jV P}{b v:Nat}{ex:List PR}{x:c.X}{k:c.sh.El→G P ρ}(q:c.sh.El→Prop)(h:At (c.S n x) q)(hk:∀r,q r→cH n (k r) p):cH n (.gM c b v ex x k) p:=
 At.bind (g:=fun r=>(k r).run n) h hk
theorem cH.op{X:Type}{t:jo X}{k:X→G P ρ}(x:X)(h:t.run=some x)(hk:cH n (k x) p):cH n (.op t k) p:=
 At.bind (o:=t.run) (g:=fun x=>(k x).run n) (p:=fun y=>y=x) ⟨x,h,rfl⟩ (fun a ha=>by subst ha;exact hk)
theorem cH.done{ts:List TS}{r:ρ}(ht:ej ts=true)(h:p r):cH (P:=P) n (.done ts r) p:=
 ⟨r,by show(if ej ts=true then some r else none)=_;rw[if_pos ht],h⟩
theorem cH.tidy{ts:List TS}{g:G P ρ}(ht:ej ts=true)(h:cH n g p):cH n (.tidy ts g) p:=by
 obtain⟨r,h1,h2⟩:=h;exact⟨r,by show(if ej ts=true then g.run n else none)=_;rw[if_pos ht];exact h1,h2⟩
theorem cH.inl{pr:List PR}{g:G P ρ}(h:cH n g p):cH n (.inl pr g) p:=h
theorem cH.eG{m:Nat}{g:G P ρ}(h:cH n g p):cH n (.eG m g) p:=h
theorem cH.join{sh:Sh}{Y:sh.El→aS×St}{g:G P sh.El}{k:sh.El→G P ρ}(q:sh.El→Prop)(h:cH n g q)(hk:∀t,q t→cH n (k t) p):cH n (.join sh Y g k) p:=
 At.bind (o:=g.run n) (g:=fun t=>(k t).run n) h hk
theorem cH.loop{σ:Type}{sh:Sh}{hd:List TS}{E:σ→St}{X:sh.El→aS×St}{a0:σ}{body:σ→G P (σ⊕sh.El)}{k:sh.El→G P ρ}(I:σ→Prop)(m:σ→Nat)(q:sh.El→Prop)
 (ht:ej hd=true) (hI:I a0) (hm:m a0<n) (hb:∀a,I a→cH n (body a) (kP I m q a)) (hk:∀t,q t→cH n (k t) p):cH n (.loop sh hd E X a0 body k) p:=by
 obtain⟨r,h2,h3⟩:=At.bind (o:=kj (fun a=>(body a).run n) n a0) (g:=fun t=>(k t).run n) (At.iter (body:=fun a=>(body a).run n) I m q hb n a0 hI hm) hk
 exact⟨r,by show(if ej hd=true then(kj (fun a=>(body a).run n) n a0).bind fun t=>(k t).run n else none)=_;rw[if_pos ht];exact h2,h3⟩
end
end Go.AM
end
section
namespace Go.L
open Go.AM
section
variable {α σ:Type}
def dP(l:List α)(P:List α→σ→Prop)(a:Int×σ):Prop:=∃i:Nat,a.1=(i:Int)∧i≤l.length∧P (l.take i) a.2
theorem dP.start{l:List α}{P:List α→σ→Prop}{s:σ}(h:P [] s):dP l P ((0:Int),s):=⟨0,rfl,Nat.zero_le _,by simpa using h⟩
theorem dP.get{l:List α}{P:List α→σ→Prop}{a:Int×σ}(h:dP l P a)(hlt:decide (a.1<((l.length:Nat):Int))=true):
 ∃x pre,qn l a.1=some x∧x∈l∧P pre a.2∧(a.1=((pre.length:Nat):Int)∧∃post,l=pre++x::post)∧(l.length<100000→∀s',P (pre++[x]) s'→dP l P (IntKind.wrap .i64 (a.1+1),s')∧l.length - (IntKind.wrap .i64 (a.1+1)).toNat<l.length - a.1.toNat):=by
 obtain⟨i,hi,hil,hp⟩:=h;simp only[decide_eq_true_eq]at hlt;have hi':i<l.length:=by omega
 have hx:l[i]? =some (l[i]):=List.getElem?_eq_getElem hi';refine⟨l[i],l.take i,by rw[hi,qL,hx],List.getElem_mem hi',hp,⟨by rw[hi,List.length_take,Nat.min_eq_left hil],l.drop (i+1),by rw[List.getElem_cons_drop,List.take_append_drop]⟩,fun hl s' hs=>?_⟩
 have ht:l.take (i+1)=l.take i++[l[i]]:=by rw[List.take_add_one,hx];rfl
 rw[hi,Jr (by omega)]
 exact⟨⟨i+1,rfl,by omega,by rw[ht];exact hs⟩,by simp only[Int.toNat_natCast];omega⟩
theorem dP.fin{l:List α}{P:List α→σ→Prop}{a:Int×σ}(h:dP l P a)(hge:decide (a.1<((l.length:Nat):Int))=false):P l a.2:=by
 obtain⟨i,hi,hil,hp⟩:=h;simp only[decide_eq_false_iff_not]at hge;have:i=l.length:=by omega
 subst this;rwa[List.take_length]at hp
end
def bT(a b:Int):Int:=if a<b then -1 else if a>b then 1 else 0
theorem AO(a b:Int):bT a b<0↔a<b:=by
 unfold bT;split
 ·omega
 ·split<;>omega
theorem sA(a b:Int):bT a b=0↔a=b:=by
 unfold bT;split
 ·omega
 ·split<;>omega
theorem Ip(a b:Int):bT b a= - bT a b:=by unfold bT;split<;>split<;>(try split)<;>omega
def lC:List Int→Int
 | []=>0
 |x::xs=>if x=0 then lC xs else x
def E2(b:Bool):Int:=if b then 1 else 0
def cw:List Int→List Int→Int
 |a::as,b::bs=>if bT a b=0 then cw as bs else bT a b
 |_,_=>0
theorem sB:∀{as bs:List Int},as.length=bs.length→(cw as bs=0↔as=bs)
 | [],[],_=>by simp[cw]
 |a::as,b::bs,h=>by
  simp only[List.length_cons,Nat.add_right_cancel_iff]at h;have ih:=sB h;simp only[cw,List.cons.injEq];split
  ·rename_i h0;rw[ih,(sA a b).1 h0];simp
  ·rename_i h0;exact⟨fun e=>absurd e h0,fun e=>absurd ((sA a b).2 e.1) h0⟩
theorem sD:∀(as bs:List Int),cw bs as= - cw as bs
 | [],[]=>rfl
 | [],_::_=>rfl
 |_::_,[]=>rfl
 |a::as,b::bs=>by
  simp only[cw,Ip a b,sD as bs];split<;>split<;>omega
theorem tH:∀{as bs cs:List Int},cw as bs<0→cw bs cs<0→cw as cs<0
 |a::as,b::bs,c::cs,h1,h2=>by
  simp only[cw]at h1 h2 ⊢;have p1:=sA a b;have p2:=sA b c;have p3:=sA a c;have q1:=AO a b;have q2:=AO b c;have q3:=AO a c;split at h1<;>split at h2<;>split
  ·exact tH h1 h2
  all_goals omega
 | [],_,_,h,_=>by simp[cw]at h
 |_::_,[],_,h,_=>by simp[cw]at h
 |_::_,_::_,[],_,h=>by simp[cw]at h
theorem Ai(as:List Int):¬cw as as<0:=by rw[(sB rfl).2 rfl];omega
end Go.L
end
