/- Parts put together. No conditions. -/
import Derived.Test.YtdbkafoghoenoaaGreatDoorAd
set_option linter.unusedSimpArgs false
set_option linter.unusedVariables false
set_option maxRecDepth 100000
section
namespace Go.AM
def At{α:Type}(o:Option α)(p:α→Prop):Prop:=∃r,o=some r∧p r
theorem At.of{α:Type}{p:α→Prop}{o:Option α}{r:α}(e:o=some r)(h:p r):At o p:=⟨r,e,h⟩
theorem At.mono{α:Type}{o:Option α}{p q:α→Prop}(h:At o p)(hp:∀r,p r→q r):At o q:=by
 obtain⟨r,h1,h2⟩:=h;exact⟨r,h1,hp r h2⟩
theorem At.bind{α β:Type}{o:Option α}{g:α→Option β}{p:α→Prop}{q:β→Prop}(h:At o p)(hg:∀a,p a→At (g a) q):At (o.bind g) q:=by
 obtain⟨a,h1,h2⟩:=h;obtain⟨b,h3,h4⟩:=hg a h2;exact⟨b,by rw[h1];exact h3,h4⟩
theorem At.ite{α:Type}{c:Prop}[Decidable c]{f g:Option α}{p:α→Prop}(hf:c→At f p)(hg:¬c→At g p):At (if c then f else g) p:=by
 by_cases hc:c
 ·rw[if_pos hc];exact hf hc
 ·rw[if_neg hc];exact hg hc
theorem At.eq{α:Type}{o:Option α}{r:α}(h:∀{β:Type} (k:α→Option β),o.bind k=k r):At o fun x=>x=r:=by
 have:=h (fun x=>some x)
 cases o with
 |none=>cases this
 |some y=>exact⟨y,rfl,Option.some.inj this⟩
def RoundAt{σ τ:Type}(I:σ→Prop)(m:σ→Nat)(p:τ→Prop)(a:σ):σ⊕τ→Prop
 | .inl b=>I b∧m b<m a
 | .inr t=>p t
theorem At.iter{σ τ:Type}{body:σ→Option (σ⊕τ)}(I:σ→Prop)(m:σ→Nat)(p:τ→Prop)(h:∀a,I a→At (body a) (RoundAt I m p a)):
 ∀(M:Nat) (a:σ),I a→m a<M→At (iterO body M a) p
 | 0,a,_,hm=>absurd hm (Nat.not_lt_zero _)
 |M+1,a,hI,hm=>by
  obtain⟨r,h1,h2⟩:=h a hI;cases r with
  |inl b=>
   obtain⟨t,h3,h4⟩:=At.iter I m p h M b h2.1 (by have:=h2.2;omega)
   exact⟨t,by simp only[iterO,h1];exact h3,h4⟩
  |inr t=>exact⟨t,by simp only[iterO,h1],h2⟩
section
variable {P:Program} [Globs] {ρ:Type} {n:Nat} {p:ρ→Prop}
def AtG(n:Nat)(g:G P ρ)(p:ρ→Prop):Prop:=At (g.run n) p
theorem AtG.skip{m:Nat}{g:G P ρ}(h:AtG n g p):AtG n (.skip m g) p:=h
theorem AtG.br{d:Tmp}{c:Bool}{t f:G P ρ}(ht:c=true→AtG n t p)(hf:c=false→AtG n f p):AtG n (.br d c t f) p:=
 At.ite (f:=t.run n) (g:=f.run n) ht (fun h=>hf (by simpa using h))
theorem AtG.sp{c:Bool}{t f:G P ρ}(ht:c=true→AtG n t p)(hf:c=false→AtG n f p):AtG n (.sp c t f) p:=
 At.ite (f:=t.run n) (g:=f.run n) ht (fun h=>hf (by simpa using h))
theorem AtG.call{c:Ctr P}{x:c.X}{k:c.sh.El→G P ρ}(q:c.sh.El→Prop)(h:At (c.S n x) q)(hk:∀r,q r→AtG n (k r) p):AtG n (.call c x k) p:=
 At.bind (g:=fun r=>(k r).run n) h hk
theorem AtG.callR{c:CtrR P}{x:c.X}{k:c.sh.El→G P ρ}(q:c.sh.El→Prop)(h:At (c.S n x) q)(hk:∀r,q r→AtG n (k r) p):AtG n (.callR c x k) p:=
 At.bind (g:=fun r=>(k r).run n) h hk
theorem AtG.call1{c:Ctr1 P}{b v:Nat}{ex:List PR}{x:c.X}{k:c.sh.El→G P ρ}(q:c.sh.El→Prop)(h:At (c.S n x) q)(hk:∀r,q r→AtG n (k r) p):AtG n (.call1 c b v ex x k) p:=
 At.bind (g:=fun r=>(k r).run n) h hk
theorem AtG.op{X:Type}{t:OpT X}{k:X→G P ρ}(x:X)(h:t.run=some x)(hk:AtG n (k x) p):AtG n (.op t k) p:=
 At.bind (o:=t.run) (g:=fun x=>(k x).run n) (p:=fun y=>y=x) ⟨x,h,rfl⟩ (fun a ha=>by subst ha;exact hk)
theorem AtG.done{ts:List TS}{r:ρ}(ht:tsOk ts=true)(h:p r):AtG (P:=P) n (.done ts r) p:=
 ⟨r,by show(if tsOk ts=true then some r else none)=_;rw[if_pos ht],h⟩
theorem AtG.tidy{ts:List TS}{g:G P ρ}(ht:tsOk ts=true)(h:AtG n g p):AtG n (.tidy ts g) p:=by
 obtain⟨r,h1,h2⟩:=h;exact⟨r,by show(if tsOk ts=true then g.run n else none)=_;rw[if_pos ht];exact h1,h2⟩
theorem AtG.inl{pr:List PR}{g:G P ρ}(h:AtG n g p):AtG n (.inl pr g) p:=h
theorem AtG.unroll{m:Nat}{g:G P ρ}(h:AtG n g p):AtG n (.unroll m g) p:=h
theorem AtG.join{sh:Sh}{Y:sh.El→AOut×St}{g:G P sh.El}{k:sh.El→G P ρ}(q:sh.El→Prop)(h:AtG n g q)(hk:∀t,q t→AtG n (k t) p):AtG n (.join sh Y g k) p:=
 At.bind (o:=g.run n) (g:=fun t=>(k t).run n) h hk
theorem AtG.loop{σ:Type}{sh:Sh}{hd:List TS}{E:σ→St}{X:sh.El→AOut×St}{a0:σ}{body:σ→G P (σ⊕sh.El)}{k:sh.El→G P ρ}(I:σ→Prop)(m:σ→Nat)(q:sh.El→Prop)
 (ht:tsOk hd=true) (hI:I a0) (hm:m a0<n) (hb:∀a,I a→AtG n (body a) (RoundAt I m q a)) (hk:∀t,q t→AtG n (k t) p):AtG n (.loop sh hd E X a0 body k) p:=by
 obtain⟨r,h2,h3⟩:=At.bind (o:=iterO (fun a=>(body a).run n) n a0) (g:=fun t=>(k t).run n) (At.iter (body:=fun a=>(body a).run n) I m q hb n a0 hI hm) hk
 exact⟨r,by show(if tsOk hd=true then(iterO (fun a=>(body a).run n) n a0).bind fun t=>(k t).run n else none)=_;rw[if_pos ht];exact h2,h3⟩
end
end Go.AM
end
section
namespace Go.L
open Go.AM
section
variable {α σ:Type}
def IdxI(l:List α)(P:List α→σ→Prop)(a:Int×σ):Prop:=∃i:Nat,a.1=(i:Int)∧i≤l.length∧P (l.take i) a.2
theorem IdxI.start{l:List α}{P:List α→σ→Prop}{s:σ}(h:P [] s):IdxI l P ((0:Int),s):=⟨0,rfl,Nat.zero_le _,by simpa using h⟩
theorem IdxI.get{l:List α}{P:List α→σ→Prop}{a:Int×σ}(h:IdxI l P a)(hlt:decide (a.1<((l.length:Nat):Int))=true):
 ∃x pre,at? l a.1=some x∧x∈l∧P pre a.2∧(a.1=((pre.length:Nat):Int)∧∃post,l=pre++x::post)∧(l.length<100000→∀s',P (pre++[x]) s'→IdxI l P (IntKind.wrap .i64 (a.1+1),s')∧l.length - (IntKind.wrap .i64 (a.1+1)).toNat<l.length - a.1.toNat):=by
 obtain⟨i,hi,hil,hp⟩:=h;simp only[decide_eq_true_eq]at hlt;have hi':i<l.length:=by omega
 have hx:l[i]? =some (l[i]):=List.getElem?_eq_getElem hi';refine⟨l[i],l.take i,by rw[hi,at?_nat,hx],List.getElem_mem hi',hp,⟨by rw[hi,List.length_take,Nat.min_eq_left hil],l.drop (i+1),by rw[List.getElem_cons_drop,List.take_append_drop]⟩,fun hl s' hs=>?_⟩
 have ht:l.take (i+1)=l.take i++[l[i]]:=by rw[List.take_add_one,hx];rfl
 rw[hi,wrap_nat (by omega)]
 exact⟨⟨i+1,rfl,by omega,by rw[ht];exact hs⟩,by simp only[Int.toNat_natCast];omega⟩
theorem IdxI.fin{l:List α}{P:List α→σ→Prop}{a:Int×σ}(h:IdxI l P a)(hge:decide (a.1<((l.length:Nat):Int))=false):P l a.2:=by
 obtain⟨i,hi,hil,hp⟩:=h;simp only[decide_eq_false_iff_not]at hge;have:i=l.length:=by omega
 subst this;rwa[List.take_length]at hp
end
def cmpI(a b:Int):Int:=if a<b then -1 else if a>b then 1 else 0
theorem cmpI_neg(a b:Int):cmpI a b<0↔a<b:=by
 unfold cmpI;split
 ·omega
 ·split<;>omega
theorem cmpI_zero(a b:Int):cmpI a b=0↔a=b:=by
 unfold cmpI;split
 ·omega
 ·split<;>omega
theorem cmpI_swap(a b:Int):cmpI b a= - cmpI a b:=by unfold cmpI;split<;>split<;>(try split)<;>omega
def lexOr:List Int→Int
 | []=>0
 |x::xs=>if x=0 then lexOr xs else x
def tint(b:Bool):Int:=if b then 1 else 0
theorem tint_inj{a b:Bool}:tint a=tint b↔a=b:=by cases a<;>cases b<;>decide
def lexC:List Int→List Int→Int
 |a::as,b::bs=>if cmpI a b=0 then lexC as bs else cmpI a b
 |_,_=>0
theorem lexC_zero:∀{as bs:List Int},as.length=bs.length→(lexC as bs=0↔as=bs)
 | [],[],_=>by simp[lexC]
 |a::as,b::bs,h=>by
  simp only[List.length_cons,Nat.add_right_cancel_iff]at h;have ih:=lexC_zero h;simp only[lexC,List.cons.injEq];split
  ·rename_i h0;rw[ih,(cmpI_zero a b).1 h0];simp
  ·rename_i h0;exact⟨fun e=>absurd e h0,fun e=>absurd ((cmpI_zero a b).2 e.1) h0⟩
theorem lexC_swap:∀(as bs:List Int),lexC bs as= - lexC as bs
 | [],[]=>rfl
 | [],_::_=>rfl
 |_::_,[]=>rfl
 |a::as,b::bs=>by
  simp only[lexC,cmpI_swap a b,lexC_swap as bs];split<;>split<;>omega
theorem lexC_trans:∀{as bs cs:List Int},lexC as bs<0→lexC bs cs<0→lexC as cs<0
 |a::as,b::bs,c::cs,h1,h2=>by
  simp only[lexC]at h1 h2 ⊢;have p1:=cmpI_zero a b;have p2:=cmpI_zero b c;have p3:=cmpI_zero a c;have q1:=cmpI_neg a b;have q2:=cmpI_neg b c;have q3:=cmpI_neg a c;split at h1<;>split at h2<;>split
  ·exact lexC_trans h1 h2
  all_goals omega
 | [],_,_,h,_=>by simp[lexC]at h
 |_::_,[],_,h,_=>by simp[lexC]at h
 |_::_,_::_,[],_,h=>by simp[lexC]at h
end Go.L
end
section
namespace Go.L
open Go.AM
section
variable {K V:Type} {eq:K→K→Bool}
theorem fM_shift(m:List (K×V))(k:K):∀(j:Nat),findM eq k m j=(findM eq k m 0).map fun x=>(x.1+j,x.2):=by
 induction m with
 |nil=>intro j;rfl
 |cons p ps ih=>
  intro j;simp only[findM];split
  ·simp
  ·rw[ih (j+1),ih (0+1)];cases findM eq k ps 0 with
   |none=>rfl
   |some x=>grind
def getM(eq:K→K→Bool)(k:K)(m:List (K×V)):Option V:=(findM eq k m 0).map (·.2)
theorem getM_cons(p:K×V)(m:List (K×V))(k:K):getM eq k (p::m)=if eq k p.1=true then some p.2 else getM eq k m:=by
 unfold getM;simp only[findM];split
 ·rfl
 ·rw[fM_shift m k (0+1)];cases findM eq k m 0<;>rfl
theorem getM_put(heq:∀a b,eq a b=true↔a=b)(m:List (K×V))(k:K)(v:V)(q:K)[Decidable (q=k)]:getM eq q (putM eq k v m)=if q=k then some v else getM eq q m:=by
 induction m with
 |nil=>
  show getM eq q [(k,v)]=_;rw[getM_cons];grind
 |cons p m ih=>
  by_cases hp:eq k p.1=true
  ·have e:putM eq k v (p::m)=(k,v)::m:=by unfold putM;simp only[findM,if_pos hp];rfl
   rw[e,getM_cons,getM_cons];grind
  ·have e:putM eq k v (p::m)=p::putM eq k v m:=by
    unfold putM;simp only[findM,if_neg hp];rw[fM_shift m k (0+1)];cases findM eq k m 0 with
    |none=>rfl
    |some x=>rfl
   rw[e,getM_cons,getM_cons,ih];grind
end
end Go.L
end
