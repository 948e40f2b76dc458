/- The table's routes: which candidates they give. No conditions. -/
import Derived.Test.YtpgpmlaafigpaaaGreatDoorPKn2
namespace Go.L
open Go.AM
set_option maxRecDepth 100000
set_option linter.unusedVariables false
set_option linter.unusedSimpArgs false
section
variable {α σ:Type}
def pq(l:List α)(P:List α→σ→Prop)(a:Int×σ):Prop:=∃i:Nat,a.1=(i:Int)∧i≤l.length∧P (l.take i) a.2
theorem pq.start{l:List α}{P:List α→σ→Prop}{s:σ}(h:P [] s):pq l P ((0:Int),s):=⟨0,rfl,Nat.zero_le _,by simpa using h⟩
theorem pq.get{l:List α}{P:List α→σ→Prop}{a:Int×σ}(h:pq l P a)(hlt:decide (a.1<((l.length:Nat):Int))=true):
 ∃x pre,gi l a.1=some x∧x∈l∧P pre a.2∧(l.length<100000→∀s',P (pre++[x]) s'→pq l P (Go.IntKind.wrap .i64 (a.1+1),s')∧l.length - (Go.IntKind.wrap .i64 (a.1+1)).toNat<l.length - a.1.toNat):=by
 obtain⟨i,hi,hil,hp⟩:=h;simp only[decide_eq_true_eq]at hlt;have hi':i<l.length:=by omega
 have hx:l[i]? =some (l[i]):=List.getElem?_eq_getElem hi';refine⟨l[i],l.take i,by rw[hi,bQ,hx],List.getElem_mem hi',hp,fun hl s' hs=>?_⟩
 have ht:l.take (i+1)=l.take i++[l[i]]:=by rw[List.take_add_one,hx];rfl
 rw[hi,eu (by omega)]
 exact⟨⟨i+1,rfl,by omega,by rw[ht];exact hs⟩,by simp only[Int.toNat_natCast];omega⟩
theorem pq.fin{l:List α}{P:List α→σ→Prop}{a:Int×σ}(h:pq l P a)(hge:decide (a.1<((l.length:Nat):Int))=false):P l a.2:=by
 obtain⟨i,hi,hil,hp⟩:=h;simp only[decide_eq_false_iff_not]at hge;have:i=l.length:=by omega
 subst this;rwa[List.take_length]at hp
end
theorem TC(n:Nat)(l:List Int)(v:Int)(hn:l.length<n)(hs:l.length<100000):At (gZ.S n (l,v)) (fun(r:Int)=>0≤r↔v∈l):=by
 refine(?_ :gB n (fV l v) _);unfold fV;refine .skip (.op () rfl (.skip (.loop (fun a:Int=>pq l (fun pre (_:Unit)=>v∉pre) (a,())) (fun a=>l.length - a.toNat) (Sum.elim (fun(t:Int)=>0≤t∧v∈l) fun _=>v∉l) rfl (pq.start (by simp)) (by simpa using hn) (fun a ha=>?_) (fun t ht=>?_))))
 ·refine .skip (.br (fun h=>?_) fun h=>.skip (.done rfl (ha.fin h)))
  obtain⟨x,pre,h1,h2,h3,h4⟩:=ha.get h;refine .skip (.op x h1 (.skip (.br (fun he=>.skip (.done rfl ?_)) fun he=>.skip (.done rfl ?_))))
  ·obtain⟨i,hi,_⟩:=ha;refine⟨by show(0:Int)≤a;simp only at hi;omega,?_⟩
   rw[beq_iff_eq]at he;rw[he];exact h2
  ·refine h4 hs () ?_;rw[beq_eq_false_iff_ne]at he;simp only[List.mem_append,List.mem_singleton,not_or];exact⟨h3,he⟩
 ·cases t with
  |inl t=>exact .done rfl ⟨fun _=>ht.2,fun _=>ht.1⟩
  |inr t=>exact .skip (.done rfl ⟨fun h=>absurd h (by decide),fun h=>absurd h ht⟩)
theorem B9(n:Nat)(l:List Int)(v:Int)(hn:l.length<n)(hs:l.length<100000):At (cM.S n (l,v)) (fun(b:Bool)=>b=decide (v∈l)):=by
 refine(?_ :gB n (ey l v) _);unfold ey;refine .skip (.call _ (TC n l v hn hs) fun r hr=>.skip (.done rfl ?_))
 exact decide_eq_decide.2 hr
theorem Mh(a b:Int):mw a b=true↔a=b:=by unfold mw;simp
structure CM(tg:Int→Int)(pre:List Int)(m:List (Int×Int)):Prop where
 nd:(m.map (·.1)).Nodup
 sub:∀T b,(T,b)∈m→b∈pre∧tg b=T
 all:∀b,b∈pre→∃b',(tg b,b')∈m
theorem CM.nil{tg:Int→Int}:CM tg [] []:=⟨List.nodup_nil,fun _ _ h=>(by cases h),fun _ h=>(by cases h)⟩
theorem CM.add{tg:Int→Int}{pre:List Int}{m:List (Int×Int)}(h:CM tg pre m)(b:Int):CM tg (pre++[b]) (dx mw (tg b) b m):=by
 refine⟨(Mg Mh m (tg b) b h.nd).1,fun T c hc=>?_,fun c hc=>?_⟩
 ·rcases(CQ Mh m (tg b) b h.nd T c).1 hc with⟨rfl,rfl⟩ |⟨hne,hm⟩
  ·exact⟨by simp,rfl⟩
  ·exact⟨List.mem_append_left _ (h.sub T c hm).1,(h.sub T c hm).2⟩
 ·by_cases he:tg c=tg b
  ·exact⟨b,(CQ Mh m (tg b) b h.nd _ _).2 (.inl ⟨he,rfl⟩)⟩
  ·rcases List.mem_append.1 hc with hc |hc
   ·obtain⟨c',hc'⟩:=h.all c hc;exact⟨c',(CQ Mh m (tg b) b h.nd _ _).2 (.inr ⟨he,hc'⟩)⟩
   ·simp only[List.mem_singleton]at hc;subst hc;exact absurd rfl he
theorem CM.find{tg:Int→Int}{pre:List Int}{m:List (Int×Int)}(h:CM tg pre m){b:Int}(hb:b∈pre)(hu:∀c∈pre,tg c=tg b→c=b):∃i,bp mw (tg b) m 0=some (i,b):=by
 obtain⟨b',hb'⟩:=h.all b hb;cases hf:bp mw (tg b) m 0 with
 |none=>exact absurd rfl (CP Mh m 0 hf _ hb')
 |some x=>
  obtain⟨i,v⟩:=x;obtain⟨_,h2⟩:=zN Mh m 0 i v hf;obtain⟨h3,h4⟩:=h.sub _ _ (List.mem_of_getElem? h2);have:=hu v h3 h4;subst this;exact⟨i,rfl⟩
theorem CM.none{tg:Int→Int}{pre:List Int}{m:List (Int×Int)}(h:CM tg pre m){T:Int}(hu:∀c∈pre,tg c≠T):bp mw T m 0=none:=by
 cases hf:bp mw T m 0 with
 |none=>rfl
 |some x=>
  obtain⟨i,v⟩:=x;obtain⟨_,h2⟩:=zN Mh m 0 i v hf;obtain⟨h3,h4⟩:=h.sub _ _ (List.mem_of_getElem? h2);exact absurd h4 (hu v h3)
def yX(f:bH)(b:Int):Int:=((gi f.bB b).map (·.Target)).getD 0
def sX(leaf:Int)(s:aO):List Int:=if decide (leaf∈s.Leaves)then s.bB else[]
def zB(r:aq)(sq:Int):ak:=
 Go.L.ak.mk r.N.dM false (0:Int) sq (!((r.N.aH.a0==(0:Int))&&((r.N.aH.a1==(0:Int))&&((r.N.aH.a2==(0:Int))&&((r.N.aH.a3==(0:Int))&&((r.N.aH.a4==(0:Int))&&((r.N.aH.a5==(0:Int))&&((r.N.aH.a6==(0:Int))&&((r.N.aH.a7==(0:Int))&&((r.N.aH.a8==(0:Int))&&((r.N.aH.a9==(0:Int))&&true))))))))))) r.A.Next
def oN(mm:List (Int×Int))(r:aq)(sq T:Int):List (au×ak):=
 match bp mw T mm 0 with
 |none=>[]
 |some x=>[(⟨x.2,r.N.IP⟩,zB r sq)]
def nY(mm:List (Int×Int))(lo:Int)(sq:aq→Int)(tg:aq→List Int)(r:aq):List (au×ak):=
 if r.N.Kind != (2:Int)then[]else if !r.N.fM then[]else if r.A.Next==lo then[]else(tg r).flatMap (oN mm r (sq r))
structure P4(n:Nat)(f:bH):Prop where
 l:f.aF.length<100000
 nn:f.aF.length<n
 s:∀s∈f.aF,s.Leaves.length<n∧s.Leaves.length<100000∧s.bB.length<n∧s.bB.length<100000∧∀b∈s.bB,0≤b∧b<f.bB.length
theorem R2(n:Nat)(m0 cs0:List (au×ak))(h0:TM cs0 m0)(f:bH)(leaf lo:Int)(rs:List aq)(sq:aq→Int)(tg:aq→List Int)
 (hlo:At (pM.S n (f,leaf)) (fun r=>r=lo)) (hf:P4 n f) (hrl:rs.length<100000) (hrn:rs.length<n)
 (hr:∀r∈rs,At (gj.S n r.A.aY) (fun q=>q.2.1=sq r)∧At (eR.S n r.A.aY) (fun q=>q=tg r)∧(tg r).length<n∧(tg r).length<100000):
 At (wI.c.S n (m0,f,leaf,rs)) (fun m=>∃mm,CM (yX f) (f.aF.flatMap (sX leaf)) mm∧TM (cs0++rs.flatMap (nY mm lo sq tg)) m):=by
 refine(?_ :gB n (qM m0 f leaf rs) _);unfold qM;refine .skip (.call _ hlo fun r5 h5=>?_)
 subst h5;refine .skip (.op () rfl (.skip (.loop (pq f.aF fun pre m=>CM (yX f) (pre.flatMap (sX leaf)) m) (fun a=>f.aF.length - a.1.toNat) (CM (yX f) (f.aF.flatMap (sX leaf))) rfl (pq.start CM.nil) (by simpa using hf.nn) (fun a ha=>?_) (fun mm hmm=>?_))))
 ·refine .skip (.br (fun h=>?_) fun h=>.skip (.done rfl (ha.fin h)))
  obtain⟨s,pre,h1,h2,h3,h4⟩:=ha.get h;obtain⟨q1,q2,q3,q4,q5⟩:=hf.s s h2;refine .skip (.op s h1 (.skip (.call _ (B9 n s.Leaves leaf q1 q2) fun b hb=>?_)))
  have e:∀X,(pre++[s]).flatMap (sX leaf)=pre.flatMap (sX leaf)++X↔sX leaf s=X:=fun X=>by simp
  refine .br (fun hb1=>.skip (.op () rfl (.skip (.loop (pq s.bB fun pre' m=>CM (yX f) (pre.flatMap (sX leaf)++pre') m) (fun a=>s.bB.length - a.1.toNat) (fun t=>CM (yX f) (pre.flatMap (sX leaf)++s.bB) t) rfl (pq.start (by rw[List.append_nil];exact h3)) (by simpa using q3) (fun c hc=>?_) (fun t ht=>.skip (.done rfl (h4 hf.l _ ?_))))))) fun hb1=>.skip (.done rfl (h4 hf.l _ ?_))
  ·refine .skip (.br (fun h'=>?_) fun h'=>.skip (.done rfl (hc.fin h')))
   obtain⟨x,pre',k1,k2,k3,k4⟩:=hc.get h';obtain⟨w1,w2⟩:=q5 x k2;have hat:gi f.bB x=some (f.bB[x.toNat]'(by omega)):=by
    have h':x.toNat<f.bB.length:=by omega
    have:=bQ f.bB x.toNat;rw[show((x.toNat:Nat):Int)=x by omega]at this
    rw[this];exact List.getElem?_eq_getElem h'
   have ht:(f.bB[x.toNat]'(by omega)).Target=yX f x:=by unfold yX;rw[hat];rfl
   refine .skip (.op x k1 (.skip (.op _ hat (.skip (.op () rfl (.skip (.done rfl (k4 q4 _ ?_))))))));rw[ht,← List.append_assoc];exact k3.add x
  ·rw[(e s.bB).2 (by unfold sX;rw[if_pos (by rw[← hb];exact hb1)])];exact ht
  ·rw[(e []).2 (by unfold sX;rw[if_neg (by rw[← hb,hb1];decide)]),List.append_nil];exact h3
 ·refine .skip (.op () rfl (.skip (.loop (pq rs fun pre m=>TM (cs0++pre.flatMap (nY mm r5 sq tg)) m) (fun a=>rs.length - a.1.toNat) (TM (cs0++rs.flatMap (nY mm r5 sq tg))) rfl (pq.start (by simpa using h0)) (by simpa using hrn) (fun a ha=>?_) (fun m hm=>.tidy rfl (.inl (.done rfl ⟨mm,hmm,hm⟩))))))
  refine .skip (.br (fun h=>?_) fun h=>.skip (.done rfl (ha.fin h)))
  obtain⟨r,pre,h1,h2,h3,h4⟩:=ha.get h;have e:∀X,cs0++(pre++[r]).flatMap (nY mm r5 sq tg)=(cs0++pre.flatMap (nY mm r5 sq tg))++X↔nY mm r5 sq tg r=X:=fun X=>by simp
  have h4e:∀s',nY mm r5 sq tg r=[]→s'=a.2→_:=fun s' he hs=>h4 hrl s' (by rw[(e []).2 he,List.append_nil,hs];exact h3)
  refine .skip (.op r h1 (.skip (.br (fun hk=>.skip (.done rfl (h4e _ ?_ rfl))) fun hk=>.skip (.br (fun hi=>.skip (.done rfl (h4e _ ?_ rfl))) fun hi=>.skip (.br (fun hx=>.skip (.done rfl (h4e _ ?_ rfl))) fun hx=>?_)))))
  ·unfold nY;rw[if_pos hk]
  ·unfold nY;rw[if_neg (by rw[hk];decide),if_pos hi]
  ·unfold nY;rw[if_neg (by rw[hk];decide),if_neg (by rw[hi];decide),if_pos hx]
  ·have hc:nY mm r5 sq tg r=(tg r).flatMap (oN mm r (sq r)):=by unfold nY;rw[if_neg (by rw[hk];decide),if_neg (by rw[hi];decide),if_neg (by rw[hx];decide)]
   obtain⟨j1,j2,j3,j4⟩:=hr r h2;refine .skip (.call _ j1 fun r97 h97=>.skip (.call _ j2 fun r98 h98=>?_))
   subst h98;refine .op () rfl (.skip (.loop (pq (tg r) fun pre' m=>TM ((cs0++pre.flatMap (nY mm r5 sq tg))++pre'.flatMap (oN mm r (sq r))) m) (fun a=>(tg r).length - a.1.toNat) (TM ((cs0++pre.flatMap (nY mm r5 sq tg))++(tg r).flatMap (oN mm r (sq r)))) rfl (pq.start (by simpa using h3)) (by simpa using j3) (fun c hc=>?_) (fun t ht=>.skip (.done rfl (h4 hrl _ (by rw[(e _).2 hc];exact ht))))))
   refine .skip (.br (fun h'=>?_) fun h'=>.skip (.done rfl (hc.fin h')))
   obtain⟨x,pre',k1,k2,k3,k4⟩:=hc.get h';refine .skip (.op x k1 (.skip (.op () rfl (.skip (.br (fun hs=>.skip (.inl (.fK (fun t=>t=Dw c.2 ⟨(Option.getD (Option.map (fun x=>x.2) (Go.AM.bp mw x mm (0:Nat))) (0:Int)),r.N.IP⟩ (zB r (sq r))) ⟨_,?_,rfl⟩ fun t ht=>.skip (.done rfl (k4 j4 _ ?_))))) fun hs=>.skip (.done rfl (k4 j4 _ ?_)))))))
   ·rw[show zB r (sq r)=zB r r97.2.1 by rw[h97]]
    exact Uh n c.2 _ _ _
   ·rw[ht];cases hfm:bp mw x mm 0 with
    |none=>rw[hfm]at hs;cases hs
    |some y=>
     have:(pre'++[x]).flatMap (oN mm r (sq r))=pre'.flatMap (oN mm r (sq r))++[(⟨y.2,r.N.IP⟩,zB r (sq r))]:=by
      rw[List.flatMap_append];simp only[List.flatMap_cons,List.flatMap_nil,List.append_nil,oN,hfm]
     rw[this,← List.append_assoc];exact k3.add _ _
   ·cases hfm:bp mw x mm 0 with
    |some y=>rw[hfm]at hs;cases hs
    |none=>
     have:(pre'++[x]).flatMap (oN mm r (sq r))=pre'.flatMap (oN mm r (sq r)):=by
      rw[List.flatMap_append];simp only[List.flatMap_cons,List.flatMap_nil,List.append_nil,oN,hfm]
     rw[this];exact k3
end Go.L
