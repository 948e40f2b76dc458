/- What the reference of communities computes. No conditions. -/
import Derived.Test.YtpgpmlaafigpaaaGreatDoorWRs2
import Derived.Test.YtpgpmlaafigpaaaGreatDoorPSs
namespace Go.L
open Go.AM Go.Sort
set_option maxRecDepth 100000
set_option linter.unusedSimpArgs false
set_option linter.unusedVariables false
section
variable {X β:Type}
theorem Bs(m n b ai o:Nat)(i:Int)(k:Unit→Option β):(Dg m n b ai o i).run.bind k=if i=0 then k ()else none:=by
 show(if i=0 then some ()else none).bind k=_
 split<;>rfl
theorem Bt(m n b ai o:Nat)(i:Int)(k:Unit→Option β):(Dh m n b ai o i).run.bind k=if i=m∧0<m then k ()else none:=by
 show(if i=m∧0<m then some ()else none).bind k=_
 split<;>rfl
theorem JQ(len:Nat)(l m:List X)(e:X→List AVal)(n by_ b ai nid:Nat)(ids:List Nat)(k:Unit→Option β):(Ac len l m e n by_ b ai nid ids).run.bind k=if len≤l.length∧roomy (len+m.length) by_=true then k ()else none:=by
 show(if len≤l.length∧roomy (len+m.length) by_=true then some ()else none).bind k=_
 split<;>rfl
theorem JR(len:Nat)(l l2:List X)(b2 ver2 o2 n2:Nat)(e:X→List AVal)(n by_ b ai nid:Nat)(k:Unit→Option β):(rC len l l2 b2 ver2 o2 n2 e n by_ b ai nid).run.bind k=if(len=l.length∧o2+n2≤l2.length)∧roomy (l.length+n2) by_=true then k ()else none:=by
 show(if(len=l.length∧o2+n2≤l2.length)∧roomy (l.length+n2) by_=true then some ()else none).bind k=_
 split<;>rfl
theorem JS(len:Nat)(l l2:List X)(b2 ver2 o2 n2:Nat)(e:X→List AVal)(n by_ b ai nid:Nat)(k:Unit→Option β):(De len l l2 b2 ver2 o2 n2 e n by_ b ai nid).run.bind k=if(len≤l.length∧o2+n2≤l2.length)∧roomy (len+n2) by_=true then k ()else none:=by
 show(if(len≤l.length∧o2+n2≤l2.length)∧roomy (len+n2) by_=true then some ()else none).bind k=_
 split<;>rfl
end
theorem zz{α:Type}(lt:α→α→Prop)(tr:∀a b c,lt a b→lt b c→lt a c){out:List α}{x:α}{k:Nat}(hk:k≤out.length)(hp:out.Pairwise lt)(hlo:∀j (h:j<out.length),j<k→lt out[j] x)(hhi:∀h:k<out.length,lt x out[k]):
 (out.take k++x::out.drop k).Pairwise lt:=by
 have hi:∀y∈out.drop k,lt x y:=fun y hy=>by
  obtain⟨i,h1,rfl⟩:=List.getElem_of_mem hy;simp only[List.length_drop]at h1;rw[List.getElem_drop];by_cases h0:i=0
  ·subst h0;exact hhi (by omega)
  ·exact tr _ _ _ (hhi (by omega)) (List.pairwise_iff_getElem.1 hp k (k+i) (by omega) (by omega) (by omega))
 rw[List.pairwise_append];refine⟨hp.sublist (List.take_sublist _ _),List.pairwise_cons.2 ⟨hi,hp.sublist (List.drop_sublist _ _)⟩,fun a ha b hb=>?_⟩
 obtain⟨j,h1,rfl⟩:=List.getElem_of_mem ha;simp only[List.length_take]at h1;rw[List.getElem_take];have hax:=hlo j (by omega) (by omega)
 rcases List.mem_cons.1 hb with rfl |hb
 ·exact hax
 ·exact tr _ _ _ hax (hi b hb)
theorem I7{α:Type}{out:List α}{x y:α}(k:Nat):y∈out.take k++x::out.drop k↔y=x∨y∈out:=by
 rw[List.mem_append,List.mem_cons]
 conv=>rhs;rw[← List.take_append_drop k out,List.mem_append]
 constructor
 ·rintro(h |h |h);exact .inr (.inl h);exact .inl h;exact .inr (.inr h)
 ·rintro(h |h |h);exact .inr (.inl h);exact .inl h;exact .inr (.inr h)
def cmpL:List Int→List Int→Int
 |a::ar,b::br=>if a<b then -1 else if a>b then 1 else cmpL ar br
 |_,_=>0
def RA(x:Int):Prop:=0≤x∧x<256
theorem N9{a b:Int}(ha:RA a)(hb:RA b):UInt8.ofNat a.toNat<UInt8.ofNat b.toNat↔a<b:=by
 rw[UInt8.lt_iff_toNat_lt];simp only[UInt8.toNat_ofNat'];obtain⟨h1,h2⟩:=ha;obtain⟨h3,h4⟩:=hb;omega
theorem L0:∀(a b:List Int),a.length=b.length→(∀x∈a,RA x)→(∀x∈b,RA x)→(cmpL a b<0↔Lib.bytesOf a<Lib.bytesOf b)
 | [],[],_,_,_=>by simp[cmpL,Lib.bytesOf]
 |a::ar,b::br,hl,ha,hb=>by
  simp only[Lib.bytesOf,List.map_cons,List.cons_lt_cons_iff];have h1:=N9 (ha a (by simp)) (hb b (by simp))
  have h2:=N9 (hb b (by simp)) (ha a (by simp))
  have ih:=L0 ar br (by simpa using hl) (fun x hx=>ha x (by simp[hx])) fun x hx=>hb x (by simp[hx])
  simp only[Lib.bytesOf]at ih;rw[cmpL];by_cases h:a<b
  ·rw[if_pos h];simp[h1.2 h]
  ·rw[if_neg h];by_cases h':a>b
   ·rw[if_pos h'];have n1:¬UInt8.ofNat a.toNat<UInt8.ofNat b.toNat:=fun q=>h (h1.1 q)
    have n2:UInt8.ofNat a.toNat≠UInt8.ofNat b.toNat:=fun q=>by have:=h2.2 h';rw[q]at this;exact absurd this (UInt8.lt_irrefl _)
    simp[n1,n2]
   ·rw[if_neg h'];have he:a=b:=by omega
    subst he;simp[ih]
theorem Oa{x:V8 Int}(h:Au x):∀y∈[x.a0,x.a1,x.a2,x.a3,x.a4,x.a5,x.a6,x.a7],RA y:=by
 obtain⟨h0,h1,h2,h3,h4,h5,h6,h7⟩:=h;intro y hy;simp only[List.mem_cons,List.not_mem_nil,or_false]at hy;rcases hy with rfl |rfl |rfl |rfl |rfl |rfl |rfl |rfl<;>assumption
theorem Nh(n:Nat)(a b:V8 Int):rJ.S n (a,b)=some (cmpL [a.a0,a.a1,a.a2,a.a3,a.a4,a.a5,a.a6,a.a7] [b.a0,b.a1,b.a2,b.a3,b.a4,b.a5,b.a6,b.a7]):=by
 show(we a b).run n=_;simp only[we,G.run,aI,if_true,cmpL,decide_eq_true_eq];have e:∀(c:Prop) [Decidable c] (x y:Int),(some (if c then x else y):Option Int)=if c then some x else some y:=fun c _ x y=>by split<;>rfl
 simp only[e];rfl
theorem JT{n:Nat}(a b:V8 Int){β:Type}(k:rJ.sh.El→Option β):(rJ.S n (a,b)).bind k=k (cmpL [a.a0,a.a1,a.a2,a.a3,a.a4,a.a5,a.a6,a.a7] [b.a0,b.a1,b.a2,b.a3,b.a4,b.a5,b.a6,b.a7]):=by rw[Nh];rfl
theorem RB:jh []=[]:=List.eq_nil_of_length_eq_zero (Nat.le_zero.1 (EP []))
theorem RF{σ τ:Type}{x:Option (σ⊕τ)}{B:σ→Prop}(h:∃r,x=some r∧∃s',r=Sum.inl s'∧B s'):∃s',x=some (.inl s')∧B s':=by
 obtain⟨r,h1,t,rfl,h2⟩:=h;exact⟨t,h1,h2⟩
theorem Ob{σ τ:Type}{X o:Option (σ⊕τ)}{B:σ→Prop}(h:X=o)(h2:∃s',o=some (.inl s')∧B s'):∃s',X=some (.inl s')∧B s':=h▸h2
theorem UI{σ τ:Type}{X o:Option (σ⊕τ)}{B:τ→Prop}(h:X=o)(h2:∃s',o=some (.inr s')∧B s'):∃s',X=some (.inr s')∧B s':=h▸h2
theorem Ni(M:Nat)(l:List (V8 Int))(hl:l.length<100000)(hM:l.length+3<M)(hok:∀x∈l,Au x):qf.S M l=some (jh l):=by
 show(Aq l).run M=_;simp only[Aq,G.run,aI,if_true,bD,cn,cQ,iq,ym,yl,Bs,Bt,JQ,JR,JS,LW,Bj,Bk];refine qd (I:=fun s=>∃i:Nat,s=((i:Int),jh (l.take i))∧i≤l.length) (m:=fun s=>l.length - s.1.toNat) (Q:=fun(t:List (V8 Int))=>t=jh l) ⟨0,by rw[List.take_zero,RB];rfl,Nat.zero_le _⟩ (by simp;omega) (fun s hs=>?_) (fun t ht=>?_)
 ·obtain⟨i,rfl,hi⟩:=hs;by_cases he:i=l.length
  ·left;subst he;rw[if_neg (by simp)]
   exact⟨_,rfl,by rw[List.take_length]⟩
  ·right;have hil:i<l.length:=by omega
   have e1:gi l (i:Int)=some l[i]:=by rw[bQ];exact List.getElem?_eq_getElem hil
   have okT:∀x∈l.take i,Au x:=fun x hx=>hok x (List.mem_of_mem_take hx)
   have okx:Au l[i]:=hok _ (List.getElem_mem hil);have hst:=EO _ okT;have hmem:=JP (l.take i);have hlen:=EP (l.take i);have hnew:∀out',out'.Pairwise (fun a b=>iu a<iu b)→(∀y,y∈out'↔y=l[i]∨y∈jh (l.take i))→out'=jh (l.take (i+1)):=fun out' h1 h2=>by
    refine Rz _ (fun x hx=>hok x (List.mem_of_mem_take hx)) h1 fun y=>?_
    rw[h2,hmem,List.take_add_one,List.mem_append,List.getElem?_eq_getElem hil];simp[or_comm]
   have okO:∀x∈jh (l.take i),Au x:=fun x hx=>okT x ((hmem x).1 hx)
   simp only[List.length_take]at hlen;generalize jh (l.take i)=out at*;rw[if_pos (by simp;omega),e1]
   simp only[Option.bind_some];refine RF (Dp (I:=fun s=>∃j:Nat,s=(j:Int)∧j≤out.length∧∀q (h:q<out.length),q<j→iu out[q]<iu l[i]) (m:=fun s=>out.length - s.toNat) (Q:=fun(t:Int)=>∃k:Nat,t=(k:Int)∧k≤out.length∧(∀q (h:q<out.length),q<k→iu out[q]<iu l[i])∧∀h:k<out.length,¬iu out[k]<iu l[i])
    ⟨0,rfl,Nat.zero_le _,fun q _ h=>absurd h (Nat.not_lt_zero _)⟩ (by show out.length - (0:Int).toNat<M;omega) (fun s hs=>?_) (fun t ht=>?_))
   ·obtain⟨j,rfl,hj,hlo⟩:=hs;by_cases hjl:j<out.length
    ·have c1:=L0 [out[j].a0,out[j].a1,out[j].a2,out[j].a3,out[j].a4,out[j].a5,out[j].a6,out[j].a7] [l[i].a0,l[i].a1,l[i].a2,l[i].a3,l[i].a4,l[i].a5,l[i].a6,l[i].a7] rfl (Oa (okO _ (List.getElem_mem hjl))) (Oa okx);rw[if_pos (by simp;omega),if_pos (by omega),Int.toNat_natCast,List.getElem?_eq_getElem hjl]
     simp only[Option.bind_some];by_cases hc:iu out[j]<iu l[i]
     ·right;refine Ob (JT _ _ _) ?_;rw[if_pos (by simpa using c1.2 hc),bG (x:=(j:Int)+1) (n:=j+1) (by omega) (by omega)]
      refine⟨_,rfl,⟨j+1,rfl,by omega,fun q h hq=>?_⟩,by simp only[Int.toNat_natCast];omega⟩
      by_cases e:q=j
      ·subst e;exact hc
      ·exact hlo q h (by omega)
     ·left;refine UI (JT _ _ _) ?_;rw[if_neg (by simpa using mt c1.1 hc)]
      exact⟨_,rfl,j,rfl,hj,hlo,fun _=>hc⟩
    ·left;rw[if_neg (by simp;omega)]
     exact⟨_,rfl,j,rfl,hj,hlo,fun h=>absurd h hjl⟩
   ·obtain⟨k,rfl,hk,hlo,hhi⟩:=ht;have w1:Go.IntKind.wrap .i64 ((i:Int)+1)=((i+1:Nat):Int):=bG (by omega) (by omega)
    simp only[ym,yl,Bs,Bt,cQ,w1,Int.toNat_natCast,decide_eq_true_eq];have fin:∀out',out'=jh (l.take (i+1))→∃r:(Int×List (V8 Int))⊕List (V8 Int),some (Sum.inl (((i+1:Nat):Int),out'))=some r∧∃s',r=Sum.inl s'∧(∃i:Nat,s'=((i:Int),jh (l.take i))∧i≤l.length)∧l.length - s'.1.toNat<l.length - ((i:Int)).toNat:=fun out' h=>by
     subst h;exact⟨_,rfl,_,rfl,⟨i+1,rfl,by omega⟩,by simp only[Int.toNat_natCast];omega⟩
    by_cases hkl:k=out.length
    ·subst hkl;rw[if_pos (by simp),if_pos (by omega)]
     have hins:out++[l[i]]=jh (l.take (i+1)):=hnew _ (by
      have:=zz (fun a b:V8 Int=>iu a<iu b) (fun a b c=>List.lt_trans) (Nat.le_refl _) hst hlo (fun h=>absurd h (Nat.lt_irrefl _))
      simpa using this) (fun y=>by simp[or_comm])
     by_cases h0:out.length=0
     ·have:out=[]:=List.eq_nil_of_length_eq_zero h0;subst this;rw[if_pos (by simp),if_pos (by simp),if_pos ⟨⟨rfl,by simp⟩,by simp[roomy]⟩,if_pos ⟨⟨by simp,by simp⟩,by simp[roomy]⟩]
      exact fin _ (by simpa using hins)
     ·rw[if_neg (by omega),if_neg (by omega),if_pos (by omega),if_pos ⟨Nat.le_refl _,by simp[roomy];omega⟩]
      exact fin _ (by simpa using hins)
    ·have hlt:k<out.length:=by omega
     rw[if_neg (by simp;omega),if_pos (by omega),List.getElem?_eq_getElem hlt]
     simp only[Option.bind_some];by_cases hx:out[k]=l[i]
     ·rw[if_neg (by simpa using hx)]
      exact fin _ (hnew _ hst fun y=>⟨.inr,fun h=>by rcases h with rfl |h;rw[← hx];exact List.getElem_mem hlt;exact h⟩)
     ·have hgt:iu l[i]<iu out[k]:=by
       refine Decidable.byContradiction fun hc=>hx (LY (okO _ (List.getElem_mem hlt)) okx (List.le_antisymm (List.not_lt.1 hc) (List.not_lt.1 (hhi hlt))))
      have hins:out.take k++l[i]::out.drop k=jh (l.take (i+1)):=hnew _ (zz (fun a b:V8 Int=>iu a<iu b) (fun a b c=>List.lt_trans) (by omega) hst hlo (fun _=>hgt)) (fun y=>I7 k)
      rw[if_pos (by simpa using hx),if_pos (by omega)]
      have hd:List.take (out.length - k) (List.drop k out)=List.drop k out:=List.take_of_length_le (by simp)
      by_cases h0:k=0
      ·subst h0;rw[if_pos (by omega),if_pos (by omega),if_pos ⟨⟨rfl,by omega⟩,by simp[roomy];omega⟩,if_pos ⟨⟨by omega,by omega⟩,by simp[roomy];omega⟩]
       exact fin _ (by simpa using hins)
      ·rw[if_neg (by omega),if_pos (by omega),if_pos (by omega),if_pos ⟨⟨rfl,by omega⟩,by simp[roomy];omega⟩,if_pos ⟨⟨by omega,by omega⟩,by simp[roomy];omega⟩]
       exact fin _ (by rw[Nat.zero_add,hd,List.drop_zero,List.take_length];exact hins)
 ·subst ht;exact if_pos (by simp[bh])
end Go.L
