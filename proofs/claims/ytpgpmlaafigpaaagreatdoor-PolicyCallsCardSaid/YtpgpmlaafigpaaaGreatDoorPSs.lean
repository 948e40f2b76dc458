/- What comm.Sort computes: sorted, without repetitions. No conditions. -/
import Derived.Test.YtpgpmlaafigpaaaGreatDoorWCs
import Derived.Test.YtpgpmlaafigpaaaGreatDoorPSp
namespace Go.L
open Go.AM Go.Sort Go.Lib Go.Proofs
set_option maxRecDepth 100000
set_option linter.unusedSimpArgs false
set_option linter.unusedVariables false
instance decV8:DecidableEq (V8 Int):=fun x y=>
 if h:x.a0=y.a0∧x.a1=y.a1∧x.a2=y.a2∧x.a3=y.a3∧x.a4=y.a4∧x.a5=y.a5∧x.a6=y.a6∧x.a7=y.a7 then
  .isTrue (by cases x;cases y;simp only at h;obtain⟨rfl,rfl,rfl,rfl,rfl,rfl,rfl,rfl⟩:=h;rfl)
 else .isFalse (fun e=>h (by subst e;simp))
theorem LW(x y:V8 Int):((x.a0==y.a0)&&((x.a1==y.a1)&&((x.a2==y.a2)&&((x.a3==y.a3)&&((x.a4==y.a4)&&((x.a5==y.a5)&&((x.a6==y.a6)&&((x.a7==y.a7)&&true))))))))=decide (x=y):=by
 rw[Bool.eq_iff_iff];simp only[Bool.and_eq_true,beq_iff_eq,and_true,decide_eq_true_eq];constructor
 ·intro h;cases x;cases y;simp only at h;obtain⟨rfl,rfl,rfl,rfl,rfl,rfl,rfl,rfl⟩:=h;rfl
 ·rintro rfl;simp
section
variable {X β:Type}
theorem Rx(m n b ai o:Nat)(i:Int)(k:Unit→Option β):(Ph m n b ai o i).run.bind k=if 0≤i∧i<m then k ()else none:=by
 show(if 0≤i∧i<m then some ()else none).bind k=_
 split<;>rfl
theorem yl(m n b ai o:Nat)(i:Int)(k:Nat→Option β):(Ae m n b ai o i).run.bind k=if 0<i∧i<m then k i.toNat else none:=by
 show(if 0<i∧i<m then some i.toNat else none).bind k=_
 split<;>rfl
theorem ym(m n b ai o:Nat)(i:Int)(k:Nat→Option β):(yB m n b ai o i).run.bind k=if 0≤i∧i≤m then k i.toNat else none:=by
 show(if 0≤i∧i≤m then some i.toNat else none).bind k=_
 split<;>rfl
theorem Ry(l:List X)(d:X)(enc:X→List AVal)(m n b ai o:Nat)(k:Unit→Option β):(Pj l d enc m n b ai o).run.bind k=if o+m≤l.length then k ()else none:=by
 show(if o+m≤l.length then some ()else none).bind k=_
 split<;>rfl
end
theorem Dp{σ τ β:Type}{f:σ→Option (σ⊕τ)}{k:τ→Option β}{N:Nat}{s:σ}{P:β→Prop}(I:σ→Prop)(m:σ→Nat)(Q:τ→Prop)(hI:I s)(hm:m s<N)
 (step:∀s,I s→(∃t,f s=some (.inr t)∧Q t)∨∃s',f s=some (.inl s')∧I s'∧m s'<m s) (hk:∀t,Q t→∃r,k t=some r∧P r):∃r,(bZ f N s).bind k=some r∧P r:=by
 obtain⟨t,e,hq⟩:=IZ I m Q step N s hI hm;rw[e];exact hk t hq
theorem Vs{σ τ:Type}{x:Option (σ⊕τ)}{Q:τ→Prop}(h:∃r,x=some r∧∃t,r=Sum.inr t∧Q t):∃t,x=some (.inr t)∧Q t:=by
 obtain⟨r,h1,t,rfl,h2⟩:=h;exact⟨t,h1,h2⟩
theorem I6(l:List (V8 Int)){i:Nat}(h:i<l.length):l[i]? =some l.toArray[i]! :=by
 rw[getElem!_pos l.toArray i (by simpa using h)];simp[h]
theorem Tf(N:Nat)(l:List (V8 Int))(hs:l.length<4000000000000000000)(hN:l.length+2<N):
 ∃r:Nat×List (V8 Int),(gQ l l.length).run N=some r∧(r.1≤r.2.length∧r.2.take r.1=compact l):=by
 simp only[gQ,G.run,aI,if_true,cQ,iq,fe,Rx,yl,ym,Ry,LW];have hd:l.toArray.size=l.length:=by simp
 by_cases h2:l.length<2
 ·rw[if_pos (by simp;omega)]
  exact⟨(l.length,l),rfl,Nat.le_refl _,by rw[List.take_length,compact_all];exact fun j hj=>keeps_lt_one _ j (by omega)⟩
 rw[if_neg (by simp;omega)]
 refine Dp (I:=fun s=>∃k:Nat,s=(k:Int)∧1≤k∧k≤l.length∧∀j,j<k→keeps l.toArray j=true) (m:=fun s=>l.length - s.toNat)
  (Q:=fun(t:(Nat×List (V8 Int))⊕Unit)=>match t with |Sum.inl p=>p.1≤p.2.length∧p.2.take p.1=compact l |Sum.inr _=>compact l=l) ⟨1,rfl,Nat.le_refl _,by omega,keeps_lt_one _⟩ (by simp;omega) (fun s hs'=>?_) (fun t ht=>?_)
 ·obtain⟨k,rfl,h1,hk,hall⟩:=hs';by_cases hkl:k<l.length
  ·rw[if_pos (by simp;omega)]
   simp only[if_pos (dZ hkl),bG (x:=(k:Int) - 1) (n:=k - 1) (by omega) (by omega),if_pos (dZ (show k - 1<l.length by omega)),Int.toNat_natCast,I6 l hkl,I6 l (show k - 1<l.length by omega),Option.bind_some]
   by_cases hdup:l.toArray[k]! =l.toArray[k - 1]!
   ·left;rw[if_pos (by simpa using hdup),if_pos (by omega)]
    refine Vs (Dp (I:=fun s=>∃(kk k2:Nat) (l':List (V8 Int)),s=((kk:Int),(k2:Int),l')∧1≤k2∧k≤kk∧k+k2≤l.length∧CompInv l.toArray (k+k2) kk l'.toArray) (m:=fun s=>l.length - s.2.1.toNat)
     (Q:=fun(t:Int×List (V8 Int))=>∃kk:Nat,t.1=(kk:Int)∧k≤kk∧CompInv l.toArray l.length kk t.2.toArray) ⟨k,1,l,rfl,Nat.le_refl _,Nat.le_refl _,hkl,CompInv.start hall (keeps_neg (by omega) hdup)⟩ (by show l.length - (1:Int).toNat<N;omega) (fun s hs'=>?_) (fun t ht=>?_))
    ·obtain⟨kk,k2,l',rfl,g1,g2,g3,hI⟩:=hs';have hsz:l'.length=l.length:=by have:=hI.size;simpa using this
     have hlt:=hI.lt;by_cases hk2:k+k2<l.length
     ·right;have e0:∀x:Nat,0+k+x=k+x:=fun x=>by omega
      rw[if_pos (by simp;omega)]
      simp only[if_pos (dZ (show k2<l.length - k by omega)),bG (x:=(k2:Int) - 1) (n:=k2 - 1) (by omega) (by omega),if_pos (dZ (show k2 - 1<l.length - k by omega)),Int.toNat_natCast,e0,I6 l' (show k+k2<l'.length by omega),I6 l' (show k+(k2 - 1)<l'.length by omega),Option.bind_some]
      rw[hI.high (k+k2) (by omega),hI.high (k+(k2 - 1)) (by omega)]
      by_cases hne:l.toArray[k+k2]! =l.toArray[k+(k2 - 1)]!
      ·rw[if_neg (by simpa using hne)]
       exact⟨((kk:Int),((k2+1:Nat):Int),l'),by rw[bG (x:=(k2:Int)+1) (n:=k2+1) (by omega) (by omega)],⟨kk,k2+1,l',rfl,by omega,g2,by omega,hI.skip (keeps_neg (by omega) (by rw[hne,show k+(k2 - 1)=k+k2 - 1 by omega]))⟩,by simp only[Int.toNat_natCast];omega⟩
      ·rw[if_pos (by simpa using hne)]
       simp only[if_pos (dZ (show kk<l.length by omega)),I6 l' (show kk<l'.length by omega),Option.bind_some]
       refine⟨(((kk+1:Nat):Int),((k2+1:Nat):Int),l'.set kk l.toArray[k+k2]!),by rw[bG (x:=(k2:Int)+1) (n:=k2+1) (by omega) (by omega),bG (x:=(kk:Int)+1) (n:=kk+1) (by omega) (by omega)],⟨kk+1,k2+1,_,rfl,by omega,by omega,by omega,?_⟩,by simp only[Int.toNat_natCast];omega⟩
       have:=hI.keep (by simpa using hk2) (keeps_pos (by
        intro e;apply hne;rw[e,show k+(k2 - 1)=k+k2 - 1 by omega]))
       rw[show(l'.set kk l.toArray[k+k2]!).toArray=l'.toArray.setIfInBounds kk l.toArray[k+k2]! by simp]
       exact this
     ·left;rw[if_neg (by simp;omega)]
      have:k+k2=l.length:=by omega
      exact⟨((kk:Int),l'),rfl,kk,rfl,g2,by rw[← this];exact hI⟩
    ·obtain⟨kk,e1,hkk,hI⟩:=ht;obtain⟨t1,t2⟩:=t;simp only at e1 hI ⊢;subst e1;have hsz:t2.length=l.length:=by have:=hI.size;simpa using this
     have hlt:=hI.lt;rw[if_pos (by omega)]
     simp only[Int.toNat_natCast];rw[if_pos (by omega),if_pos (by omega)]
     refine⟨_,rfl,_,rfl,?_⟩;simp only[Nat.zero_add];refine⟨by simp;omega,?_⟩
     have hlen:=hI.len;rw[List.append_assoc,List.take_append_of_le_length (by simp;omega),List.take_take,Nat.min_self]
     show t2.take kk=compactUpTo l.toArray l.length;apply List.ext_getElem?;intro j;by_cases hj:j<kk
     ·rw[List.getElem?_take,if_pos hj,hI.low j hj,I6 t2 (by omega)]
     ·rw[List.getElem?_take,if_neg hj,List.getElem?_eq_none (by omega)]
   ·right;rw[if_neg (by simpa using hdup)]
    refine⟨((k+1:Nat):Int),by rw[bG (x:=(k:Int)+1) (n:=k+1) (by omega) (by omega)],⟨k+1,rfl,by omega,by omega,fun j hj=>?_⟩,by simp only[Int.toNat_natCast];omega⟩
    by_cases e:j=k
    ·subst e;exact keeps_pos hdup
    ·exact hall j (by omega)
  ·left;rw[if_neg (by simp;omega)]
   exact⟨_,rfl,compact_all _ fun j hj=>hall j (by omega)⟩
 ·cases t with
  |inl p=>exact⟨_,rfl,ht⟩
  |inr u=>exact⟨_,rfl,Nat.le_refl _,by simp only[List.take_length];exact ht.symm⟩
theorem Vt(N:Nat)(l:List (V8 Int))(hs:l.length<4000000000000000000)(hN:l.length+2<N):dc.S N (l,l.length)=some (compact l):=by
 obtain⟨r,h1,h2,h3⟩:=Tf N l hs hN;rw[UF];show((gQ l l.length).run N).bind (fun(r:Nat×List (V8 Int))=>if r.1≤r.2.length then some (r.2.take r.1)else none)=_
 rw[h1];show(if r.1≤r.2.length then some (r.2.take r.1)else none)=_
 rw[if_pos h2,h3]
noncomputable def jh(l:List (V8 Int)):List (V8 Int):=compact (jv l)
theorem Br(l:List (V8 Int)):(jv l).Perm l∧(jv l).Pairwise (fun a b=>iu a≤iu b):=by
 have hp:=pdq_sorts (ltOf Bq) I3 l.toArray 0 l.length (Lib.bitLen l.length) true true (Nat.zero_le _) (by simp) (Or.inl rfl)
 obtain⟨⟨h1,_,h3⟩,h4⟩:=hp;have hsz:(jv l).length=l.length:=by unfold jv;simpa using h1
 constructor
 ·unfold jv;generalize pdq (ltOf Bq) l.toArray 0 l.length (Lib.bitLen l.length) true true=d at h1 h3;have e1:d.extract 0 l.length=d:=by
   have:l.length=d.size:=by rw[h1];simp
   rw[this];simp
  have e2:l.toArray.extract 0 l.length=l.toArray:=by
   have:l.length=l.toArray.size:=by simp
   rw[this];simp
  rw[e1,e2]at h3;simpa using h3
 ·rw[List.pairwise_iff_getElem];intro i j hi hj hij;have:=h4 i j (Nat.zero_le _) hij (by omega)
  have e:∀(k:Nat) (hk:k<(jv l).length),(jv l)[k]=(pdq (ltOf Bq) l.toArray 0 l.length (Lib.bitLen l.length) true true)[k]! :=fun k hk=>by
   have hk':k<(pdq (ltOf Bq) l.toArray 0 l.length (Lib.bitLen l.length) true true).size:=by rw[h1];simp;omega
   rw[getElem!_pos _ k hk'];rfl
  rw[e i hi,e j hj,← List.not_lt,← zM,this];simp
section
variable {α:Type} [Inhabited α] [DecidableEq α]
theorem LX(d:Array α):∀(m:Nat) (x:α),x∈compactUpTo d m↔∃j,j<m∧d[j]! =x
 | 0,x=>by simp[compactUpTo]
 |m+1,x=>by
  rw[compactUpTo_succ,List.mem_append,LX d m x];by_cases hk:keeps d m=true
  ·rw[if_pos hk];constructor
   ·rintro(⟨j,h1,h2⟩ |h)
    ·exact⟨j,by omega,h2⟩
    ·exact⟨m,by omega,(List.mem_singleton.1 h).symm⟩
   ·rintro⟨j,h1,h2⟩;by_cases hj:j=m
    ·subst hj;exact .inr (by rw[h2];exact List.mem_singleton.2 rfl)
    ·exact .inl ⟨j,by omega,h2⟩
  ·rw[if_neg hk];have hk2:m≠0∧d[m]! =d[m - 1]! :=by
    unfold keeps at hk;simp only[decide_eq_true_eq,not_or,Decidable.not_not]at hk;exact hk
   constructor
   ·rintro(⟨j,h1,h2⟩ |h)
    ·exact⟨j,by omega,h2⟩
    ·cases h
   ·rintro⟨j,h1,h2⟩;by_cases hj:j=m
    ·subst hj;exact .inl ⟨j - 1,by omega,by rw[← hk2.2];exact h2⟩
    ·exact .inl ⟨j,by omega,h2⟩
theorem EN(d:Array α)(n:Nat)(le lt:α→α→Prop)(hle:∀a,le a a)(hlt:∀i j:Nat,i<n→j<n→le d[i]! d[j]! →d[i]! ≠d[j]! →lt d[i]! d[j]!)(htr:∀a b c,le a b→lt b c→lt a c)(hs:∀i j:Nat,i<j→j<n→le d[i]! d[j]!):
 ∀m:Nat,m≤n→(compactUpTo d m).Pairwise lt
 | 0,_=>by simp[compactUpTo]
 |m+1,h=>by
  rw[compactUpTo_succ];by_cases hk:keeps d m=true
  ·rw[if_pos hk,List.pairwise_append];refine⟨EN d n le lt hle hlt htr hs m (by omega),by simp,fun a ha b hb=>?_⟩
   obtain rfl:=List.mem_singleton.1 hb;obtain⟨j,h1,rfl⟩:=(LX d m a).1 ha;have hne:d[m]! ≠d[m - 1]! :=by
    unfold keeps at hk;simp only[decide_eq_true_eq]at hk;rcases hk with h0 |h0
    ·omega
    ·exact h0
   have h2:lt d[m - 1]! d[m]! :=hlt (m - 1) m (by omega) (by omega) (hs (m - 1) m (by omega) (by omega)) (Ne.symm hne)
   by_cases hj:j=m - 1
   ·subst hj;exact h2
   ·exact htr _ _ _ (hs j (m - 1) (by omega) (by omega)) h2
  ·rw[if_neg hk,List.append_nil];exact EN d n le lt hle hlt htr hs m (by omega)
theorem Ng(l:List α)(x:α):x∈compact l↔x∈l:=by
 unfold compact;rw[LX];constructor
 ·rintro⟨j,h1,rfl⟩;rw[getElem!_pos l.toArray j (by simpa using h1)]
  simp
 ·intro h;obtain⟨j,h1,rfl⟩:=List.getElem_of_mem h;exact⟨j,h1,by rw[getElem!_pos l.toArray j (by simpa using h1)];simp⟩
omit [Inhabited α] [DecidableEq α] in
theorem Dq(lt:α→α→Prop)(irr:∀a,¬lt a a)(asy:∀a b,lt a b→¬lt b a):∀(a b:List α),a.Pairwise lt→b.Pairwise lt→(∀x,x∈a↔x∈b)→a=b
 | [],[],_,_,_=>rfl
 | [],y::_,_,_,h=>absurd ((h y).2 (by simp)) (by simp)
 |x::_,[],_,_,h=>absurd ((h x).1 (by simp)) (by simp)
 |x::xs,y::ys,ha,hb,h=>by
  rw[List.pairwise_cons]at ha hb;have hxy:x=y:=by
   rcases List.mem_cons.1 ((h x).1 (by simp))with e |e
   ·exact e
   ·rcases List.mem_cons.1 ((h y).2 (by simp))with e' |e'
    ·exact e'.symm
    ·exact absurd (hb.1 x e) (asy _ _ (ha.1 y e'))
  subst hxy;rw[Dq lt irr asy xs ys ha.2 hb.2 fun z=>?_]
  constructor
  ·intro hz;rcases List.mem_cons.1 ((h z).1 (List.mem_cons_of_mem _ hz))with e |e
   ·subst e;exact absurd (ha.1 z hz) (irr z)
   ·exact e
  ·intro hz;rcases List.mem_cons.1 ((h z).2 (List.mem_cons_of_mem _ hz))with e |e
   ·subst e;exact absurd (hb.1 z hz) (irr z)
   ·exact e
end
def Au(x:V8 Int):Prop:=(0≤x.a0∧x.a0<256)∧(0≤x.a1∧x.a1<256)∧(0≤x.a2∧x.a2<256)∧(0≤x.a3∧x.a3<256)∧(0≤x.a4∧x.a4<256)∧(0≤x.a5∧x.a5<256)∧(0≤x.a6∧x.a6<256)∧(0≤x.a7∧x.a7<256)
theorem sJ{a b:Int}(ha:0≤a∧a<256)(hb:0≤b∧b<256)(h:UInt8.ofNat a.toNat=UInt8.ofNat b.toNat):a=b:=by
 have:=congrArg UInt8.toNat h;simp only[UInt8.toNat_ofNat']at this;omega
theorem LY{x y:V8 Int}(hx:Au x)(hy:Au y)(h:iu x=iu y):x=y:=by
 simp only[iu,bytesOf,List.map_cons,List.map_nil,List.cons.injEq,and_true]at h;obtain⟨h0,h1,h2,h3,h4,h5,h6,h7⟩:=h;obtain⟨x0,x1,x2,x3,x4,x5,x6,x7⟩:=hx;obtain⟨y0,y1,y2,y3,y4,y5,y6,y7⟩:=hy;have e0:=sJ x0 y0 h0;have e1:=sJ x1 y1 h1;have e2:=sJ x2 y2 h2;have e3:=sJ x3 y3 h3;have e4:=sJ x4 y4 h4;have e5:=sJ x5 y5 h5;have e6:=sJ x6 y6 h6;have e7:=sJ x7 y7 h7;cases x;cases y;simp only at e0 e1 e2 e3 e4 e5 e6 e7;subst e0 e1 e2 e3 e4 e5 e6 e7;rfl
theorem JP(l:List (V8 Int))(x:V8 Int):x∈jh l↔x∈l:=by
 unfold jh;rw[Ng];exact(Br l).1.mem_iff
theorem EO(l:List (V8 Int))(hl:∀x∈l,Au x):(jh l).Pairwise (fun a b=>iu a<iu b):=by
 unfold jh compact;obtain⟨hp,hs⟩:=Br l;have get:∀i,i<(jv l).length→∃h:i<(jv l).length,(jv l).toArray[i]! =(jv l)[i]:=fun i hi=>⟨hi,by rw[getElem!_pos _ i (by simpa using hi)];simp⟩
 refine EN (jv l).toArray (jv l).length (fun a b=>iu a≤iu b) (fun a b=>iu a<iu b) (fun a=>List.le_refl _) (fun i j hi hj hle hne=>?_) (fun a b c h1 h2=>List.lt_of_le_of_lt h1 h2) (fun i j hij hj=>?_) _ (Nat.le_refl _)
 ·obtain⟨_,e1⟩:=get i hi;obtain⟨_,e2⟩:=get j hj;rw[e1,e2]at hle hne ⊢;have o1:=hl _ (hp.mem_iff.1 (List.getElem_mem hi));have o2:=hl _ (hp.mem_iff.1 (List.getElem_mem hj));refine Decidable.byContradiction fun hc=>hne (LY o1 o2 (List.le_antisymm hle (List.not_lt.1 hc)))
 ·obtain⟨h1,e1⟩:=get i (by omega)
  obtain⟨h2,e2⟩:=get j hj;rw[e1,e2];exact List.pairwise_iff_getElem.1 hs i j h1 h2 hij
theorem Rz{a:List (V8 Int)}(l:List (V8 Int))(hl:∀x∈l,Au x)(ha:a.Pairwise (fun a b=>iu a<iu b))(hm:∀x,x∈a↔x∈l):a=jh l:=
 Dq (fun a b=>iu a<iu b) (fun a=>List.lt_irrefl _) (fun a b h=>List.lt_asymm h) a (jh l) ha (EO l hl) fun x=>by rw[hm,JP]
theorem EP(l:List (V8 Int)):(jh l).length≤l.length:=by
 unfold jh compact compactUpTo;rw[List.length_map];refine Nat.le_trans (List.length_filter_le _ _) ?_;have:=(Br l).1.length_eq;simp[this]
theorem UG(N:Nat)(l:List (V8 Int))(hs:l.length<4000000000000000000):cT.S N (l,l.length)=some (jv l):=by
 rw[N8];unfold Cz;rw[if_pos ⟨rfl,show l.length<_ by omega⟩]
theorem UH(N n:Nat)(l:List (V8 Int))(hn:l.length=n)(hs:n<4000000000000000000){β:Type}(k:cT.sh.El→Option β):(cT.S N (l,n)).bind k=k (jv l):=by
 subst hn;rw[UG N l hs];rfl
theorem Vu(N n:Nat)(l:List (V8 Int))(hn:l.length=n)(hs:n<4000000000000000000)(hN:n+2<N){β:Type}(k:dc.sh.El→Option β):(dc.S N (l,n)).bind k=k (compact l):=by
 subst hn;rw[Vt N l hs hN];rfl
theorem PG(N:Nat)(x:V8 Int)(l:List (V8 Int)):kg.S N (x::l)=(B6 (x::l)).run N:=by kernel_rfl
theorem LZ(N:Nat):kg.S N ([]:List (V8 Int))=some ([]:List (V8 Int)):=by kernel_rfl
theorem PI(N:Nat)(l:List (V8 Int))(hs:l.length<1000000000000)(hN:l.length+2<N):kg.S N l=some (jh l):=by
 cases l with
 |nil=>
  have:jh []=[]:=List.eq_nil_of_length_eq_zero (Nat.le_zero.1 (EP []));rw[this];exact LZ N
 |cons x l=>
  rw[PG];simp only[List.length_cons]at hs hN;have hl:(jv ([]++x::l)).length=l.length+1:=by have:=(Br (x::l)).1.length_eq;simpa using this
  have hr:roomy ((0:Nat)+(x::l).length) 8=true:=by simp[roomy];omega
  have h0:(0:Nat)=([]:List (V8 Int)).length∧roomy (([]:List (V8 Int)).length+(x::l).length) 8=true:=⟨rfl,hr⟩;simp only[B6,G.run,aI,if_true,vc,decide_true,Bool.and_true,if_pos h0];rw[show(Lu (x::l) (ay (cI .u8)) true).run=some ()from rfl,Option.bind_some];rw[UH N _ _ rfl (by simp;omega),Vu N _ _ (by rw[hl];simp) (by simp;omega) (by simp;omega)]
  rw[if_pos (by simp[bh])]
  rfl
end Go.L
