/- Parts put together. No conditions. -/
import Derived.Test.YtdbkafoghoenoaaGreatDoorWs
import Derived.Test.YtdbkafoghoenoaaGreatDoorAd
import Derived.Test.YtdbkafoghoenoaaGreatDoorWl
set_option linter.unusedSimpArgs false
set_option linter.unusedVariables false
set_option maxRecDepth 100000
section
namespace Go.L
open Go.AM Go.Sort Go.Lib Go.Proofs
theorem iter_ex{σ τ:Type}{f:σ→Option (σ⊕τ)}(I:σ→Prop)(m:σ→Nat)(Q:τ→Prop)(step:∀s,I s→(∃t,f s=some (.inr t)∧Q t)∨∃s',f s=some (.inl s')∧I s'∧m s'<m s):
 ∀(N:Nat) (s:σ),I s→m s<N→∃t,iterO f N s=some t∧Q t
 | 0,s,_,h=>absurd h (Nat.not_lt_zero _)
 |N+1,s,hi,h=>by
  rcases step s hi with⟨t,e,hq⟩ |⟨s',e,hi',hm⟩
  ·exact⟨t,by simp only[iterO,e],hq⟩
  ·obtain⟨t,h1,h2⟩:=iter_ex I m Q step N s' hi' (by omega)
   exact⟨t,by simp only[iterO,e,h1],h2⟩
theorem stO_bind{X β:Type}(l:List X)(enc:X→List AVal)(n b ver i o:Nat)(y:X→X)(k:X→Option β):(stO l enc n b ver i o y).run.bind k=(l[i]?).bind k:=rfl
theorem w64{n:Nat}(h:n<9000000000000000000):IntKind.wrap .i64 (n:Int)=(n:Int):=wrap_i64 (by omega) (by omega)
theorem W_eq{x:Int}{n:Nat}(h:x=(n:Int))(hn:n<9000000000000000000):IntKind.wrap .i64 x=(n:Int):=by rw[h];exact w64 hn
theorem in_d{n:Nat}{m:Nat}(h:n<m):(0:Int)≤(n:Int)∧(n:Int)<(m:Int):=by omega
instance decV8:DecidableEq (V8 Int):=fun x y=>
 if h:x.a0=y.a0∧x.a1=y.a1∧x.a2=y.a2∧x.a3=y.a3∧x.a4=y.a4∧x.a5=y.a5∧x.a6=y.a6∧x.a7=y.a7 then
  .isTrue (by cases x;cases y;simp only at h;obtain⟨rfl,rfl,rfl,rfl,rfl,rfl,rfl,rfl⟩:=h;rfl)
 else .isFalse (fun e=>h (by subst e;simp))
theorem eqV8(x y:V8 Int):((x.a0==y.a0)&&((x.a1==y.a1)&&((x.a2==y.a2)&&((x.a3==y.a3)&&((x.a4==y.a4)&&((x.a5==y.a5)&&((x.a6==y.a6)&&((x.a7==y.a7)&&true))))))))=decide (x=y):=by
 rw[Bool.eq_iff_iff];simp only[Bool.and_eq_true,beq_iff_eq,and_true,decide_eq_true_eq];constructor
 ·intro h;cases x;cases y;simp only at h;obtain⟨rfl,rfl,rfl,rfl,rfl,rfl,rfl,rfl⟩:=h;rfl
 ·rintro rfl;simp
section
variable {X β:Type}
theorem idxP_bind(m n b ver o:Nat)(i:Int)(k:Unit→Option β):(idxP m n b ver o i).run.bind k=if 0≤i∧i<m then k ()else none:=by
 show(if 0≤i∧i<m then some ()else none).bind k=_
 split<;>rfl
theorem slcL_bind(m n b ver o:Nat)(i:Int)(k:Nat→Option β):(slcL m n b ver o i).run.bind k=if 0<i∧i<m then k i.toNat else none:=by
 show(if 0<i∧i<m then some i.toNat else none).bind k=_
 split<;>rfl
theorem slcH_bind(m n b ver o:Nat)(i:Int)(k:Nat→Option β):(slcH m n b ver o i).run.bind k=if 0≤i∧i≤m then k i.toNat else none:=by
 show(if 0≤i∧i≤m then some i.toNat else none).bind k=_
 split<;>rfl
theorem clrP_bind(l:List X)(d:X)(enc:X→List AVal)(m n b ver o:Nat)(k:Unit→Option β):(clrP l d enc m n b ver o).run.bind k=if o+m≤l.length then k ()else none:=by
 show(if o+m≤l.length then some ()else none).bind k=_
 split<;>rfl
end
theorem bind_exP{σ τ β:Type}{f:σ→Option (σ⊕τ)}{k:τ→Option β}{N:Nat}{s:σ}{P:β→Prop}(I:σ→Prop)(m:σ→Nat)(Q:τ→Prop)(hI:I s)(hm:m s<N)
 (step:∀s,I s→(∃t,f s=some (.inr t)∧Q t)∨∃s',f s=some (.inl s')∧I s'∧m s'<m s) (hk:∀t,Q t→∃r,k t=some r∧P r):∃r,(iterO f N s).bind k=some r∧P r:=by
 obtain⟨t,e,hq⟩:=iter_ex I m Q step N s hI hm;rw[e];exact hk t hq
theorem inr_ex{σ τ:Type}{x:Option (σ⊕τ)}{Q:τ→Prop}(h:∃r,x=some r∧∃t,r=Sum.inr t∧Q t):∃t,x=some (.inr t)∧Q t:=by
 obtain⟨r,h1,t,rfl,h2⟩:=h;exact⟨t,h1,h2⟩
theorem getV(l:List (V8 Int)){i:Nat}(h:i<l.length):l[i]? =some l.toArray[i]! :=by
 rw[getElem!_pos l.toArray i (by simpa using h)];simp[h]
theorem comp_run(N:Nat)(l:List (V8 Int))(hs:l.length<4000000000000000000)(hN:l.length+2<N):
 ∃r:Nat×List (V8 Int),(g_slices_Compact_Comm_Comm l l.length).run N=some r∧(r.1≤r.2.length∧r.2.take r.1=compact l):=by
 simp only[g_slices_Compact_Comm_Comm,G.run,tsOk,if_true,idxS_bind,ldO_bind,stO_bind,idxP_bind,slcL_bind,slcH_bind,clrP_bind,eqV8];have hd:l.toArray.size=l.length:=by simp
 by_cases h2:l.length<2
 ·rw[if_pos (by simp;omega)]
  exact⟨(l.length,l),rfl,Nat.le_refl _,by rw[List.take_length,compact_all];exact fun j hj=>keeps_lt_one _ j (by omega)⟩
 rw[if_neg (by simp;omega)]
 refine bind_exP (I:=fun s=>∃k:Nat,s=(k:Int)∧1≤k∧k≤l.length∧∀j,j<k→keeps l.toArray j=true) (m:=fun s=>l.length - s.toNat)
  (Q:=fun(t:(Nat×List (V8 Int))⊕Unit)=>match t with |Sum.inl p=>p.1≤p.2.length∧p.2.take p.1=compact l |Sum.inr _=>compact l=l) ⟨1,rfl,Nat.le_refl _,by omega,keeps_lt_one _⟩ (by simp;omega) (fun s hs'=>?_) (fun t ht=>?_)
 ·obtain⟨k,rfl,h1,hk,hall⟩:=hs';by_cases hkl:k<l.length
  ·rw[if_pos (by simp;omega)]
   simp only[if_pos (in_d hkl),W_eq (x:=(k:Int) - 1) (n:=k - 1) (by omega) (by omega),if_pos (in_d (show k - 1<l.length by omega)),Int.toNat_natCast,getV l hkl,getV l (show k - 1<l.length by omega),Option.bind_some]
   by_cases hdup:l.toArray[k]! =l.toArray[k - 1]!
   ·left;rw[if_pos (by simpa using hdup),if_pos (by omega)]
    refine inr_ex (bind_exP (I:=fun s=>∃(kk k2:Nat) (l':List (V8 Int)),s=((kk:Int),(k2:Int),l')∧1≤k2∧k≤kk∧k+k2≤l.length∧CompInv l.toArray (k+k2) kk l'.toArray) (m:=fun s=>l.length - s.2.1.toNat)
     (Q:=fun(t:Int×List (V8 Int))=>∃kk:Nat,t.1=(kk:Int)∧k≤kk∧CompInv l.toArray l.length kk t.2.toArray) ⟨k,1,l,rfl,Nat.le_refl _,Nat.le_refl _,hkl,CompInv.start hall (keeps_neg (by omega) hdup)⟩ (by show l.length - (1:Int).toNat<N;omega) (fun s hs'=>?_) (fun t ht=>?_))
    ·obtain⟨kk,k2,l',rfl,g1,g2,g3,hI⟩:=hs';have hsz:l'.length=l.length:=by have:=hI.size;simpa using this
     have hlt:=hI.lt;by_cases hk2:k+k2<l.length
     ·right;have e0:∀x:Nat,0+k+x=k+x:=fun x=>by omega
      rw[if_pos (by simp;omega)]
      simp only[if_pos (in_d (show k2<l.length - k by omega)),W_eq (x:=(k2:Int) - 1) (n:=k2 - 1) (by omega) (by omega),if_pos (in_d (show k2 - 1<l.length - k by omega)),Int.toNat_natCast,e0,getV l' (show k+k2<l'.length by omega),getV l' (show k+(k2 - 1)<l'.length by omega),Option.bind_some]
      rw[hI.high (k+k2) (by omega),hI.high (k+(k2 - 1)) (by omega)]
      by_cases hne:l.toArray[k+k2]! =l.toArray[k+(k2 - 1)]!
      ·rw[if_neg (by simpa using hne)]
       exact⟨((kk:Int),((k2+1:Nat):Int),l'),by rw[W_eq (x:=(k2:Int)+1) (n:=k2+1) (by omega) (by omega)],⟨kk,k2+1,l',rfl,by omega,g2,by omega,hI.skip (keeps_neg (by omega) (by rw[hne,show k+(k2 - 1)=k+k2 - 1 by omega]))⟩,by simp only[Int.toNat_natCast];omega⟩
      ·rw[if_pos (by simpa using hne)]
       simp only[if_pos (in_d (show kk<l.length by omega)),getV l' (show kk<l'.length by omega),Option.bind_some]
       refine⟨(((kk+1:Nat):Int),((k2+1:Nat):Int),l'.set kk l.toArray[k+k2]!),by rw[W_eq (x:=(k2:Int)+1) (n:=k2+1) (by omega) (by omega),W_eq (x:=(kk:Int)+1) (n:=kk+1) (by omega) (by omega)],⟨kk+1,k2+1,_,rfl,by omega,by omega,by omega,?_⟩,by simp only[Int.toNat_natCast];omega⟩
       have:=hI.keep (by simpa using hk2) (keeps_pos (by
        intro e;apply hne;rw[e,show k+(k2 - 1)=k+k2 - 1 by omega]))
       rw[show(l'.set kk l.toArray[k+k2]!).toArray=l'.toArray.setIfInBounds kk l.toArray[k+k2]! by simp]
       exact this
     ·left;rw[if_neg (by simp;omega)]
      have:k+k2=l.length:=by omega
      exact⟨((kk:Int),l'),rfl,kk,rfl,g2,by rw[← this];exact hI⟩
    ·obtain⟨kk,e1,hkk,hI⟩:=ht;obtain⟨t1,t2⟩:=t;simp only at e1 hI ⊢;subst e1;have hsz:t2.length=l.length:=by have:=hI.size;simpa using this
     have hlt:=hI.lt;rw[if_pos (by omega)]
     simp only[Int.toNat_natCast];rw[if_pos (by omega),if_pos (by omega)]
     refine⟨_,rfl,_,rfl,?_⟩;simp only[Nat.zero_add];refine⟨by simp;omega,?_⟩
     have hlen:=hI.len;rw[List.append_assoc,List.take_append_of_le_length (by simp;omega),List.take_take,Nat.min_self]
     show t2.take kk=compactUpTo l.toArray l.length;apply List.ext_getElem?;intro j;by_cases hj:j<kk
     ·rw[List.getElem?_take,if_pos hj,hI.low j hj,getV t2 (by omega)]
     ·rw[List.getElem?_take,if_neg hj,List.getElem?_eq_none (by omega)]
   ·right;rw[if_neg (by simpa using hdup)]
    refine⟨((k+1:Nat):Int),by rw[W_eq (x:=(k:Int)+1) (n:=k+1) (by omega) (by omega)],⟨k+1,rfl,by omega,by omega,fun j hj=>?_⟩,by simp only[Int.toNat_natCast];omega⟩
    by_cases e:j=k
    ·subst e;exact keeps_pos hdup
    ·exact hall j (by omega)
  ·left;rw[if_neg (by simp;omega)]
   exact⟨_,rfl,compact_all _ fun j hj=>hall j (by omega)⟩
 ·cases t with
  |inl p=>exact⟨_,rfl,ht⟩
  |inr u=>exact⟨_,rfl,Nat.le_refl _,by simp only[List.take_length];exact ht.symm⟩
theorem comp_v(N:Nat)(l:List (V8 Int))(hs:l.length<4000000000000000000)(hN:l.length+2<N):c_slices_Compact_Comm_Comm.S N (l,l.length)=some (compact l):=by
 obtain⟨r,h1,h2,h3⟩:=comp_run N l hs hN;rw[compC_S];show((g_slices_Compact_Comm_Comm l l.length).run N).bind (fun(r:Nat×List (V8 Int))=>if r.1≤r.2.length then some (r.2.take r.1)else none)=_
 rw[h1];show(if r.1≤r.2.length then some (r.2.take r.1)else none)=_
 rw[if_pos h2,h3]
noncomputable def sortU(l:List (V8 Int)):List (V8 Int):=compact (sortCv l)
theorem sortCv_ok(l:List (V8 Int)):(sortCv l).Perm l∧(sortCv l).Pairwise (fun a b=>byV8 a≤byV8 b):=by
 have hp:=pdq_sorts (ltOf cfC) ltC_swo l.toArray 0 l.length (Lib.bitLen l.length) true true (Nat.zero_le _) (by simp) (Or.inl rfl)
 obtain⟨⟨h1,_,h3⟩,h4⟩:=hp;have hsz:(sortCv l).length=l.length:=by unfold sortCv;simpa using h1
 constructor
 ·unfold sortCv;generalize pdq (ltOf cfC) l.toArray 0 l.length (Lib.bitLen l.length) true true=d at h1 h3;have e1:d.extract 0 l.length=d:=by
   have:l.length=d.size:=by rw[h1];simp
   rw[this];simp
  have e2:l.toArray.extract 0 l.length=l.toArray:=by
   have:l.length=l.toArray.size:=by simp
   rw[this];simp
  rw[e1,e2]at h3;simpa using h3
 ·rw[List.pairwise_iff_getElem];intro i j hi hj hij;have:=h4 i j (Nat.zero_le _) hij (by omega)
  have e:∀(k:Nat) (hk:k<(sortCv l).length),(sortCv l)[k]=(pdq (ltOf cfC) l.toArray 0 l.length (Lib.bitLen l.length) true true)[k]! :=fun k hk=>by
   have hk':k<(pdq (ltOf cfC) l.toArray 0 l.length (Lib.bitLen l.length) true true).size:=by rw[h1];simp;omega
   rw[getElem!_pos _ k hk'];rfl
  rw[e i hi,e j hj,← List.not_lt,← ltC_iff,this];simp
section
variable {α:Type} [Inhabited α] [DecidableEq α]
theorem cU_mem(d:Array α):∀(m:Nat) (x:α),x∈compactUpTo d m↔∃j,j<m∧d[j]! =x
 | 0,x=>by simp[compactUpTo]
 |m+1,x=>by
  rw[compactUpTo_succ,List.mem_append,cU_mem d m x];by_cases hk:keeps d m=true
  ·rw[if_pos hk];constructor
   ·rintro(⟨j,h1,h2⟩ |h)
    ·exact⟨j,by omega,h2⟩
    ·exact⟨m,by omega,(List.mem_singleton.1 h).symm⟩
   ·rintro⟨j,h1,h2⟩;by_cases hj:j=m
    ·subst hj;exact .inr (by rw[h2];exact List.mem_singleton.2 rfl)
    ·exact .inl ⟨j,by omega,h2⟩
  ·rw[if_neg hk];have hk2:m≠0∧d[m]! =d[m - 1]! :=by
    unfold keeps at hk;simp only[decide_eq_true_eq,not_or,Decidable.not_not]at hk;exact hk
   constructor
   ·rintro(⟨j,h1,h2⟩ |h)
    ·exact⟨j,by omega,h2⟩
    ·cases h
   ·rintro⟨j,h1,h2⟩;by_cases hj:j=m
    ·subst hj;exact .inl ⟨j - 1,by omega,by rw[← hk2.2];exact h2⟩
    ·exact .inl ⟨j,by omega,h2⟩
theorem cU_strict(d:Array α)(n:Nat)(le lt:α→α→Prop)(hle:∀a,le a a)(hlt:∀i j:Nat,i<n→j<n→le d[i]! d[j]! →d[i]! ≠d[j]! →lt d[i]! d[j]!)(htr:∀a b c,le a b→lt b c→lt a c)(hs:∀i j:Nat,i<j→j<n→le d[i]! d[j]!):
 ∀m:Nat,m≤n→(compactUpTo d m).Pairwise lt
 | 0,_=>by simp[compactUpTo]
 |m+1,h=>by
  rw[compactUpTo_succ];by_cases hk:keeps d m=true
  ·rw[if_pos hk,List.pairwise_append];refine⟨cU_strict d n le lt hle hlt htr hs m (by omega),by simp,fun a ha b hb=>?_⟩
   obtain rfl:=List.mem_singleton.1 hb;obtain⟨j,h1,rfl⟩:=(cU_mem d m a).1 ha;have hne:d[m]! ≠d[m - 1]! :=by
    unfold keeps at hk;simp only[decide_eq_true_eq]at hk;rcases hk with h0 |h0
    ·omega
    ·exact h0
   have h2:lt d[m - 1]! d[m]! :=hlt (m - 1) m (by omega) (by omega) (hs (m - 1) m (by omega) (by omega)) (Ne.symm hne)
   by_cases hj:j=m - 1
   ·subst hj;exact h2
   ·exact htr _ _ _ (hs j (m - 1) (by omega) (by omega)) h2
  ·rw[if_neg hk,List.append_nil];exact cU_strict d n le lt hle hlt htr hs m (by omega)
theorem compact_mem(l:List α)(x:α):x∈compact l↔x∈l:=by
 unfold compact;rw[cU_mem];constructor
 ·rintro⟨j,h1,rfl⟩;rw[getElem!_pos l.toArray j (by simpa using h1)]
  simp
 ·intro h;obtain⟨j,h1,rfl⟩:=List.getElem_of_mem h;exact⟨j,h1,by rw[getElem!_pos l.toArray j (by simpa using h1)];simp⟩
omit [Inhabited α] [DecidableEq α] in
theorem strict_ext(lt:α→α→Prop)(irr:∀a,¬lt a a)(asy:∀a b,lt a b→¬lt b a):∀(a b:List α),a.Pairwise lt→b.Pairwise lt→(∀x,x∈a↔x∈b)→a=b
 | [],[],_,_,_=>rfl
 | [],y::_,_,_,h=>absurd ((h y).2 (by simp)) (by simp)
 |x::_,[],_,_,h=>absurd ((h x).1 (by simp)) (by simp)
 |x::xs,y::ys,ha,hb,h=>by
  rw[List.pairwise_cons]at ha hb;have hxy:x=y:=by
   rcases List.mem_cons.1 ((h x).1 (by simp))with e |e
   ·exact e
   ·rcases List.mem_cons.1 ((h y).2 (by simp))with e' |e'
    ·exact e'.symm
    ·exact absurd (hb.1 x e) (asy _ _ (ha.1 y e'))
  subst hxy;rw[strict_ext lt irr asy xs ys ha.2 hb.2 fun z=>?_]
  constructor
  ·intro hz;rcases List.mem_cons.1 ((h z).1 (List.mem_cons_of_mem _ hz))with e |e
   ·subst e;exact absurd (ha.1 z hz) (irr z)
   ·exact e
  ·intro hz;rcases List.mem_cons.1 ((h z).2 (List.mem_cons_of_mem _ hz))with e |e
   ·subst e;exact absurd (hb.1 z hz) (irr z)
   ·exact e
end
def okC(x:V8 Int):Prop:=(0≤x.a0∧x.a0<256)∧(0≤x.a1∧x.a1<256)∧(0≤x.a2∧x.a2<256)∧(0≤x.a3∧x.a3<256)∧(0≤x.a4∧x.a4<256)∧(0≤x.a5∧x.a5<256)∧(0≤x.a6∧x.a6<256)∧(0≤x.a7∧x.a7<256)
theorem byte_inj{a b:Int}(ha:0≤a∧a<256)(hb:0≤b∧b<256)(h:UInt8.ofNat a.toNat=UInt8.ofNat b.toNat):a=b:=by
 have:=congrArg UInt8.toNat h;simp only[UInt8.toNat_ofNat']at this;omega
theorem byV8_inj{x y:V8 Int}(hx:okC x)(hy:okC y)(h:byV8 x=byV8 y):x=y:=by
 simp only[byV8,bytesOf,List.map_cons,List.map_nil,List.cons.injEq,and_true]at h;obtain⟨h0,h1,h2,h3,h4,h5,h6,h7⟩:=h;obtain⟨x0,x1,x2,x3,x4,x5,x6,x7⟩:=hx;obtain⟨y0,y1,y2,y3,y4,y5,y6,y7⟩:=hy;have e0:=byte_inj x0 y0 h0;have e1:=byte_inj x1 y1 h1;have e2:=byte_inj x2 y2 h2;have e3:=byte_inj x3 y3 h3;have e4:=byte_inj x4 y4 h4;have e5:=byte_inj x5 y5 h5;have e6:=byte_inj x6 y6 h6;have e7:=byte_inj x7 y7 h7;cases x;cases y;simp only at e0 e1 e2 e3 e4 e5 e6 e7;subst e0 e1 e2 e3 e4 e5 e6 e7;rfl
theorem sortU_mem(l:List (V8 Int))(x:V8 Int):x∈sortU l↔x∈l:=by
 unfold sortU;rw[compact_mem];exact(sortCv_ok l).1.mem_iff
theorem sortU_strict(l:List (V8 Int))(hl:∀x∈l,okC x):(sortU l).Pairwise (fun a b=>byV8 a<byV8 b):=by
 unfold sortU compact;obtain⟨hp,hs⟩:=sortCv_ok l;have get:∀i,i<(sortCv l).length→∃h:i<(sortCv l).length,(sortCv l).toArray[i]! =(sortCv l)[i]:=fun i hi=>⟨hi,by rw[getElem!_pos _ i (by simpa using hi)];simp⟩
 refine cU_strict (sortCv l).toArray (sortCv l).length (fun a b=>byV8 a≤byV8 b) (fun a b=>byV8 a<byV8 b) (fun a=>List.le_refl _) (fun i j hi hj hle hne=>?_) (fun a b c h1 h2=>List.lt_of_le_of_lt h1 h2) (fun i j hij hj=>?_) _ (Nat.le_refl _)
 ·obtain⟨_,e1⟩:=get i hi;obtain⟨_,e2⟩:=get j hj;rw[e1,e2]at hle hne ⊢;have o1:=hl _ (hp.mem_iff.1 (List.getElem_mem hi));have o2:=hl _ (hp.mem_iff.1 (List.getElem_mem hj));refine Decidable.byContradiction fun hc=>hne (byV8_inj o1 o2 (List.le_antisymm hle (List.not_lt.1 hc)))
 ·obtain⟨h1,e1⟩:=get i (by omega)
  obtain⟨h2,e2⟩:=get j hj;rw[e1,e2];exact List.pairwise_iff_getElem.1 hs i j h1 h2 hij
theorem sortU_ext{a:List (V8 Int)}(l:List (V8 Int))(hl:∀x∈l,okC x)(ha:a.Pairwise (fun a b=>byV8 a<byV8 b))(hm:∀x,x∈a↔x∈l):a=sortU l:=
 strict_ext (fun a b=>byV8 a<byV8 b) (fun a=>List.lt_irrefl _) (fun a b h=>List.lt_asymm h) a (sortU l) ha (sortU_strict l hl) fun x=>by rw[hm,sortU_mem]
theorem sortU_len(l:List (V8 Int)):(sortU l).length≤l.length:=by
 unfold sortU compact compactUpTo;rw[List.length_map];refine Nat.le_trans (List.length_filter_le _ _) ?_;have:=(sortCv_ok l).1.length_eq;simp[this]
theorem sortC_v(N:Nat)(l:List (V8 Int))(hs:l.length<4000000000000000000):c_slices_SortFunc_Comm_Comm.S N (l,l.length)=some (sortCv l):=by
 rw[sortC_S];unfold sortCS;rw[if_pos ⟨rfl,show l.length<_ by omega⟩]
theorem sortC_b(N n:Nat)(l:List (V8 Int))(hn:l.length=n)(hs:n<4000000000000000000){β:Type}(k:c_slices_SortFunc_Comm_Comm.sh.El→Option β):(c_slices_SortFunc_Comm_Comm.S N (l,n)).bind k=k (sortCv l):=by
 subst hn;rw[sortC_v N l hs];rfl
theorem comp_b(N n:Nat)(l:List (V8 Int))(hn:l.length=n)(hs:n<4000000000000000000)(hN:n+2<N){β:Type}(k:c_slices_Compact_Comm_Comm.sh.El→Option β):(c_slices_Compact_Comm_Comm.S N (l,n)).bind k=k (compact l):=by
 subst hn;rw[comp_v N l hs hN];rfl
theorem commSort_g(N:Nat)(x:V8 Int)(l:List (V8 Int)):c_comm_Sort.S N (x::l)=(g_comm_Sort (x::l)).run N:=by kernel_rfl
theorem commSort_nil(N:Nat):c_comm_Sort.S N ([]:List (V8 Int))=some ([]:List (V8 Int)):=by kernel_rfl
theorem commSort_v(N:Nat)(l:List (V8 Int))(hs:l.length<1000000000000)(hN:l.length+2<N):c_comm_Sort.S N l=some (sortU l):=by
 cases l with
 |nil=>
  have:sortU []=[]:=List.eq_nil_of_length_eq_zero (Nat.le_zero.1 (sortU_len []));rw[this];exact commSort_nil N
 |cons x l=>
  rw[commSort_g];simp only[List.length_cons]at hs hN;have hl:(sortCv ([]++x::l)).length=l.length+1:=by have:=(sortCv_ok (x::l)).1.length_eq;simpa using this
  have hr:roomy ((0:Nat)+(x::l).length) 8=true:=by simp[roomy];omega
  have h0:(0:Nat)=([]:List (V8 Int)).length∧roomy (([]:List (V8 Int)).length+(x::l).length) 8=true:=⟨rfl,hr⟩;simp only[g_comm_Sort,G.run,tsOk,if_true,appO_bind,decide_true,Bool.and_true,if_pos h0];rw[show(nilO (x::l) (eV8 (cI .u8)) true).run=some ()from rfl,Option.bind_some];rw[sortC_b N _ _ rfl (by simp;omega),comp_b N _ _ (by rw[hl];simp) (by simp;omega) (by simp;omega)]
  rw[if_pos (by simp[fzRow])]
  rfl
end Go.L
end
section
namespace Go.L
open Go.AM Go.Sort
section
variable {X β:Type}
end
end Go.L
end
section
namespace Go.L
open Go.AM Go.Sort
theorem w32{x:Int}(h0:0≤x)(h1:x<4294967296):IntKind.wrap .u32 x=x:=by simp[IntKind.wrap,IntKind.bits,IntKind.signed];omega
theorem w64u{x:Int}(h0:0≤x)(h1:x<18446744073709551616):IntKind.wrap .u64 x=x:=by simp[IntKind.wrap,IntKind.bits,IntKind.signed];omega
def stA(a x:Int):Int:=IntKind.wrap .u64 ((IntKind.wrap .u64 (a*((2:Int) ^ (@Min.min Nat instMinNat (Int.toNat (8:Int)) (IntKind.bits .u64)))))+(IntKind.wrap .u64 x))
end Go.L
end
