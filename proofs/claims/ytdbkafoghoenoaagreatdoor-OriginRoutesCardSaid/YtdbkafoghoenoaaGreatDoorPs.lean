/- Parts put together. No conditions. -/
import Derived.Test.YtdbkafoghoenoaaGreatDoorWs
import Derived.Test.YtdbkafoghoenoaaGreatDoorAd
import Derived.Test.YtdbkafoghoenoaaGreatDoorWl
set_option linter.unusedSimpArgs false
set_option linter.unusedVariables false
set_option maxRecDepth 100000
section
namespace Go.L
open Go.AM Go.Sort Go.Lib Go.Proofs
theorem iter_ex{σ τ:Type}{f:σ→Option (σ⊕τ)}(I:σ→Prop)(m:σ→Nat)(Q:τ→Prop)(step:∀s,I s→(∃t,f s=some (.inr t)∧Q t)∨∃s',f s=some (.inl s')∧I s'∧m s'<m s):
 ∀(N:Nat) (s:σ),I s→m s<N→∃t,iterO f N s=some t∧Q t
 | 0,s,_,h=>absurd h (Nat.not_lt_zero _)
 |N+1,s,hi,h=>by
  rcases step s hi with⟨t,e,hq⟩ |⟨s',e,hi',hm⟩
  ·grind [iterO]
  ·obtain⟨t,h1,h2⟩:=iter_ex I m Q step N s' hi' (by omega)
   grind [iterO]
theorem stO_bind{X β:Type}(l:List X)(enc:X→List AVal)(n b ver i o:Nat)(y:X→X)(k:X→Option β):(stO l enc n b ver i o y).run.bind k=(l[i]?).bind k:=rfl
theorem w64{n:Nat}(h:n<9000000000000000000):IntKind.wrap .i64 (n:Int)=(n:Int):=wrap_i64 (by omega) (by omega)
theorem W_eq{x:Int}{n:Nat}(h:x=(n:Int))(hn:n<9000000000000000000):IntKind.wrap .i64 x=(n:Int):=by rw[h];exact w64 hn
theorem in_d{n:Nat}{m:Nat}(h:n<m):(0:Int)≤(n:Int)∧(n:Int)<(m:Int):=by omega
instance decV8:DecidableEq (V8 Int):=fun x y=>
 if h:x.a0=y.a0∧x.a1=y.a1∧x.a2=y.a2∧x.a3=y.a3∧x.a4=y.a4∧x.a5=y.a5∧x.a6=y.a6∧x.a7=y.a7 then
  .isTrue (by cases x;simp_all)
 else .isFalse (fun e=>h (by subst e;simp))
theorem eqV8(x y:V8 Int):((x.a0==y.a0)&&((x.a1==y.a1)&&((x.a2==y.a2)&&((x.a3==y.a3)&&((x.a4==y.a4)&&((x.a5==y.a5)&&((x.a6==y.a6)&&((x.a7==y.a7)&&true))))))))=decide (x=y):=by
 rw[Bool.eq_iff_iff];simp only[Bool.and_eq_true,beq_iff_eq,and_true,decide_eq_true_eq];constructor
 ·intro h;cases x;simp_all
 ·rintro rfl;simp
section
variable {X β:Type}
theorem idxP_bind(m n b ver o:Nat)(i:Int)(k:Unit→Option β):(idxP m n b ver o i).run.bind k=if 0≤i∧i<m then k ()else none:=by
 show(if 0≤i∧i<m then some ()else none).bind k=_
 split<;>rfl
theorem slcL_bind(m n b ver o:Nat)(i:Int)(k:Nat→Option β):(slcL m n b ver o i).run.bind k=if 0<i∧i<m then k i.toNat else none:=by
 show(if 0<i∧i<m then some i.toNat else none).bind k=_
 split<;>rfl
theorem slcH_bind(m n b ver o:Nat)(i:Int)(k:Nat→Option β):(slcH m n b ver o i).run.bind k=if 0≤i∧i≤m then k i.toNat else none:=by
 show(if 0≤i∧i≤m then some i.toNat else none).bind k=_
 split<;>rfl
theorem clrP_bind(l:List X)(d:X)(enc:X→List AVal)(m n b ver o:Nat)(k:Unit→Option β):(clrP l d enc m n b ver o).run.bind k=if o+m≤l.length then k ()else none:=by
 show(if o+m≤l.length then some ()else none).bind k=_
 split<;>rfl
end
theorem bind_exP{σ τ β:Type}{f:σ→Option (σ⊕τ)}{k:τ→Option β}{N:Nat}{s:σ}{P:β→Prop}(I:σ→Prop)(m:σ→Nat)(Q:τ→Prop)(hI:I s)(hm:m s<N)
 (step:∀s,I s→(∃t,f s=some (.inr t)∧Q t)∨∃s',f s=some (.inl s')∧I s'∧m s'<m s) (hk:∀t,Q t→∃r,k t=some r∧P r):∃r,(iterO f N s).bind k=some r∧P r:=by
 obtain⟨t,e,hq⟩:=iter_ex I m Q step N s hI hm;rw[e];exact hk t hq
theorem inr_ex{σ τ:Type}{x:Option (σ⊕τ)}{Q:τ→Prop}(h:∃r,x=some r∧∃t,r=Sum.inr t∧Q t):∃t,x=some (.inr t)∧Q t:=by
 grind
theorem getV(l:List (V8 Int)){i:Nat}(h:i<l.length):l[i]? =some l.toArray[i]! :=by
 grind
theorem comp_run(N:Nat)(l:List (V8 Int))(hs:l.length<4000000000000000000)(hN:l.length+2<N):
 ∃r:Nat×List (V8 Int),(g_slices_Compact_Comm_Comm l l.length).run N=some r∧(r.1≤r.2.length∧r.2.take r.1=compact l):=by
 simp only[g_slices_Compact_Comm_Comm,G.run,tsOk,if_true,idxS_bind,ldO_bind,stO_bind,idxP_bind,slcL_bind,slcH_bind,clrP_bind,eqV8];have hd:l.toArray.size=l.length:=by simp
 by_cases h2:l.length<2
 ·rw[if_pos (by simp;omega)]
  exact⟨(l.length,l),rfl,Nat.le_refl _,by rw[List.take_length,compact_all];exact fun j hj=>keeps_lt_one _ j (by omega)⟩
 rw[if_neg (by simp;omega)]
 refine bind_exP (I:=fun s=>∃k:Nat,s=(k:Int)∧1≤k∧k≤l.length∧∀j,j<k→keeps l.toArray j=true) (m:=fun s=>l.length - s.toNat)
  (Q:=fun(t:(Nat×List (V8 Int))⊕Unit)=>match t with |Sum.inl p=>p.1≤p.2.length∧p.2.take p.1=compact l |Sum.inr _=>compact l=l) ⟨1,rfl,Nat.le_refl _,by omega,keeps_lt_one _⟩ (by simp;omega) (fun s hs'=>?_) (fun t ht=>?_)
 ·obtain⟨k,rfl,h1,hk,hall⟩:=hs';by_cases hkl:k<l.length
  ·rw[if_pos (by simp;omega)]
   simp only[if_pos (in_d hkl),W_eq (x:=(k:Int) - 1) (n:=k - 1) (by omega) (by omega),if_pos (in_d (show k - 1<l.length by omega)),Int.toNat_natCast,getV l hkl,getV l (show k - 1<l.length by omega),Option.bind_some]
   by_cases hdup:l.toArray[k]! =l.toArray[k - 1]!
   ·left;rw[if_pos (by simpa using hdup),if_pos (by omega)]
    refine inr_ex (bind_exP (I:=fun s=>∃(kk k2:Nat) (l':List (V8 Int)),s=((kk:Int),(k2:Int),l')∧1≤k2∧k≤kk∧k+k2≤l.length∧CompInv l.toArray (k+k2) kk l'.toArray) (m:=fun s=>l.length - s.2.1.toNat)
     (Q:=fun(t:Int×List (V8 Int))=>∃kk:Nat,t.1=(kk:Int)∧k≤kk∧CompInv l.toArray l.length kk t.2.toArray) ⟨k,1,l,rfl,Nat.le_refl _,Nat.le_refl _,hkl,CompInv.start hall (keeps_neg (by omega) hdup)⟩ (by grind) (fun s hs'=>?_) (fun t ht=>?_))
    ·obtain⟨kk,k2,l',rfl,g1,g2,g3,hI⟩:=hs';have hsz:l'.length=l.length:=by have:=hI.size;simpa using this
     have hlt:=hI.lt;by_cases hk2:k+k2<l.length
     ·right;have e0:∀x:Nat,0+k+x=k+x:=fun x=>by omega
      rw[if_pos (by simp;omega)]
      simp only[if_pos (in_d (show k2<l.length - k by omega)),W_eq (x:=(k2:Int) - 1) (n:=k2 - 1) (by omega) (by omega),if_pos (in_d (show k2 - 1<l.length - k by omega)),Int.toNat_natCast,e0,getV l' (show k+k2<l'.length by omega),getV l' (show k+(k2 - 1)<l'.length by omega),Option.bind_some]
      rw[hI.high (k+k2) (by omega),hI.high (k+(k2 - 1)) (by omega)]
      by_cases hne:l.toArray[k+k2]! =l.toArray[k+(k2 - 1)]!
      ·rw[if_neg (by simpa using hne)]
       exact⟨((kk:Int),((k2+1:Nat):Int),l'),by rw[W_eq (x:=(k2:Int)+1) (n:=k2+1) (by omega) (by omega)],⟨kk,k2+1,l',rfl,by omega,g2,by omega,hI.skip (keeps_neg (by omega) (by grind))⟩,by simp only[Int.toNat_natCast];omega⟩
      ·rw[if_pos (by simpa using hne)]
       simp only[if_pos (in_d (show kk<l.length by omega)),getV l' (show kk<l'.length by omega),Option.bind_some]
       refine⟨(((kk+1:Nat):Int),((k2+1:Nat):Int),l'.set kk l.toArray[k+k2]!),by rw[W_eq (x:=(k2:Int)+1) (n:=k2+1) (by omega) (by omega),W_eq (x:=(kk:Int)+1) (n:=kk+1) (by omega) (by omega)],⟨kk+1,k2+1,_,rfl,by omega,by omega,by omega,?_⟩,by simp only[Int.toNat_natCast];omega⟩
       have:=hI.keep (by simpa using hk2) (keeps_pos (by
        grind))
       grind
     ·left;rw[if_neg (by simp;omega)]
      have:k+k2=l.length:=by omega
      exact⟨((kk:Int),l'),rfl,kk,rfl,g2,by rw[← this];exact hI⟩
    ·obtain⟨kk,e1,hkk,hI⟩:=ht;obtain⟨t1,t2⟩:=t;simp only at e1 hI ⊢;subst e1;have hsz:t2.length=l.length:=by have:=hI.size;simpa using this
     have hlt:=hI.lt;rw[if_pos (by omega)]
     simp only[Int.toNat_natCast];rw[if_pos (by omega),if_pos (by omega)]
     refine⟨_,rfl,_,rfl,?_⟩;simp only[Nat.zero_add];refine⟨by simp;omega,?_⟩
     have hlen:=hI.len;rw[List.append_assoc,List.take_append_of_le_length (by simp;omega),List.take_take,Nat.min_self]
     show t2.take kk=compactUpTo l.toArray l.length;apply List.ext_getElem?;intro j;by_cases hj:j<kk
     ·rw[List.getElem?_take,if_pos hj,hI.low j hj,getV t2 (by omega)]
     grind
   ·right;rw[if_neg (by simpa using hdup)]
    refine⟨((k+1:Nat):Int),by rw[W_eq (x:=(k:Int)+1) (n:=k+1) (by omega) (by omega)],⟨k+1,rfl,by omega,by omega,fun j hj=>?_⟩,by simp only[Int.toNat_natCast];omega⟩
    by_cases e:j=k
    ·subst e;exact keeps_pos hdup
    ·exact hall j (by omega)
  ·left;rw[if_neg (by simp;omega)]
   exact⟨_,rfl,compact_all _ fun j hj=>hall j (by omega)⟩
 ·cases t with
  |inl p=>exact⟨_,rfl,ht⟩
  |inr u=>exact⟨_,rfl,Nat.le_refl _,by grind⟩
theorem comp_v(N:Nat)(l:List (V8 Int))(hs:l.length<4000000000000000000)(hN:l.length+2<N):c_slices_Compact_Comm_Comm.S N (l,l.length)=some (compact l):=by
 obtain⟨r,h1,h2,h3⟩:=comp_run N l hs hN;rw[compC_S];show((g_slices_Compact_Comm_Comm l l.length).run N).bind (fun(r:Nat×List (V8 Int))=>if r.1≤r.2.length then some (r.2.take r.1)else none)=_
 rw[h1];show(if r.1≤r.2.length then some (r.2.take r.1)else none)=_
 rw[if_pos h2,h3]
noncomputable def sortU(l:List (V8 Int)):List (V8 Int):=compact (sortCv l)
theorem sortCv_ok(l:List (V8 Int)):(sortCv l).Perm l∧(sortCv l).Pairwise (fun a b=>byV8 a≤byV8 b):=by
 have hp:=pdq_sorts (ltOf cfC) ltC_swo l.toArray 0 l.length (Lib.bitLen l.length) true true (Nat.zero_le _) (by simp) (Or.inl rfl)
 obtain⟨⟨h1,_,h3⟩,h4⟩:=hp;have hsz:(sortCv l).length=l.length:=by unfold sortCv;simpa using h1
 constructor
 ·unfold sortCv;generalize pdq (ltOf cfC) l.toArray 0 l.length (Lib.bitLen l.length) true true=d at h1 h3;have e1:d.extract 0 l.length=d:=by
   have:l.length=d.size:=by rw[h1];simp
   rw[this];simp
  grind
 ·rw[List.pairwise_iff_getElem];intro i j hi hj hij;have:=h4 i j (Nat.zero_le _) hij (by omega)
  have e:∀(k:Nat) (hk:k<(sortCv l).length),(sortCv l)[k]=(pdq (ltOf cfC) l.toArray 0 l.length (Lib.bitLen l.length) true true)[k]! :=fun k hk=>by
   have hk':k<(pdq (ltOf cfC) l.toArray 0 l.length (Lib.bitLen l.length) true true).size:=by rw[h1];simp;omega
   rw[getElem!_pos _ k hk'];rfl
  rw[e i hi,e j hj,← List.not_lt,← ltC_iff,this];simp
section
variable {α:Type} [Inhabited α] [DecidableEq α]
theorem cU_mem(d:Array α):∀(m:Nat) (x:α),x∈compactUpTo d m↔∃j,j<m∧d[j]! =x
 | 0,x=>by simp[compactUpTo]
 |m+1,x=>by
  rw[compactUpTo_succ,List.mem_append,cU_mem d m x];by_cases hk:keeps d m=true
  ·grind
  ·rw[if_neg hk];have hk2:m≠0∧d[m]! =d[m - 1]! :=by
    unfold keeps at hk;simp only[decide_eq_true_eq,not_or,Decidable.not_not]at hk;exact hk
   grind
theorem cU_strict(d:Array α)(n:Nat)(le lt:α→α→Prop)(hle:∀a,le a a)(hlt:∀i j:Nat,i<n→j<n→le d[i]! d[j]! →d[i]! ≠d[j]! →lt d[i]! d[j]!)(htr:∀a b c,le a b→lt b c→lt a c)(hs:∀i j:Nat,i<j→j<n→le d[i]! d[j]!):
 ∀m:Nat,m≤n→(compactUpTo d m).Pairwise lt
 | 0,_=>by simp[compactUpTo]
 |m+1,h=>by
  rw[compactUpTo_succ];by_cases hk:keeps d m=true
  ·rw[if_pos hk,List.pairwise_append];refine⟨cU_strict d n le lt hle hlt htr hs m (by omega),by simp,fun a ha b hb=>?_⟩
   obtain rfl:=List.mem_singleton.1 hb;obtain⟨j,h1,rfl⟩:=(cU_mem d m a).1 ha;have hne:d[m]! ≠d[m - 1]! :=by
    unfold keeps at hk;simp only[decide_eq_true_eq]at hk;rcases hk with h0 |h0
    ·omega
    ·exact h0
   grind
  ·rw[if_neg hk,List.append_nil];exact cU_strict d n le lt hle hlt htr hs m (by omega)
theorem compact_mem(l:List α)(x:α):x∈compact l↔x∈l:=by
 unfold compact;rw[cU_mem];constructor
 ·grind
 ·intro h;obtain⟨j,h1,rfl⟩:=List.getElem_of_mem h;exact⟨j,h1,by grind⟩
omit [Inhabited α] [DecidableEq α] in
theorem strict_ext(lt:α→α→Prop)(irr:∀a,¬lt a a)(asy:∀a b,lt a b→¬lt b a):∀(a b:List α),a.Pairwise lt→b.Pairwise lt→(∀x,x∈a↔x∈b)→a=b
 | [],[],_,_,_=>rfl
 | [],y::_,_,_,h=>absurd ((h y).2 (by simp)) (by simp)
 |x::_,[],_,_,h=>absurd ((h x).1 (by simp)) (by simp)
 |x::xs,y::ys,ha,hb,h=>by
  rw[List.pairwise_cons]at ha hb;have hxy:x=y:=by
   rcases List.mem_cons.1 ((h x).1 (by simp))with e |e
   ·exact e
   ·rcases List.mem_cons.1 ((h y).2 (by simp))with e' |e'
    ·exact e'.symm
    grind
  subst hxy;rw[strict_ext lt irr asy xs ys ha.2 hb.2 fun z=>?_]
  grind
end
def okC(x:V8 Int):Prop:=(0≤x.a0∧x.a0<256)∧(0≤x.a1∧x.a1<256)∧(0≤x.a2∧x.a2<256)∧(0≤x.a3∧x.a3<256)∧(0≤x.a4∧x.a4<256)∧(0≤x.a5∧x.a5<256)∧(0≤x.a6∧x.a6<256)∧(0≤x.a7∧x.a7<256)
theorem byte_inj{a b:Int}(ha:0≤a∧a<256)(hb:0≤b∧b<256)(h:UInt8.ofNat a.toNat=UInt8.ofNat b.toNat):a=b:=by
 have:=congrArg UInt8.toNat h;simp only[UInt8.toNat_ofNat']at this;omega
theorem byV8_inj{x y:V8 Int}(hx:okC x)(hy:okC y)(h:byV8 x=byV8 y):x=y:=by
 simp only[byV8,bytesOf,List.map_cons,List.map_nil,List.cons.injEq,and_true]at h;obtain⟨h0,h1,h2,h3,h4,h5,h6,h7⟩:=h;obtain⟨x0,x1,x2,x3,x4,x5,x6,x7⟩:=hx;obtain⟨y0,y1,y2,y3,y4,y5,y6,y7⟩:=hy;have e0:=byte_inj x0 y0 h0;have e1:=byte_inj x1 y1 h1;have e2:=byte_inj x2 y2 h2;have e3:=byte_inj x3 y3 h3;have e4:=byte_inj x4 y4 h4;have e5:=byte_inj x5 y5 h5;have e6:=byte_inj x6 y6 h6;have e7:=byte_inj x7 y7 h7;cases x;simp_all
theorem sortU_mem(l:List (V8 Int))(x:V8 Int):x∈sortU l↔x∈l:=by
 unfold sortU;rw[compact_mem];exact(sortCv_ok l).1.mem_iff
theorem sortU_strict(l:List (V8 Int))(hl:∀x∈l,okC x):(sortU l).Pairwise (fun a b=>byV8 a<byV8 b):=by
 unfold sortU compact;obtain⟨hp,hs⟩:=sortCv_ok l;have get:∀i,i<(sortCv l).length→∃h:i<(sortCv l).length,(sortCv l).toArray[i]! =(sortCv l)[i]:=fun i hi=>⟨hi,by grind⟩
 refine cU_strict (sortCv l).toArray (sortCv l).length (fun a b=>byV8 a≤byV8 b) (fun a b=>byV8 a<byV8 b) (fun a=>List.le_refl _) (fun i j hi hj hle hne=>?_) (fun a b c h1 h2=>List.lt_of_le_of_lt h1 h2) (fun i j hij hj=>?_) _ (Nat.le_refl _)
 ·obtain⟨_,e1⟩:=get i hi;obtain⟨_,e2⟩:=get j hj;rw[e1,e2]at hle hne ⊢;have o1:=hl _ (hp.mem_iff.1 (List.getElem_mem hi));have o2:=hl _ (hp.mem_iff.1 (List.getElem_mem hj));refine Decidable.byContradiction fun hc=>hne (byV8_inj o1 o2 (List.le_antisymm hle (List.not_lt.1 hc)))
 ·obtain⟨h1,e1⟩:=get i (by omega)
  obtain⟨h2,e2⟩:=get j hj;rw[e1,e2];exact List.pairwise_iff_getElem.1 hs i j h1 h2 hij
theorem sortU_ext{a:List (V8 Int)}(l:List (V8 Int))(hl:∀x∈l,okC x)(ha:a.Pairwise (fun a b=>byV8 a<byV8 b))(hm:∀x,x∈a↔x∈l):a=sortU l:=
 strict_ext (fun a b=>byV8 a<byV8 b) (fun a=>List.lt_irrefl _) (fun a b h=>List.lt_asymm h) a (sortU l) ha (sortU_strict l hl) fun x=>by rw[hm,sortU_mem]
theorem sortU_len(l:List (V8 Int)):(sortU l).length≤l.length:=by
 unfold sortU compact compactUpTo;rw[List.length_map];refine Nat.le_trans (List.length_filter_le _ _) ?_;have:=(sortCv_ok l).1.length_eq;simp[this]
theorem sortC_v(N:Nat)(l:List (V8 Int))(hs:l.length<4000000000000000000):c_slices_SortFunc_Comm_Comm.S N (l,l.length)=some (sortCv l):=by
 rw[sortC_S];unfold sortCS;grind
theorem sortC_b(N n:Nat)(l:List (V8 Int))(hn:l.length=n)(hs:n<4000000000000000000){β:Type}(k:c_slices_SortFunc_Comm_Comm.sh.El→Option β):(c_slices_SortFunc_Comm_Comm.S N (l,n)).bind k=k (sortCv l):=by
 subst hn;rw[sortC_v N l hs];rfl
theorem comp_b(N n:Nat)(l:List (V8 Int))(hn:l.length=n)(hs:n<4000000000000000000)(hN:n+2<N){β:Type}(k:c_slices_Compact_Comm_Comm.sh.El→Option β):(c_slices_Compact_Comm_Comm.S N (l,n)).bind k=k (compact l):=by
 subst hn;rw[comp_v N l hs hN];rfl
theorem commSort_g(N:Nat)(x:V8 Int)(l:List (V8 Int)):c_comm_Sort.S N (x::l)=(g_comm_Sort (x::l)).run N:=by kernel_rfl
theorem commSort_nil(N:Nat):c_comm_Sort.S N ([]:List (V8 Int))=some ([]:List (V8 Int)):=by kernel_rfl
theorem commSort_v(N:Nat)(l:List (V8 Int))(hs:l.length<1000000000000)(hN:l.length+2<N):c_comm_Sort.S N l=some (sortU l):=by
 cases l with
 |nil=>
  have:sortU []=[]:=List.eq_nil_of_length_eq_zero (Nat.le_zero.1 (sortU_len []));rw[this];exact commSort_nil N
 |cons x l=>
  rw[commSort_g];simp only[List.length_cons]at hs hN;have hl:(sortCv ([]++x::l)).length=l.length+1:=by have:=(sortCv_ok (x::l)).1.length_eq;simpa using this
  have hr:roomy ((0:Nat)+(x::l).length) 8=true:=by simp[roomy];omega
  have h0:(0:Nat)=([]:List (V8 Int)).length∧roomy (([]:List (V8 Int)).length+(x::l).length) 8=true:=⟨rfl,hr⟩;simp only[g_comm_Sort,G.run,tsOk,if_true,appO_bind,decide_true,Bool.and_true,if_pos h0];rw[show(nilO (x::l) (eV8 (cI .u8)) true).run=some ()from rfl,Option.bind_some];rw[sortC_b N _ _ rfl (by simp;omega),comp_b N _ _ (by rw[hl];simp) (by simp;omega) (by simp;omega)]
  rw[if_pos (by simp[fzRow])]
  rfl
end Go.L
end
section
namespace Go.L
open Go.AM Go.Sort
theorem bind_ex{σ τ β:Type}{f:σ→Option (σ⊕τ)}{k:τ→Option β}{N:Nat}{s:σ}{r:Option β}(I:σ→Prop)(m:σ→Nat)(Q:τ→Prop)(hI:I s)(hm:m s<N)
 (step:∀s,I s→(∃t,f s=some (.inr t)∧Q t)∨∃s',f s=some (.inl s')∧I s'∧m s'<m s) (hk:∀t,Q t→k t=r):(iterO f N s).bind k=r:=by
 obtain⟨t,h1,h2⟩:=iter_ex I m Q step N s hI hm;rw[h1];exact hk t h2
section
variable {X β:Type}
theorem slcZ_bind(m n b ver o:Nat)(i:Int)(k:Unit→Option β):(slcZ m n b ver o i).run.bind k=if i=0 then k ()else none:=by
 show(if i=0 then some ()else none).bind k=_
 split<;>rfl
theorem slcE_bind(m n b ver o:Nat)(i:Int)(k:Unit→Option β):(slcE m n b ver o i).run.bind k=if i=m∧0<m then k ()else none:=by
 show(if i=m∧0<m then some ()else none).bind k=_
 split<;>rfl
theorem appS_bind(len:Nat)(l m:List X)(e:X→List AVal)(n by_ b ver nid:Nat)(ids:List Nat)(k:Unit→Option β):(appS len l m e n by_ b ver nid ids).run.bind k=if len≤l.length∧roomy (len+m.length) by_=true then k ()else none:=by
 show(if len≤l.length∧roomy (len+m.length) by_=true then some ()else none).bind k=_
 split<;>rfl
theorem appE_bind(len:Nat)(l l2:List X)(b2 ver2 o2 n2:Nat)(e:X→List AVal)(n by_ b ver nid:Nat)(k:Unit→Option β):(appE len l l2 b2 ver2 o2 n2 e n by_ b ver nid).run.bind k=if(len=l.length∧o2+n2≤l2.length)∧roomy (l.length+n2) by_=true then k ()else none:=by
 show(if(len=l.length∧o2+n2≤l2.length)∧roomy (l.length+n2) by_=true then some ()else none).bind k=_
 split<;>rfl
theorem appF_bind(len:Nat)(l l2:List X)(b2 ver2 o2 n2:Nat)(e:X→List AVal)(n by_ b ver nid:Nat)(k:Unit→Option β):(appF len l l2 b2 ver2 o2 n2 e n by_ b ver nid).run.bind k=if(len≤l.length∧o2+n2≤l2.length)∧roomy (len+n2) by_=true then k ()else none:=by
 show(if(len≤l.length∧o2+n2≤l2.length)∧roomy (len+n2) by_=true then some ()else none).bind k=_
 split<;>rfl
end
theorem ins_strict{α:Type}(lt:α→α→Prop)(tr:∀a b c,lt a b→lt b c→lt a c){out:List α}{x:α}{k:Nat}(hk:k≤out.length)(hp:out.Pairwise lt)(hlo:∀j (h:j<out.length),j<k→lt out[j] x)(hhi:∀h:k<out.length,lt x out[k]):
 (out.take k++x::out.drop k).Pairwise lt:=by
 have hi:∀y∈out.drop k,lt x y:=fun y hy=>by
  obtain⟨i,h1,rfl⟩:=List.getElem_of_mem hy;simp only[List.length_drop]at h1;rw[List.getElem_drop];by_cases h0:i=0
  ·subst h0;exact hhi (by omega)
  ·exact tr _ _ _ (hhi (by omega)) (List.pairwise_iff_getElem.1 hp k (k+i) (by omega) (by omega) (by omega))
 rw[List.pairwise_append];refine⟨hp.sublist (List.take_sublist _ _),List.pairwise_cons.2 ⟨hi,hp.sublist (List.drop_sublist _ _)⟩,fun a ha b hb=>?_⟩
 obtain⟨j,h1,rfl⟩:=List.getElem_of_mem ha;grind
theorem ins_mem{α:Type}{out:List α}{x y:α}(k:Nat):y∈out.take k++x::out.drop k↔y=x∨y∈out:=by
 rw[List.mem_append,List.mem_cons]
 conv=>rhs;rw[← List.take_append_drop k out,List.mem_append]
 grind
def cmpL:List Int→List Int→Int
 |a::ar,b::br=>if a<b then -1 else if a>b then 1 else cmpL ar br
 |_,_=>0
def inB(x:Int):Prop:=0≤x∧x<256
theorem byte_lt{a b:Int}(ha:inB a)(hb:inB b):UInt8.ofNat a.toNat<UInt8.ofNat b.toNat↔a<b:=by
 rw[UInt8.lt_iff_toNat_lt];simp only[UInt8.toNat_ofNat'];obtain⟨h1,h2⟩:=ha;obtain⟨h3,h4⟩:=hb;omega
theorem cmpL_neg:∀(a b:List Int),a.length=b.length→(∀x∈a,inB x)→(∀x∈b,inB x)→(cmpL a b<0↔Lib.bytesOf a<Lib.bytesOf b)
 | [],[],_,_,_=>by simp[cmpL,Lib.bytesOf]
 |a::ar,b::br,hl,ha,hb=>by
  simp only[Lib.bytesOf,List.map_cons,List.cons_lt_cons_iff];have h1:=byte_lt (ha a (by simp)) (hb b (by simp))
  have h2:=byte_lt (hb b (by simp)) (ha a (by simp))
  have ih:=cmpL_neg ar br (by simpa using hl) (fun x hx=>ha x (by simp[hx])) fun x hx=>hb x (by simp[hx])
  simp only[Lib.bytesOf]at ih;rw[cmpL];grind
theorem okC_all{x:V8 Int}(h:okC x):∀y∈[x.a0,x.a1,x.a2,x.a3,x.a4,x.a5,x.a6,x.a7],inB y:=by
 obtain⟨h0,h1,h2,h3,h4,h5,h6,h7⟩:=h;intro y hy;simp only[List.mem_cons,List.not_mem_nil,or_false]at hy;rcases hy with rfl |rfl |rfl |rfl |rfl |rfl |rfl |rfl<;>assumption
theorem compare_run(n:Nat)(a b:V8 Int):c_ref03_Compare.S n (a,b)=some (cmpL [a.a0,a.a1,a.a2,a.a3,a.a4,a.a5,a.a6,a.a7] [b.a0,b.a1,b.a2,b.a3,b.a4,b.a5,b.a6,b.a7]):=by
 show(g_ref03_Compare a b).run n=_;simp only[g_ref03_Compare,G.run,tsOk,if_true,cmpL,decide_eq_true_eq];have e:∀(c:Prop) [Decidable c] (x y:Int),(some (if c then x else y):Option Int)=if c then some x else some y:=fun c _ x y=>by split<;>rfl
 simp only[e];rfl
theorem compare_b{n:Nat}(a b:V8 Int){β:Type}(k:c_ref03_Compare.sh.El→Option β):(c_ref03_Compare.S n (a,b)).bind k=k (cmpL [a.a0,a.a1,a.a2,a.a3,a.a4,a.a5,a.a6,a.a7] [b.a0,b.a1,b.a2,b.a3,b.a4,b.a5,b.a6,b.a7]):=by rw[compare_run];rfl
theorem sortU_nil:sortU []=[]:=List.eq_nil_of_length_eq_zero (Nat.le_zero.1 (sortU_len []))
theorem inl_ex{σ τ:Type}{x:Option (σ⊕τ)}{B:σ→Prop}(h:∃r,x=some r∧∃s',r=Sum.inl s'∧B s'):∃s',x=some (.inl s')∧B s':=by
 grind
theorem by_inlD{σ τ:Type}{X o:Option (σ⊕τ)}{B:σ→Prop}(h:X=o)(h2:∃s',o=some (.inl s')∧B s'):∃s',X=some (.inl s')∧B s':=h▸h2
theorem by_inrD{σ τ:Type}{X o:Option (σ⊕τ)}{B:τ→Prop}(h:X=o)(h2:∃s',o=some (.inr s')∧B s'):∃s',X=some (.inr s')∧B s':=h▸h2
theorem refSort_run(M:Nat)(l:List (V8 Int))(hl:l.length<100000)(hM:l.length+3<M)(hok:∀x∈l,okC x):c_ref03_Sort.S M l=some (sortU l):=by
 show(g_ref03_Sort l).run M=_;simp only[g_ref03_Sort,G.run,tsOk,if_true,lenO_bind,idxO_bind,idxS_bind,ldO_bind,slcH_bind,slcL_bind,slcZ_bind,slcE_bind,appS_bind,appE_bind,appF_bind,eqV8,eqz,ltn];refine bind_ex (I:=fun s=>∃i:Nat,s=((i:Int),sortU (l.take i))∧i≤l.length) (m:=fun s=>l.length - s.1.toNat) (Q:=fun(t:List (V8 Int))=>t=sortU l) ⟨0,by rw[List.take_zero,sortU_nil];rfl,Nat.zero_le _⟩ (by simp;omega) (fun s hs=>?_) (fun t ht=>?_)
 ·obtain⟨i,rfl,hi⟩:=hs;by_cases he:i=l.length
  ·grind
  ·right;have hil:i<l.length:=by omega
   have e1:at? l (i:Int)=some l[i]:=by rw[at?_nat];exact List.getElem?_eq_getElem hil
   have okT:∀x∈l.take i,okC x:=fun x hx=>hok x (List.mem_of_mem_take hx)
   have okx:okC l[i]:=hok _ (List.getElem_mem hil);have hst:=sortU_strict _ okT;have hmem:=sortU_mem (l.take i);have hlen:=sortU_len (l.take i);have hnew:∀out',out'.Pairwise (fun a b=>byV8 a<byV8 b)→(∀y,y∈out'↔y=l[i]∨y∈sortU (l.take i))→out'=sortU (l.take (i+1)):=fun out' h1 h2=>by
    refine sortU_ext _ (fun x hx=>hok x (List.mem_of_mem_take hx)) h1 fun y=>?_
    rw[h2,hmem,List.take_add_one,List.mem_append,List.getElem?_eq_getElem hil];simp[or_comm]
   have okO:∀x∈sortU (l.take i),okC x:=fun x hx=>okT x ((hmem x).1 hx)
   simp only[List.length_take]at hlen;generalize sortU (l.take i)=out at*;rw[if_pos (by simp;omega),e1]
   simp only[Option.bind_some];refine inl_ex (bind_exP (I:=fun s=>∃j:Nat,s=(j:Int)∧j≤out.length∧∀q (h:q<out.length),q<j→byV8 out[q]<byV8 l[i]) (m:=fun s=>out.length - s.toNat) (Q:=fun(t:Int)=>∃k:Nat,t=(k:Int)∧k≤out.length∧(∀q (h:q<out.length),q<k→byV8 out[q]<byV8 l[i])∧∀h:k<out.length,¬byV8 out[k]<byV8 l[i])
    ⟨0,rfl,Nat.zero_le _,fun q _ h=>absurd h (Nat.not_lt_zero _)⟩ (by grind) (fun s hs=>?_) (fun t ht=>?_))
   ·obtain⟨j,rfl,hj,hlo⟩:=hs;by_cases hjl:j<out.length
    ·have c1:=cmpL_neg [out[j].a0,out[j].a1,out[j].a2,out[j].a3,out[j].a4,out[j].a5,out[j].a6,out[j].a7] [l[i].a0,l[i].a1,l[i].a2,l[i].a3,l[i].a4,l[i].a5,l[i].a6,l[i].a7] rfl (okC_all (okO _ (List.getElem_mem hjl))) (okC_all okx);rw[if_pos (by simp;omega),if_pos (by omega),Int.toNat_natCast,List.getElem?_eq_getElem hjl]
     simp only[Option.bind_some];by_cases hc:byV8 out[j]<byV8 l[i]
     ·right;refine by_inlD (compare_b _ _ _) ?_;rw[if_pos (by simpa using c1.2 hc),W_eq (x:=(j:Int)+1) (n:=j+1) (by omega) (by omega)]
      refine⟨_,rfl,⟨j+1,rfl,by omega,fun q h hq=>?_⟩,by simp only[Int.toNat_natCast];omega⟩
      grind
     ·left;refine by_inrD (compare_b _ _ _) ?_;rw[if_neg (by simpa using mt c1.1 hc)]
      exact⟨_,rfl,j,rfl,hj,hlo,fun _=>hc⟩
    grind
   ·obtain⟨k,rfl,hk,hlo,hhi⟩:=ht;have w1:IntKind.wrap .i64 ((i:Int)+1)=((i+1:Nat):Int):=W_eq (by omega) (by omega)
    simp only[slcH_bind,slcL_bind,slcZ_bind,slcE_bind,idxS_bind,w1,Int.toNat_natCast,decide_eq_true_eq];have fin:∀out',out'=sortU (l.take (i+1))→∃r:(Int×List (V8 Int))⊕List (V8 Int),some (Sum.inl (((i+1:Nat):Int),out'))=some r∧∃s',r=Sum.inl s'∧(∃i:Nat,s'=((i:Int),sortU (l.take i))∧i≤l.length)∧l.length - s'.1.toNat<l.length - ((i:Int)).toNat:=fun out' h=>by
     subst h;exact⟨_,rfl,_,rfl,⟨i+1,rfl,by omega⟩,by simp only[Int.toNat_natCast];omega⟩
    by_cases hkl:k=out.length
    ·subst hkl;rw[if_pos (by simp),if_pos (by omega)]
     have hins:out++[l[i]]=sortU (l.take (i+1)):=hnew _ (by
      have:=ins_strict (fun a b:V8 Int=>byV8 a<byV8 b) (fun a b c=>List.lt_trans) (Nat.le_refl _) hst hlo (fun h=>absurd h (Nat.lt_irrefl _))
      simpa using this) (fun y=>by simp[or_comm])
     by_cases h0:out.length=0
     ·have:out=[]:=List.eq_nil_of_length_eq_zero h0;subst this;rw[if_pos (by simp),if_pos (by simp),if_pos ⟨⟨rfl,by simp⟩,by simp[roomy]⟩,if_pos ⟨⟨by simp,by simp⟩,by simp[roomy]⟩]
      exact fin _ (by simpa using hins)
     ·rw[if_neg (by omega),if_neg (by omega),if_pos (by omega),if_pos ⟨Nat.le_refl _,by simp[roomy];omega⟩]
      exact fin _ (by simpa using hins)
    ·have hlt:k<out.length:=by omega
     rw[if_neg (by simp;omega),if_pos (by omega),List.getElem?_eq_getElem hlt]
     simp only[Option.bind_some];by_cases hx:out[k]=l[i]
     ·rw[if_neg (by simpa using hx)]
      exact fin _ (hnew _ hst fun y=>⟨.inr,fun h=>by grind⟩)
     ·have hgt:byV8 l[i]<byV8 out[k]:=by
       refine Decidable.byContradiction fun hc=>hx (byV8_inj (okO _ (List.getElem_mem hlt)) okx (List.le_antisymm (List.not_lt.1 hc) (List.not_lt.1 (hhi hlt))))
      have hins:out.take k++l[i]::out.drop k=sortU (l.take (i+1)):=hnew _ (ins_strict (fun a b:V8 Int=>byV8 a<byV8 b) (fun a b c=>List.lt_trans) (by omega) hst hlo (fun _=>hgt)) (fun y=>ins_mem k)
      rw[if_pos (by simpa using hx),if_pos (by omega)]
      have hd:List.take (out.length - k) (List.drop k out)=List.drop k out:=List.take_of_length_le (by simp)
      by_cases h0:k=0
      ·subst h0;rw[if_pos (by omega),if_pos (by omega),if_pos ⟨⟨rfl,by omega⟩,by simp[roomy];omega⟩,if_pos ⟨⟨by omega,by omega⟩,by simp[roomy];omega⟩]
       exact fin _ (by simpa using hins)
      ·rw[if_neg (by omega),if_pos (by omega),if_pos (by omega),if_pos ⟨⟨rfl,by omega⟩,by simp[roomy];omega⟩,if_pos ⟨⟨by omega,by omega⟩,by simp[roomy];omega⟩]
       simp_all
 ·subst ht;exact if_pos (by simp[fzRow])
end Go.L
end
section
namespace Go.L
open Go.AM Go.Sort
def kindS(c:V8 Int):Int:=
 if c.a0=0∧c.a1=2 then 1 else if c.a0=3∧c.a1=12 then 2 else if c.a0=6∧c.a1=0 then 3 else if c.a0=6∧c.a1=1 then 4 else if c.a0=6∧c.a1=2 then 5 else if c.a0=6∧c.a1=3 then 6 else if c.a0=6∧c.a1=6 then 7 else 0
theorem w32{x:Int}(h0:0≤x)(h1:x<4294967296):IntKind.wrap .u32 x=x:=by simp[IntKind.wrap,IntKind.bits,IntKind.signed];omega
theorem w64u{x:Int}(h0:0≤x)(h1:x<18446744073709551616):IntKind.wrap .u64 x=x:=by simp[IntKind.wrap,IntKind.bits,IntKind.signed];omega
def stA(a x:Int):Int:=IntKind.wrap .u64 ((IntKind.wrap .u64 (a*((2:Int) ^ (@Min.min Nat instMinNat (Int.toNat (8:Int)) (IntKind.bits .u64)))))+(IntKind.wrap .u64 x))
end Go.L
end
