/- Parts put together. No conditions. -/
import Derived.Test.YtiohninblcifpaaGreatDoorPz
import Derived.Test.YtiohninblcifpaaGreatDoorWn
import Derived.Test.YtiohninblcifpaaGreatDoorPt
import Derived.Test.YtiohninblcifpaaGreatDoorPc
set_option linter.unusedSimpArgs false
set_option linter.unusedVariables false
set_option maxRecDepth 100000
section
namespace Go.L
open Go.AM
def dr(c:az):aq:=⟨c.k.BD,c.k.IP⟩
def xW(c:az):ak:=Go.L.ak.mk c.k.bN c.cG c.time c.seq c.eC c.next
def wm(c:az):aq×ak:=(dr c,xW c)
def Norm(c:az):Prop:=(c.cG=true→c.seq=0∧c.eC=false∧c.next=0)∧(c.cG=false→c.time=0)
theorem Gr(n:Nat)(a b:az)(ha:Norm a)(hb:Norm b):At (uU.S n (a,b)) (fun(t:Bool)=>t=true↔tO (xW a) (xW b)):=by
 refine(?_ :cO n (uT a b) _);unfold uT;obtain⟨a1,a2⟩:=ha;obtain⟨b1,b2⟩:=hb;have key:tO (xW a) (xW b)↔(er a.cG<er b.cG∨er a.cG=er b.cG∧(b.time<a.time∨b.time=a.time∧(b.seq<a.seq∨b.seq=a.seq∧(er a.eC<er b.eC∨er a.eC=er b.eC∧(a.next<b.next∨a.next=b.next∧a.k.bN<b.k.bN))))):=Iff.rfl;rw[key];cases hl:a.cG<;>cases hm:b.cG
 ·have:=a2 hl;have:=b2 hm;have e1:er a.cG=er b.cG:=by rw[hl,hm]
  refine .skip (.br (fun h=>by simp at h) fun _=>.skip (.br (fun h=>by cases h) fun _=>.skip (.br (fun h=>by cases h) fun _=>.skip (.br (fun h=>.skip (.done rfl ?_)) fun h=>.skip (.br (fun h2=>.skip (.done rfl ?_)) fun h2=>.skip (.br (fun h3=>.skip (.done rfl ?_)) fun h3=>.skip (.done rfl ?_)))))))
  ·simp only[bne_iff_ne,ne_eq]at h;simp only[gt_iff_lt,decide_eq_true_eq];simp only[true_and,Int.lt_irrefl,false_or];omega
  ·simp only[bne_eq_false_iff_eq]at h;cases hx:a.eC<;>cases hy:b.eC<;>simp[hx,hy,er]at h2 ⊢ <;>omega
  ·simp only[bne_eq_false_iff_eq,bne_iff_ne,ne_eq]at h h3;have e:a.eC=b.eC:=by simpa using h2
   simp only[decide_eq_true_eq,e];simp only[true_and,Int.lt_irrefl,false_or];omega
  ·simp only[bne_eq_false_iff_eq]at h h3;have e:a.eC=b.eC:=by simpa using h2
   simp only[decide_eq_true_eq,e];simp only[true_and,Int.lt_irrefl,false_or];omega
 ·exact .skip (.br (fun _=>.skip (.done rfl (by simp[er]))) fun h=>by simp at h)
 ·exact .skip (.br (fun _=>.skip (.done rfl (by simp[er]))) fun h=>by simp at h)
 ·have e1:er a.cG=er b.cG:=by rw[hl,hm]
  obtain⟨a3,a4,a5⟩:=a1 hl;obtain⟨b3,b4,b5⟩:=b1 hm;refine .skip (.br (fun h=>by simp at h) fun _=>.skip (.br (fun _=>.skip (.br (fun h=>.skip (.done rfl ?_)) fun h=>.skip (.br (fun _=>.skip (.done rfl ?_)) fun h=>by cases h))) fun h=>by cases h))
  ·simp only[bne_iff_ne,ne_eq]at h;simp only[gt_iff_lt,decide_eq_true_eq];simp only[true_and,Int.lt_irrefl,false_or];omega
  ·simp only[bne_eq_false_iff_eq]at h;simp only[decide_eq_true_eq,a4,b4];simp only[true_and,Int.lt_irrefl,false_or];omega
structure RM(cs:List (aq×ak))(l:List az):Prop where
 tm:TM cs (l.map wm)
 EJ:(l.map dr).Pairwise (fun a b=>fe a b)
 nm:∀c∈l,Norm c
theorem RM.nil:RM [] []:=⟨TM.nil,List.Pairwise.nil,fun _ h=>(by cases h)⟩
theorem uZ(a:aq):¬fe a a:=by unfold fe;omega
theorem keys_eq(l:List az):(l.map wm).map (·.1)=l.map dr:=by rw[List.map_map];rfl
theorem MM{l:List az}(h:(l.map dr).Pairwise (fun a b=>fe a b)):((l.map wm).map (·.1)).Nodup:=by
 rw[keys_eq];exact h.imp fun {a b} hab he=>by subst he;exact uZ _ hab
theorem FH{l:List az}(h:(l.map dr).Pairwise (fun a b=>fe a b)){i j:Nat}(hi:i<l.length)(hj:j<l.length)(he:dr l[i]=dr l[j]):i=j:=by
 have hp:=List.pairwise_iff_getElem.1 h;rcases Nat.lt_trichotomy i j with hl |hl |hl
 ·have:=hp i j (by simpa using hi) (by simpa using hj) hl
  simp only[List.getElem_map]at this;rw[he]at this;exact absurd this (uZ _)
 ·exact hl
 ·have:=hp j i (by simpa using hj) (by simpa using hi) hl
  simp only[List.getElem_map]at this;rw[he]at this;exact absurd this (uZ _)
theorem RM.keep{cs:List (aq×ak)}{l:List az}(h:RM cs l){i:Nat}(hi:i<l.length){c:az}(he:dr l[i]=dr c)(hb:¬tO (xW c) (xW l[i])):RM (cs++[wm c]) l:=by
 have hm:(dr c,xW l[i])∈l.map wm:=List.mem_map.2 ⟨l[i],List.getElem_mem hi,by unfold wm;rw[he]⟩
 refine⟨⟨h.tm.nd,by have:=h.tm.len;rw[List.length_append];omega,fun p b hp=>?_,fun p b hp=>?_⟩,h.EJ,h.nm⟩
 ·rcases List.mem_append.1 hp with hp |hp
  ·exact h.tm.all p b hp
  ·simp only[List.mem_singleton]at hp;cases hp;exact⟨_,hm⟩
 ·obtain⟨h1,h2⟩:=h.tm.best p b hp;refine⟨List.mem_append_left _ h1,fun b' hb'=>?_⟩
  rcases List.mem_append.1 hb' with hb' |hb'
  ·exact h2 b' hb'
  ·simp only[List.mem_singleton]at hb';cases hb';obtain⟨d,hd,e⟩:=List.mem_map.1 hp;obtain⟨j,hj,rfl⟩:=List.getElem_of_mem hd;have e1:dr l[j]=dr c:=congrArg Prod.fst e;have e2:xW l[j]=b:=congrArg Prod.snd e;have:j=i:=FH h.EJ hj hi (e1.trans he.symm);subst this;rw[← e2];exact hb
theorem RM.put{cs:List (aq×ak)}{l l':List az}(h:RM cs l){c:az}(hc:Norm c)(hasc:(l'.map dr).Pairwise (fun a b=>fe a b))(hlen:l'.length≤l.length+1)
 (hmem:∀y,y∈l'↔y=c∨(y∈l∧dr y≠dr c)) (hb:∀y∈l,dr y=dr c→tO (xW c) (xW y)):RM (cs++[wm c]) l':=by
 have hmc:wm c∈l'.map wm:=List.mem_map.2 ⟨c,(hmem c).2 (.inl rfl),rfl⟩;refine⟨⟨MM hasc,by have:=h.tm.len;rw[List.length_map]at this ⊢;rw[List.length_append,List.length_singleton];omega,fun p b hp=>?_,fun p b hp=>?_⟩,hasc,fun y hy=>?_⟩
 ·rcases List.mem_append.1 hp with hp |hp
  ·by_cases e:p=dr c
   ·subst e;exact⟨_,hmc⟩
   ·obtain⟨b',hb'⟩:=h.tm.all p b hp;obtain⟨d,hd,e2⟩:=List.mem_map.1 hb';cases e2;exact⟨_,List.mem_map.2 ⟨d,(hmem d).2 (.inr ⟨hd,e⟩),rfl⟩⟩
  ·simp only[List.mem_singleton]at hp;cases hp;exact⟨_,hmc⟩
 ·obtain⟨d,hd,e⟩:=List.mem_map.1 hp;cases e;rcases(hmem d).1 hd with rfl |⟨hd1,hne⟩
  ·refine⟨List.mem_append_right _ (List.mem_singleton.2 rfl),fun b' hb'=>?_⟩
   rcases List.mem_append.1 hb' with hb' |hb'
   ·obtain⟨b2,h2⟩:=h.tm.all _ _ hb';obtain⟨y,hy,e⟩:=List.mem_map.1 h2;have e1:dr y=dr d:=congrArg Prod.fst e;have e2:xW y=b2:=congrArg Prod.snd e;intro hlt;exact(h.tm.best _ _ h2).2 b' hb' (Gp hlt (by rw[← e2];exact hb y hy e1))
   ·simp only[List.mem_singleton]at hb';cases hb';exact EF _
  ·obtain⟨h1,h2⟩:=h.tm.best _ _ (List.mem_map.2 ⟨d,hd1,rfl⟩);refine⟨List.mem_append_left _ h1,fun b' hb'=>?_⟩
   rcases List.mem_append.1 hb' with hb' |hb'
   ·exact h2 b' hb'
   ·simp only[List.mem_singleton]at hb';exact absurd (congrArg Prod.fst hb') hne
 ·rcases(hmem y).1 hy with rfl |⟨h1,_⟩
  ·exact hc
  ·exact h.nm y h1
theorem RM.set{cs:List (aq×ak)}{l:List az}(h:RM cs l){i:Nat}(hi:i<l.length){c:az}(hc:Norm c)(he:dr l[i]=dr c)(hb:tO (xW c) (xW l[i])):RM (cs++[wm c]) (l.set i c):=by
 refine h.put hc ?_ (by simp) (fun y=>?_) fun y hy e=>?_
 ·have:(l.set i c).map dr=l.map dr:=by
   rw[List.map_set,← he];apply List.ext_getElem (by simp)
   intro j h1 h2;rw[List.getElem_set];split
   ·rename_i e;subst e;simp
   ·rfl
  rw[this];exact h.EJ
 ·constructor
  ·intro hy;obtain⟨j,hj,rfl⟩:=List.getElem_of_mem hy;simp only[List.length_set]at hj;rw[List.getElem_set];split
   ·exact .inl rfl
   ·rename_i e;refine .inr ⟨List.getElem_mem hj,fun e2=>e ?_⟩
    exact(FH h.EJ hj hi (e2.trans he.symm)).symm
  ·rintro(rfl |⟨hy,hne⟩)
   ·exact List.mem_of_getElem (h:=by simpa using hi) (List.getElem_set_self ..)
   ·obtain⟨j,hj,rfl⟩:=List.getElem_of_mem hy;have hji:i≠j:=fun e=>hne (by subst e;exact he)
    have:(l.set i c)[j]'(by simpa using hj)=l[j]:=by rw[List.getElem_set];exact if_neg hji
    rw[← this];exact List.getElem_mem _
 ·obtain⟨j,hj,rfl⟩:=List.getElem_of_mem hy;have:j=i:=FH h.EJ hj hi (e.trans he.symm);subst this;exact hb
end Go.L
end
section
namespace Go.L
open Go.AM
theorem FI{a b c:aq}(h1:fe a b)(h2:fe b c):fe a c:=by unfold fe at*;omega
theorem DE{a b:aq}(h1:¬fe a b)(h2:a≠b):fe b a:=by
 unfold fe at*;by_cases e:a.bd=b.bd∧a.ip=b.ip
 ·exact absurd (by cases a;cases b;simp only at e;obtain⟨rfl,rfl⟩:=e;rfl) h2
 ·omega
theorem Pv{l:List aq}{p:aq}{k:Nat}(h:l.Pairwise (fun a b=>fe a b))(h1:∀y∈l.take k,fe y p)(h2:∀y∈l.drop k,fe p y):(l.take k++p::l.drop k).Pairwise (fun a b=>fe a b):=by
 rw[List.pairwise_append];refine⟨h.sublist (List.take_sublist _ _),List.pairwise_cons.2 ⟨h2,h.sublist (List.drop_sublist _ _)⟩,fun a ha b hb=>?_⟩
 rcases List.mem_cons.1 hb with rfl |hb
 ·exact h1 a ha
 ·exact FI (h1 a ha) (h2 b hb)
theorem RM.ins{cs:List (aq×ak)}{l:List az}(h:RM cs l){k:Nat}(hk:k≤l.length){c:az}(hc:Norm c)(h1:∀y∈l.take k,fe (dr y) (dr c))(h2:∀hk:k<l.length,fe (dr c) (dr l[k])):RM (cs++[wm c]) (l.take k++c::l.drop k):=by
 have h3:∀y∈l.drop k,fe (dr c) (dr y):=fun y hy=>by
  obtain⟨i,hi,rfl⟩:=List.getElem_of_mem hy;simp only[List.length_drop]at hi;rw[List.getElem_drop];by_cases h0:i=0
  ·subst h0;exact h2 (by omega)
  ·refine FI (h2 (by omega)) ?_
   have:=List.pairwise_iff_getElem.1 h.EJ k (k+i) (by simp;omega) (by simp;omega) (by omega)
   simpa only[List.getElem_map]using this
 have hne:∀y∈l,dr y≠dr c:=fun y hy e=>by
  rw[← List.take_append_drop k l]at hy;rcases List.mem_append.1 hy with hy |hy
  ·have:=h1 y hy;rw[e]at this;exact uZ _ this
  ·have:=h3 y hy;rw[e]at this;exact uZ _ this
 refine h.put hc ?_ ?_ (fun y=>?_) fun y hy e=>absurd e (hne y hy)
 ·rw[List.map_append,List.map_cons,List.map_take,List.map_drop];refine Pv h.EJ (fun y hy=>?_) fun y hy=>?_
  ·rw[← List.map_take]at hy;obtain⟨z,hz,rfl⟩:=List.mem_map.1 hy;exact h1 z hz
  ·rw[← List.map_drop]at hy;obtain⟨z,hz,rfl⟩:=List.mem_map.1 hy;exact h3 z hz
 ·simp;omega
 ·constructor
  ·intro hy;have hy2:y=c∨y∈l:=by
    rw[← List.take_append_drop k l,List.mem_append];rcases List.mem_append.1 hy with hy |hy
    ·exact .inr (.inl hy)
    ·rcases List.mem_cons.1 hy with hy |hy
     ·exact .inl hy
     ·exact .inr (.inr hy)
   exact hy2.imp_right fun hy=>⟨hy,hne y hy⟩
  ·rintro(rfl |⟨hy,_⟩)
   ·simp
   ·rw[← List.take_append_drop k l,List.mem_append]at hy;rw[List.mem_append,List.mem_cons];exact hy.imp_right .inr
theorem Jw{l:List aq}(h:l.Pairwise (fun a b=>fe a b)):eG l=l:=by
 have hs:=k6 l;refine List.Perm.eq_of_pairwise (le:=fun a b=>¬fe b a) (fun a b ha hb h1 h2=>?_) hs.2 ?_ hs.1
 ·by_cases e:a=b
  ·exact e
  ·exact absurd (DE h2 e) h1
 ·exact h.imp fun {a b} hab hba=>uZ _ (FI hab hba)
theorem Of{cs cs' m:List (aq×ak)}{l:List az}(hm:TM cs m)(hl:RM cs' l)(hs:∀x,x∈cs↔x∈cs'):(eG (m.map (·.1))).map (oJ m)=l.map (·.k):=by
 have hn:=MM hl.EJ;rw[Ln hm.nd hn (hm.same hl.tm hs),keys_eq,Jw hl.EJ,List.map_map];refine List.map_congr_left fun c hc=>?_
 show oJ (l.map wm) (dr c)=c.k;unfold oJ;have:Hj (l.map wm) (dr c)=c.k.bN:=BU (b:=xW c) hn (List.mem_map.2 ⟨c,hc,rfl⟩);rw[this];rfl
end Go.L
end
section
namespace Go.L
open Go.AM
theorem RM.le{cs:List (aq×ak)}{l:List az}(h:RM cs l):l.length≤cs.length:=by
 have:=h.tm.len;rwa[List.length_map]at this
theorem Rl{L:List az}{k:Nat}(h:k≤L.length):(y4 L.length 8 1 0 0 (k:Int)).run=some k:=by
 show(if _ then _ else _)=_
 rw[if_pos ⟨by omega,by omega⟩,Int.toNat_natCast]
theorem Rm{L:List az}{k:Nat}(h0:0<k)(h:k<L.length):(y6 L.length 8 1 0 0 (k:Int)).run=some k:=by
 show(if _ then _ else _)=_
 rw[if_pos ⟨by omega,by omega⟩,Int.toNat_natCast]
theorem O4(c:az){L:List az}{o m:Nat}(h:o+m≤L.length)(hb:L.length≤2510):(oP 1 [c] L 1 0 o m af 8 56 4 0 5).run=some ():=if_pos ⟨⟨rfl,h⟩,by simp[roomy];omega⟩
theorem O5{L X:List az}{k:Nat}(h:k≤L.length)(hX:X.length≤2600)(hb:L.length≤2510):(oQ k L X 4 1 0 X.length af 8 56 1 0 6).run=some ():=if_pos ⟨⟨h,by omega⟩,by simp[roomy];omega⟩
theorem QI(n:Nat)(hn:5000≤n)(f:aD)(hv:Vf f)(T:Int)(hval:At (ov.S n f) (fun(b:Bool)=>b=true)):At (xS.S n (f,T)) (fun(r:Int×Bool)=>(r.2=true→0≤r.1∧r.1<(f.aI.length:Int)∧kT f r.1=T)∧(r.2=false→∀b:Int,0≤b→b<(f.aI.length:Int)→kT f b≠T)):=by
 have hb:=hv.nE;have tg:∀i:Nat,(h:i<f.aI.length)→(f.aI[i]).Target=kT f (i:Int):=fun i h=>by
  unfold kT;rw[bg,List.getElem?_eq_getElem h];rfl
 refine(?_ :cO n (sj f T) _);unfold sj;refine .skip (.loop (fun a:Int=>∃i:Nat,a=(i:Int)∧i≤f.aI.length∧∀j:Nat,j<i→kT f (j:Int)≠T) (fun a=>f.aI.length - a.toNat) (Sum.elim (fun(t:Int)=>0≤t∧t<(f.aI.length:Int)∧kT f t=T) fun _=>∀b:Int,0≤b→b<(f.aI.length:Int)→kT f b≠T) rfl ⟨0,rfl,Nat.zero_le _,fun j h=>by omega⟩ (by simp;omega) (fun a ha=>?_) (fun t ht=>?_))
 ·obtain⟨i,rfl,i1,i2⟩:=ha;refine .skip (.call _ hval fun(r:Bool) hrv=>.skip (.br (fun _=>.skip (.op () rfl (.skip (.br (fun h=>?_) fun h=>.skip (.done rfl ?_))))) fun h=>by rw[hrv]at h;cases h))
  ·simp only[decide_eq_true_eq]at h;have hi:i<f.aI.length:=by omega
   have hx:ez f.aI (i:Int)=some f.aI[i]:=by rw[bg,List.getElem?_eq_getElem hi]
   refine .skip (.op _ hx (.skip (.br (fun q=>.skip (.done rfl ⟨by omega,by omega,?_⟩)) fun q=>.skip (.done rfl ?_))))
   ·rw[← tg i hi];exact eq_of_beq q
   ·show(∃j:Nat,IntKind.wrap .i64 ((i:Int)+1)=(j:Int)∧j≤f.aI.length∧∀m:Nat,m<j→kT f (m:Int)≠T)∧f.aI.length - (IntKind.wrap .i64 ((i:Int)+1)).toNat<f.aI.length - (i:Int).toNat;rw[bR (by omega)]
    refine⟨⟨i+1,rfl,by omega,fun m hm=>?_⟩,by simp only[Int.toNat_natCast];omega⟩
    by_cases e:m=i
    ·subst e;rw[← tg m hi];simpa using q
    ·exact i2 m (by omega)
  ·simp only[decide_eq_false_iff_not]at h;intro b b0 b1;have:=i2 b.toNat (by omega)
   rwa[show((b.toNat:Nat):Int)=b by omega]at this
 ·cases t with
  |inl t=>exact .done rfl ⟨fun _=>ht,fun h=>(by cases h)⟩
  |inr t=>exact .skip (.done rfl ⟨fun h=>(by cases h),fun _=>ht⟩)
theorem PA(n:Nat)(hn:5000≤n)(f:aD)(hv:Vf f)(leaf:Int)(i:Nat)(hi:i<f.au.length)(bd:Int):At (nV.S n (f,leaf,(i:Int),bd)) (fun(b:Bool)=>b=true↔bd∈jk leaf f.au[i]):=by
 refine(M8 n hn f hv leaf {BD:=bd,aH:=(i:Int),bN:=0,IP:=0,qm:=true,Time:=0}).mono fun b hb=>?_
 rw[hb];unfold BV jk;simp only[bg,List.getElem?_eq_getElem hi,Bool.and_eq_true,decide_eq_true_eq];split<;>rename_i h<;>simp[h]
theorem QJ(n:Nat)(hn:5000≤n)(f:aD)(hv:Vf f)(leaf bd:Int):At (yE.S n (f,leaf,bd)) (fun(c:Bool)=>c=true↔bd∈f.au.flatMap (jk leaf)):=by
 have hs:=hv.segments;refine(?_ :cO n (tX f leaf bd) _);unfold tX;refine .skip (.loop (fun a:Int=>∃i:Nat,a=(i:Int)∧i≤f.au.length∧∀s∈f.au.take i,bd∉jk leaf s) (fun a=>f.au.length - a.toNat) (Sum.elim (fun _=>bd∈f.au.flatMap (jk leaf)) fun _=>bd∉f.au.flatMap (jk leaf)) rfl ⟨0,rfl,Nat.zero_le _,fun j h=>by simp at h⟩ (by simp;omega) (fun a ha=>?_) (fun t ht=>?_))
 ·obtain⟨i,rfl,i1,i2⟩:=ha;refine .skip (.op () rfl (.skip (.br (fun h=>?_) fun h=>.skip (.done rfl ?_))))
  ·simp only[decide_eq_true_eq]at h;have hi:i<f.au.length:=by omega
   refine .skip (.call _ (PA n hn f hv leaf i hi bd) fun(r:Bool) hrb=>.br (fun q=>.skip (.done rfl ?_)) fun q=>.skip (.done rfl ?_))
   ·exact List.mem_flatMap.2 ⟨_,List.getElem_mem hi,hrb.1 q⟩
   ·show(∃j:Nat,IntKind.wrap .i64 ((i:Int)+1)=(j:Int)∧j≤f.au.length∧∀s∈f.au.take j,bd∉jk leaf s)∧f.au.length - (IntKind.wrap .i64 ((i:Int)+1)).toNat<f.au.length - (i:Int).toNat;rw[bR (by omega)]
    refine⟨⟨i+1,rfl,by omega,fun s hs=>?_⟩,by simp only[Int.toNat_natCast];omega⟩
    rw[List.take_add_one,List.getElem?_eq_getElem hi]at hs;rcases List.mem_append.1 hs with hs |hs
    ·exact i2 s hs
    ·simp only[Option.toList_some,List.mem_singleton]at hs;subst hs;intro w;rw[hrb.2 w]at q;cases q
  ·simp only[decide_eq_false_iff_not]at h;have:i=f.au.length:=by omega
   subst this;rw[List.take_length]at i2;intro w;obtain⟨s,s1,s2⟩:=List.mem_flatMap.1 w;exact i2 s s1 s2
 ·cases t with
  |inl t=>exact .done rfl ⟨fun _=>ht,fun _=>rfl⟩
  |inr t=>exact .skip (.done rfl ⟨fun h=>(by cases h),fun h=>absurd h ht⟩)
theorem M9(f:aD)(hv:Vf f)(leaf T:Int)(mm:List (Int×Int))(hmm:CM (kT f) (f.au.flatMap (jk leaf)) mm)(q:Int×Bool)(r:bt)(s:Int)
 (hq:(q.2=true→0≤q.1∧q.1<(f.aI.length:Int)∧kT f q.1=T)∧(q.2=false→∀b:Int,0≤b→b<(f.aI.length:Int)→kT f b≠T)):
 gV mm r s T=if q.2=true∧q.1∈f.au.flatMap (jk leaf)then[(⟨q.1,r.N.IP⟩,CH r s)]else[]:=by
 have hrg:∀c∈f.au.flatMap (jk leaf),0≤c∧c<(f.aI.length:Int):=fun c hc=>by
  obtain⟨t,ht,hc⟩:=List.mem_flatMap.1 hc;unfold jk at hc;split at hc
  ·exact(hv.seg t ht).2.2.2.1 c hc
  ·cases hc
 unfold gV;split
 ·rename_i hf;split
  ·rename_i hc;obtain⟨_,_,h3⟩:=hq.1 hc.1;obtain⟨i,hi⟩:=hmm.find hc.2 (QH f hv leaf _ hc.2);rw[h3,hf]at hi;cases hi
  ·rfl
 ·rename_i x hf;obtain⟨i,b⟩:=x;obtain⟨_,h2⟩:=sK Gq mm 0 i b hf;obtain⟨h3,h4⟩:=hmm.sub _ _ (List.mem_of_getElem? h2);obtain⟨w1,w2⟩:=hrg b h3;cases hq2:q.2 with
  |false=>exact absurd h4 (hq.2 hq2 b w1 w2)
  |true=>
   obtain⟨g1,g2,g3⟩:=hq.1 hq2;have e:b=q.1:=by
    rw[← g3,E2 f hv b w1 w2,E2 f hv q.1 g1 g2]at h4;omega
   subst e;rw[if_pos ⟨rfl,h3⟩]
theorem JI(n:Nat)(hn:5000≤n)(f:aD)(hv:Vf f)(leaf:Int)(h0:0≤leaf)(h1:leaf<f.Leaves)(ns:List jh)(rs:List bt)(hns:ns.length≤30)(hr:LR rs)(mm:List (Int×Int))
 (hmm:CM (kT f) (f.au.flatMap (jk leaf)) mm) (hval2:At (ov.S n f) (fun(b:Bool)=>b=true)) (hmob:∀r∈rs,At (l9.S n r.A.fh) (fun(q:Bool×Int×Bool)=>q.2.1=fD n r)) (htg:∀r∈rs,At (oV.S n r.A.fh) (fun(q:List Int)=>q=gA r))
 (hval:At (vW.S n f) (fun(b:Bool)=>b=true)) (hlo:At (sg.S n (f,leaf)) (fun(r:Int)=>r=184483841+leaf)):
 At (vX.S n (f,leaf,ns,rs)) (fun(out:List Known)=>∃l,RM (tP f leaf (184483841+leaf) (fD n) gA ns rs mm) l∧out=l.map (·.k)):=by
 refine(?_ :cO n (ow f leaf ns rs) _);unfold ow;refine .skip (.call _ hval fun(r5:Bool) h5=>.skip (.br (fun h=>by rw[h5]at h;cases h) fun _=>.skip (.br (fun h=>by simp only[decide_eq_true_eq]at h;omega) fun _=>.skip (.br (fun h=>by simp only[decide_eq_true_eq,ge_iff_le]at h;omega) fun _=>.skip ?_))))
 refine .loop (fun(a:Int×List az×Nat)=>∃i:Nat,a.1=(i:Int)∧i≤ns.length∧RM ((ns.take i).flatMap (fq f leaf)) a.2.1∧a.2.2=a.2.1.length) (fun a=>ns.length - a.1.toNat) (fun(t:List az×Nat)=>RM (ns.flatMap (fq f leaf)) t.1∧t.2=t.1.length) rfl ⟨0,rfl,Nat.zero_le _,RM.nil,rfl⟩ (by simp;omega) (fun a ha=>?_) (fun t ht=>?_)
 ·obtain⟨ai,L,ln⟩:=a;obtain⟨i,e1,i1,hR,e2⟩:=ha;simp only at e1 e2 hR;subst e1;subst e2;refine .skip (.op () rfl (.skip (.br (fun h=>?_) fun h=>.skip (.done rfl ?_))))
  ·simp only[decide_eq_true_eq]at h;have hi:i<ns.length:=by omega
   have hx:ez ns (i:Int)=some ns[i]:=by rw[bg,List.getElem?_eq_getElem hi]
   have hL:L.length≤30:=by
    have q1:=hR.le;have q2:=nW (fq f leaf) 1 (ns.take i) fun x _=>by
     unfold fq
     repeat' split
     all_goals simp
    simp only[List.length_take]at q2;omega
   have nx:∀(L':List az) (len':Nat),RM ((ns.take i).flatMap (fq f leaf)++fq f leaf ns[i]) L'→len'=L'.length→(∃j:Nat,IntKind.wrap .i64 ((i:Int)+1)=(j:Int)∧j≤ns.length∧RM ((ns.take j).flatMap (fq f leaf)) L'∧len'=L'.length)∧ns.length - (IntKind.wrap .i64 ((i:Int)+1)).toNat<ns.length - (i:Int).toNat:=fun L' len' q1 q2=>by
    rw[bR (by omega)]
    refine⟨⟨i+1,rfl,by omega,?_,q2⟩,by simp only[Int.toNat_natCast];omega⟩
    rw[List.take_add_one,List.getElem?_eq_getElem hi,List.flatMap_append];simpa using q1
   generalize ns[i]=x at hx nx;have no:fq f leaf x=[]→(∃j:Nat,IntKind.wrap .i64 ((i:Int)+1)=(j:Int)∧j≤ns.length∧RM ((ns.take j).flatMap (fq f leaf)) L∧L.length=L.length)∧ns.length - (IntKind.wrap .i64 ((i:Int)+1)).toNat<ns.length - (i:Int).toNat:=fun e=>nx L L.length (by rw[e,List.append_nil];exact hR) rfl
   refine .skip (.op x hx (.skip (.br (fun q1=>.skip (.call _ (M8 n hn f hv leaf x) fun(at_:Bool) hat=>.skip (.br (fun q2=>.skip ?_) fun q2=>.skip (.done rfl (no ?_))))) fun q1=>.skip (.done rfl (no ?_)))))
   ·have hcn:fq f leaf x=[wm (cN x)]:=by
     rw[hat]at q2;unfold BV at q2;unfold fq;rw[q1];cases hs:ez f.au x.aH with
     |none=>rw[hs]at q2;cases q2
     |some s=>rw[hs]at q2;simp only at q2;simp only[q2];rfl
    have hC:Norm (cN x):=⟨fun _=>⟨rfl,rfl,rfl⟩,fun h=>by cases h⟩
    have fin:∀(L':List az) (len':Nat),RM ((ns.take i).flatMap (fq f leaf)++[wm (cN x)]) L'→len'=L'.length→_:=fun L' len' q1 q2=>nx L' len' (by rw[hcn];exact q1) q2
    refine .inl (.skip (.loop (fun b:Int=>∃k:Nat,b=(k:Int)∧k≤L.length∧∀y∈List.take k L,fe (dr y) (dr (cN x))) (fun b=>L.length - b.toNat) (fun(t:Int)=>∃k:Nat,t=(k:Int)∧k≤L.length∧(∀y∈List.take k L,fe (dr y) (dr (cN x)))∧∀hk:k<L.length,¬fe (dr L[k]) (dr (cN x))) rfl ⟨0,rfl,Nat.zero_le _,fun y h=>by simp at h⟩ (by simp;omega) (fun b hb=>?_) (fun t ht=>?_)))
    ·obtain⟨k,rfl,k1,k2⟩:=hb;refine .skip (.br (fun h=>?_) fun h=>.skip (.done rfl ⟨k,rfl,k1,k2,fun hk=>?_⟩))
     ·simp only[decide_eq_true_eq]at h;have hk:k<L.length:=by omega
      have hx:L[(k:Int).toNat]? =some L[k]:=by rw[Int.toNat_natCast];exact List.getElem?_eq_getElem hk
      have hi:(ic L.length 8 1 0 (k:Int)).run=some ():=if_pos ⟨by omega,by omega⟩
      have nx:fe (dr L[k]) (dr (cN x))→(∃j:Nat,IntKind.wrap .i64 ((k:Int)+1)=(j:Int)∧j≤L.length∧∀y∈List.take j L,fe (dr y) (dr (cN x)))∧L.length - (IntKind.wrap .i64 ((k:Int)+1)).toNat<L.length - (k:Int).toNat:=fun hlt=>by
       rw[bR (by omega)]
       refine⟨⟨k+1,rfl,by omega,fun y hy=>?_⟩,by simp only[Int.toNat_natCast];omega⟩
       rw[List.take_add_one,List.getElem?_eq_getElem hk]at hy;rcases List.mem_append.1 hy with hy |hy
       ·exact k2 y hy
       ·simp only[Option.toList_some,List.mem_singleton]at hy;subst hy;exact hlt
      refine .skip (.op () hi (.skip (.op _ hx (.skip (.br (fun q1=>.skip (.done rfl (nx (.inl (of_decide_eq_true q1))))) fun q1=>.skip (.op () hi (.skip (.op _ hx (.skip (.br (fun q2=>.skip (.op () hi (.skip (.op _ hx (.skip (.br (fun q3=>.skip (.done rfl (nx (.inr ⟨eq_of_beq q2,of_decide_eq_true q3⟩)))) fun q3=>.skip (.done rfl ⟨k,rfl,k1,k2,fun _=>?_⟩))))))) fun q2=>.skip (.done rfl ⟨k,rfl,k1,k2,fun _=>?_⟩)))))))))))
      ·simp only[decide_eq_false_iff_not]at q1 q3;rintro(w |w)
       ·exact q1 w
       ·exact q3 w.2
      ·simp only[decide_eq_false_iff_not]at q1;simp only[beq_eq_false_iff_ne,ne_eq]at q2;rintro(w |w)
       ·exact q1 w
       ·exact q2 w.1
     ·simp only[decide_eq_false_iff_not]at h;omega
    obtain⟨k,rfl,k1,k2,k3⟩:=ht;refine .skip (.br (fun h=> ?A) fun h=>.skip ?ins1)
    case' A=>
     simp only[decide_eq_true_eq]at h;have hk:k<L.length:=by omega
     have hx:L[(k:Int).toNat]? =some L[k]:=by rw[Int.toNat_natCast];exact List.getElem?_eq_getElem hk
     have hi:(ic L.length 8 1 0 (k:Int)).run=some ():=if_pos ⟨by omega,by omega⟩
     refine .skip (.op () hi (.skip (.op _ hx (.skip (.br (fun q1=>.skip (.op () hi (.skip (.op _ hx (.skip (.br (fun q2=> ?same) fun q2=>.skip ?ins2)))))) fun q1=>.skip ?ins3)))))
    case same=>
     have he:dr L[k]=dr (cN x):=by
      unfold dr;rw[show L[k].k.BD=_ by simpa using q1,show L[k].k.IP=_ by simpa using q2]
     refine .skip (.op () hi (.op _ hx (.call _ (Gr n (cN x) L[k] hC (hR.nm _ (List.getElem_mem hk))) fun(r:Bool) hrb=>?_)))
     refine .br (fun q3=>?_) fun q3=>?_
     ·refine .skip (.op () hi (.op _ hx (.skip (.tidy rfl (.inl (.skip (.done rfl (fin _ _ ?_ ?_))))))))
      ·rw[Int.toNat_natCast];exact hR.set hk hC he (hrb.1 q3)
      ·rw[List.length_set]
     ·refine .skip (.tidy rfl (.inl (.skip (.done rfl (fin _ _ (hR.keep hk he fun hlt=>?_) rfl)))))
      rw[hrb.2 hlt]at q3;cases q3
    case' ins1=>
     have hne:∀hk:k<L.length,dr L[k]≠dr (cN x):=fun hk=>by simp only[decide_eq_false_iff_not]at h;omega
    case' ins2=>
     have hne:∀hk:k<L.length,dr L[k]≠dr (cN x):=fun hk e=>by
      have e2:=congrArg aq.ip e;simp only[beq_eq_false_iff_ne,ne_eq]at q2;exact q2 e2
    case' ins3=>
     have hne:∀hk:k<L.length,dr L[k]≠dr (cN x):=fun hk e=>by
      have e2:=congrArg aq.bd e;simp only[beq_eq_false_iff_ne,ne_eq]at q1;exact q1 e2
    all_goals
     have hins:=hR.ins k1 hC k2 fun hk=>DE (k3 hk) (hne hk)
     have hd:List.take (L.length - k) (List.drop k L)=List.drop k L:=List.take_of_length_le (by simp)
     refine .op k (Rl k1) (.skip (.sp (fun z1=>?_) fun z1=>.sp (fun z2=>?_) fun z2=>?_))
     ·have z1:(k:Int)=0:=of_decide_eq_true z1;have:k=0:=by omega
      subst this;have sZ:(xd L.length 8 1 0 0 ((0:Nat):Int)).run=some ():=by
       show(if((0:Nat):Int)=0 then some ()else none)=some ()
       exact if_pos (by simp)
      have aE:=O4 (cN x) (L:=L) (o:=0) (m:=L.length) (by omega) (by omega)
      have aF:=O5 (L:=L) (k:=0) (X:=bQ (cN x) L 0 L.length) (by omega) (by simp[bQ];omega) (by omega)
      refine .op () sZ (.op () aE (.op () aF (.skip (.tidy rfl (.inl (.skip (.done rfl (fin _ _ ?_ rfl))))))));have e:cW 0 L (bQ (cN x) L 0 L.length)=List.take 0 L++(cN x)::List.drop 0 L:=by simp[cW,bQ]
      rw[← e]at hins;exact hins
     ·have z1:¬(k:Int)=0:=of_decide_eq_false z1;have z2:(k:Int)<(L.length:Int):=of_decide_eq_true z2;have sL:=Rm (L:=L) (k:=k) (by omega) (by omega)
      have aE:=O4 (cN x) (L:=L) (o:=0+k) (m:=L.length - k) (by omega) (by omega)
      have aF:=O5 (L:=L) (k:=k) (X:=bQ (cN x) L (0+k) (L.length - k)) (by omega) (by simp[bQ];omega) (by omega)
      refine .op k sL (.op () aE (.op () aF (.skip (.tidy rfl (.inl (.skip (.done rfl (fin _ _ ?_ rfl))))))));have e:cW k L (bQ (cN x) L (0+k) (L.length - k))=List.take k L++(cN x)::List.drop k L:=by simp[cW,bQ,hd]
      rw[← e]at hins;exact hins
     ·have z1:¬(k:Int)=0:=of_decide_eq_false z1;have z2:¬(k:Int)<(L.length:Int):=of_decide_eq_false z2;have e:k=L.length:=by omega
      have sE:(xe L.length 8 1 0 0 (k:Int)).run=some ():=if_pos ⟨by omega,by omega⟩
      have aS:(w9 k L [(cN x)] af 8 56 1 0 6 [4]).run=some ():=if_pos ⟨by omega,by simp[roomy];omega⟩
      refine .op () sE (.skip (.op () aS (.skip (.tidy rfl (.inl (.skip (.done rfl (fin _ _ ?_ rfl))))))));rw[e,List.drop_length]at hins;rw[e];exact hins
   ·rw[hat]at q2;unfold BV at q2;unfold fq;cases hs:ez f.au x.aH with
    |none=>simp
    |some s=>rw[hs]at q2;simp only at q2;simp only[q2];simp
   ·unfold fq;rw[q1];rfl
  ·simp only[decide_eq_false_iff_not]at h;have:i=ns.length:=by omega
   subst this;rw[List.take_length]at hR;exact⟨hR,rfl⟩
 ·obtain⟨L0,n0⟩:=t;obtain⟨hR0,e0⟩:=ht;simp only at hR0 e0;have hrl:=hr.1;refine .skip (.call _ hlo fun(r62:Int) h62=>?_)
  subst h62;have tl:∀x∈rs,(gA x).length≤80:=fun x h=>Nat.le_trans (FN x) (hr.2 x h)
  have cl:∀x∈rs,(fm mm (184483841+leaf) (fD n) gA x).length≤80:=fun x h=>by
   unfold fm;split
   ·simp
   split
   ·simp
   split
   ·simp
   have h3:=nW (gV mm x (fD n x)) 1 (gA x) fun T _=>by unfold gV;split<;>simp
   have:=tl x h;omega
  refine .skip (.loop (fun(a:Int×List az×Nat)=>∃i:Nat,a.1=(i:Int)∧i≤rs.length∧RM (ns.flatMap (fq f leaf)++(rs.take i).flatMap (fm mm (184483841+leaf) (fD n) gA)) a.2.1∧a.2.2=a.2.1.length) (fun a=>rs.length - a.1.toNat) (fun(t:List az×Nat)=>RM (tP f leaf (184483841+leaf) (fD n) gA ns rs mm) t.1∧t.2=t.1.length) rfl ⟨0,rfl,Nat.zero_le _,by simpa using hR0,e0⟩ (by simp;omega) (fun a ha=>?_) (fun t ht=>?_))
  ·obtain⟨ai,L1,ln⟩:=a;obtain⟨i,e1,i1,hR1,e2⟩:=ha;simp only at e1 e2 hR1;subst e1;subst e2;refine .skip (.op () rfl (.skip (.br (fun h=>?_) fun h=>.skip (.done rfl ?_))))
   ·simp only[decide_eq_true_eq]at h;have hi:i<rs.length:=by omega
    have hx:ez rs (i:Int)=some rs[i]:=by rw[bg,List.getElem?_eq_getElem hi]
    have hxm:=List.getElem_mem hi;have nx:∀(L':List az) (len':Nat),RM ((ns.flatMap (fq f leaf)++(rs.take i).flatMap (fm mm (184483841+leaf) (fD n) gA))++fm mm (184483841+leaf) (fD n) gA rs[i]) L'→len'=L'.length→(∃j:Nat,IntKind.wrap .i64 ((i:Int)+1)=(j:Int)∧j≤rs.length∧RM (ns.flatMap (fq f leaf)++(rs.take j).flatMap (fm mm (184483841+leaf) (fD n) gA)) L'∧len'=L'.length)∧rs.length - (IntKind.wrap .i64 ((i:Int)+1)).toNat<rs.length - (i:Int).toNat:=fun L' len' q1 q2=>by
     rw[bR (by omega)]
     refine⟨⟨i+1,rfl,by omega,?_,q2⟩,by simp only[Int.toNat_natCast];omega⟩
     rw[List.take_add_one,List.getElem?_eq_getElem hi,List.flatMap_append,← List.append_assoc];simpa using q1
    have pl:(ns.flatMap (fq f leaf)++(rs.take i).flatMap (fm mm (184483841+leaf) (fD n) gA)).length≤2430:=by
     rw[List.length_append];have q1:=nW (fq f leaf) 1 ns fun x _=>by
      unfold fq
      repeat' split
      all_goals simp
     have q2:=nW (fm mm (184483841+leaf) (fD n) gA) 80 (rs.take i) fun x h=>cl x (List.mem_of_mem_take h)
     simp only[List.length_take]at q2;omega
    generalize ns.flatMap (fq f leaf)++(rs.take i).flatMap (fm mm (184483841+leaf) (fD n) gA)=P at hR1 nx pl;generalize rs[i]=x at hx nx hxm;have no:fm mm (184483841+leaf) (fD n) gA x=[]→(∃j:Nat,IntKind.wrap .i64 ((i:Int)+1)=(j:Int)∧j≤rs.length∧RM (ns.flatMap (fq f leaf)++(rs.take j).flatMap (fm mm (184483841+leaf) (fD n) gA)) L1∧L1.length=L1.length)∧rs.length - (IntKind.wrap .i64 ((i:Int)+1)).toNat<rs.length - (i:Int).toNat:=fun e=>nx L1 L1.length (by rw[e,List.append_nil];exact hR1) rfl
    refine .skip (.op x hx (.skip (.br (fun q1=>.skip (.done rfl (no ?_))) fun q1=>.skip (.br (fun q2=>.skip (.done rfl (no ?_))) fun q2=>.skip (.br (fun q3=>.skip (.done rfl (no ?_))) fun q3=>.skip (.call _ (hmob x hxm) fun(r244:Bool×Int×Bool) h244=>.skip (.call _ (htg x hxm) fun(r245:List Int) h245=>.skip ?_)))))))
    ·unfold fm;rw[if_pos q1]
    ·unfold fm;rw[if_neg (by rw[q1];decide),if_pos q2]
    ·unfold fm;rw[if_neg (by rw[q1];decide),if_neg (by rw[q2];decide),if_pos q3]
    have hcr:fm mm (184483841+leaf) (fD n) gA x=(gA x).flatMap (gV mm x (fD n x)):=by unfold fm;rw[if_neg (by rw[q1];decide),if_neg (by rw[q2];decide),if_neg (by rw[q3];decide)]
    rw[hcr]at nx;obtain⟨b244,s244,c244⟩:=r244;simp only at h244;subst h244;subst h245;have tlx:=tl x hxm;refine .loop (fun(a:Int×List az×Nat)=>∃m:Nat,a.1=(m:Int)∧m≤(gA x).length∧RM (P++((gA x).take m).flatMap (gV mm x (fD n x))) a.2.1∧a.2.2=a.2.1.length) (fun a=>(gA x).length - a.1.toNat) (fun(t:List az×Nat)=>RM (P++(gA x).flatMap (gV mm x (fD n x))) t.1∧t.2=t.1.length) rfl ⟨0,rfl,Nat.zero_le _,by simpa using hR1,rfl⟩ (by simp;omega) (fun a ha=>?_) (fun t ht=>.skip (.done rfl (nx t.1 t.2 ht.1 ht.2)))
    obtain⟨ai,L,ln⟩:=a;obtain⟨m,e1,m1,hR,e2⟩:=ha;simp only at e1 e2 hR;subst e1;subst e2;refine .skip (.op () rfl (.skip (.br (fun h=>?_) fun h=>.skip (.done rfl ?_))))
    ·simp only[decide_eq_true_eq]at h;have hm:m<(gA x).length:=by omega
     have hT:ez (gA x) (m:Int)=some (gA x)[m]:=by rw[bg,List.getElem?_eq_getElem hm]
     have hL:L.length≤2510:=by
      have q1:=hR.le;rw[List.length_append]at q1;have q2:=nW (gV mm x (fD n x)) 1 ((gA x).take m) fun T _=>by unfold gV;split<;>simp
      simp only[List.length_take]at q2;omega
     have nx2:∀(L':List az) (len':Nat),RM ((P++((gA x).take m).flatMap (gV mm x (fD n x)))++gV mm x (fD n x) (gA x)[m]) L'→len'=L'.length→(∃j:Nat,IntKind.wrap .i64 ((m:Int)+1)=(j:Int)∧j≤(gA x).length∧RM (P++((gA x).take j).flatMap (gV mm x (fD n x))) L'∧len'=L'.length)∧(gA x).length - (IntKind.wrap .i64 ((m:Int)+1)).toNat<(gA x).length - (m:Int).toNat:=fun L' len' q1 q2=>by
      rw[bR (by omega)]
      refine⟨⟨m+1,rfl,by omega,?_,q2⟩,by simp only[Int.toNat_natCast];omega⟩
      rw[List.take_add_one,List.getElem?_eq_getElem hm,List.flatMap_append,← List.append_assoc];simpa using q1
     generalize (gA x)[m]=T at hT nx2;refine .skip (.op T hT (.skip (.call _ (QI n hn f hv T hval2) fun(q:Int×Bool) hq=>?_)))
     have hcT:=M9 f hv leaf T mm hmm q x (fD n x) hq;have no2:¬(q.2=true∧q.1∈f.au.flatMap (jk leaf))→(∃j:Nat,IntKind.wrap .i64 ((m:Int)+1)=(j:Int)∧j≤(gA x).length∧RM (P++((gA x).take j).flatMap (gV mm x (fD n x))) L∧L.length=L.length)∧(gA x).length - (IntKind.wrap .i64 ((m:Int)+1)).toNat<(gA x).length - (m:Int).toNat:=fun e=>nx2 L L.length (by rw[hcT,if_neg e,List.append_nil];exact hR) rfl
     refine .skip (.br (fun z1=>.skip (.call _ (QJ n hn f hv leaf q.1) fun(c:Bool) hc=>.skip (.br (fun z2=>.skip ?_) fun z2=>.skip (.done rfl (no2 fun w=>by rw[hc.2 w.2]at z2;cases z2))))) fun z1=>.skip (.done rfl (no2 fun w=>by rw[w.1]at z1;cases z1)))
     have hC:Norm (cR x q.1 (fD n x)):=⟨fun h=>(by cases h),fun _=>rfl⟩
     have fin:∀(L':List az) (len':Nat),RM (P++((gA x).take m).flatMap (gV mm x (fD n x))++[wm (cR x q.1 (fD n x))]) L'→len'=L'.length→_:=fun L' len' q1 q2=>nx2 L' len' (by rw[hcT,if_pos ⟨z1,hc.1 z2⟩];exact q1) q2
     refine .inl (.skip (.loop (fun b:Int=>∃k:Nat,b=(k:Int)∧k≤L.length∧∀y∈List.take k L,fe (dr y) (dr (cR x q.1 (fD n x)))) (fun b=>L.length - b.toNat) (fun(t:Int)=>∃k:Nat,t=(k:Int)∧k≤L.length∧(∀y∈List.take k L,fe (dr y) (dr (cR x q.1 (fD n x))))∧∀hk:k<L.length,¬fe (dr L[k]) (dr (cR x q.1 (fD n x)))) rfl ⟨0,rfl,Nat.zero_le _,fun y h=>by simp at h⟩ (by simp;omega) (fun b hb=>?_) (fun t ht=>?_)))
     ·obtain⟨k,rfl,k1,k2⟩:=hb;refine .skip (.br (fun h=>?_) fun h=>.skip (.done rfl ⟨k,rfl,k1,k2,fun hk=>?_⟩))
      ·simp only[decide_eq_true_eq]at h;have hk:k<L.length:=by omega
       have hx:L[(k:Int).toNat]? =some L[k]:=by rw[Int.toNat_natCast];exact List.getElem?_eq_getElem hk
       have hi:(ic L.length 8 1 0 (k:Int)).run=some ():=if_pos ⟨by omega,by omega⟩
       have nx:fe (dr L[k]) (dr (cR x q.1 (fD n x)))→(∃j:Nat,IntKind.wrap .i64 ((k:Int)+1)=(j:Int)∧j≤L.length∧∀y∈List.take j L,fe (dr y) (dr (cR x q.1 (fD n x))))∧L.length - (IntKind.wrap .i64 ((k:Int)+1)).toNat<L.length - (k:Int).toNat:=fun hlt=>by
        rw[bR (by omega)]
        refine⟨⟨k+1,rfl,by omega,fun y hy=>?_⟩,by simp only[Int.toNat_natCast];omega⟩
        rw[List.take_add_one,List.getElem?_eq_getElem hk]at hy;rcases List.mem_append.1 hy with hy |hy
        ·exact k2 y hy
        ·simp only[Option.toList_some,List.mem_singleton]at hy;subst hy;exact hlt
       refine .skip (.op () hi (.skip (.op _ hx (.skip (.br (fun q1=>.skip (.done rfl (nx (.inl (of_decide_eq_true q1))))) fun q1=>.skip (.op () hi (.skip (.op _ hx (.skip (.br (fun q2=>.skip (.op () hi (.skip (.op _ hx (.skip (.br (fun q3=>.skip (.done rfl (nx (.inr ⟨eq_of_beq q2,of_decide_eq_true q3⟩)))) fun q3=>.skip (.done rfl ⟨k,rfl,k1,k2,fun _=>?_⟩))))))) fun q2=>.skip (.done rfl ⟨k,rfl,k1,k2,fun _=>?_⟩)))))))))))
       ·simp only[decide_eq_false_iff_not]at q1 q3;rintro(w |w)
        ·exact q1 w
        ·exact q3 w.2
       ·simp only[decide_eq_false_iff_not]at q1;simp only[beq_eq_false_iff_ne,ne_eq]at q2;rintro(w |w)
        ·exact q1 w
        ·exact q2 w.1
      ·simp only[decide_eq_false_iff_not]at h;omega
     obtain⟨k,rfl,k1,k2,k3⟩:=ht;refine .skip (.br (fun h=> ?Ax) fun h=>.skip ?ins1x)
     case' Ax=>
      simp only[decide_eq_true_eq]at h;have hk:k<L.length:=by omega
      have hx:L[(k:Int).toNat]? =some L[k]:=by rw[Int.toNat_natCast];exact List.getElem?_eq_getElem hk
      have hi:(ic L.length 8 1 0 (k:Int)).run=some ():=if_pos ⟨by omega,by omega⟩
      refine .skip (.op () hi (.skip (.op _ hx (.skip (.br (fun q1=>.skip (.op () hi (.skip (.op _ hx (.skip (.br (fun q2=> ?samex) fun q2=>.skip ?ins2x)))))) fun q1=>.skip ?ins3x)))))
     case samex=>
      have he:dr L[k]=dr (cR x q.1 (fD n x)):=by
       unfold dr;rw[show L[k].k.BD=_ by simpa using q1,show L[k].k.IP=_ by simpa using q2]
      refine .skip (.op () hi (.op _ hx (.call _ (Gr n (cR x q.1 (fD n x)) L[k] hC (hR.nm _ (List.getElem_mem hk))) fun(r:Bool) hrb=>?_)))
      refine .br (fun q3=>?_) fun q3=>?_
      ·refine .skip (.op () hi (.op _ hx (.skip (.tidy rfl (.inl (.skip (.done rfl (fin _ _ ?_ ?_))))))))
       ·rw[Int.toNat_natCast];exact hR.set hk hC he (hrb.1 q3)
       ·rw[List.length_set]
      ·refine .skip (.tidy rfl (.inl (.skip (.done rfl (fin _ _ (hR.keep hk he fun hlt=>?_) rfl)))))
       rw[hrb.2 hlt]at q3;cases q3
     case' ins1x=>
      have hne:∀hk:k<L.length,dr L[k]≠dr (cR x q.1 (fD n x)):=fun hk=>by simp only[decide_eq_false_iff_not]at h;omega
     case' ins2x=>
      have hne:∀hk:k<L.length,dr L[k]≠dr (cR x q.1 (fD n x)):=fun hk e=>by
       have e2:=congrArg aq.ip e;simp only[beq_eq_false_iff_ne,ne_eq]at q2;exact q2 e2
     case' ins3x=>
      have hne:∀hk:k<L.length,dr L[k]≠dr (cR x q.1 (fD n x)):=fun hk e=>by
       have e2:=congrArg aq.bd e;simp only[beq_eq_false_iff_ne,ne_eq]at q1;exact q1 e2
     all_goals
      have hins:=hR.ins k1 hC k2 fun hk=>DE (k3 hk) (hne hk)
      have hd:List.take (L.length - k) (List.drop k L)=List.drop k L:=List.take_of_length_le (by simp)
      refine .op k (Rl k1) (.skip (.sp (fun z1=>?_) fun z1=>.sp (fun z2=>?_) fun z2=>?_))
      ·have z1:(k:Int)=0:=of_decide_eq_true z1;have:k=0:=by omega
       subst this;have sZ:(xd L.length 8 1 0 0 ((0:Nat):Int)).run=some ():=by
        show(if((0:Nat):Int)=0 then some ()else none)=some ()
        exact if_pos (by simp)
       have aE:=O4 (cR x q.1 (fD n x)) (L:=L) (o:=0) (m:=L.length) (by omega) (by omega)
       have aF:=O5 (L:=L) (k:=0) (X:=bQ (cR x q.1 (fD n x)) L 0 L.length) (by omega) (by simp[bQ];omega) (by omega)
       refine .op () sZ (.op () aE (.op () aF (.skip (.tidy rfl (.inl (.skip (.done rfl (fin _ _ ?_ rfl))))))));have e:cW 0 L (bQ (cR x q.1 (fD n x)) L 0 L.length)=List.take 0 L++(cR x q.1 (fD n x))::List.drop 0 L:=by simp[cW,bQ]
       rw[← e]at hins;exact hins
      ·have z1:¬(k:Int)=0:=of_decide_eq_false z1;have z2:(k:Int)<(L.length:Int):=of_decide_eq_true z2;have sL:=Rm (L:=L) (k:=k) (by omega) (by omega)
       have aE:=O4 (cR x q.1 (fD n x)) (L:=L) (o:=0+k) (m:=L.length - k) (by omega) (by omega)
       have aF:=O5 (L:=L) (k:=k) (X:=bQ (cR x q.1 (fD n x)) L (0+k) (L.length - k)) (by omega) (by simp[bQ];omega) (by omega)
       refine .op k sL (.op () aE (.op () aF (.skip (.tidy rfl (.inl (.skip (.done rfl (fin _ _ ?_ rfl))))))));have e:cW k L (bQ (cR x q.1 (fD n x)) L (0+k) (L.length - k))=List.take k L++(cR x q.1 (fD n x))::List.drop k L:=by simp[cW,bQ,hd]
       rw[← e]at hins;exact hins
      ·have z1:¬(k:Int)=0:=of_decide_eq_false z1;have z2:¬(k:Int)<(L.length:Int):=of_decide_eq_false z2;have e:k=L.length:=by omega
       have sE:(xe L.length 8 1 0 0 (k:Int)).run=some ():=if_pos ⟨by omega,by omega⟩
       have aS:(w9 k L [(cR x q.1 (fD n x))] af 8 56 1 0 6 [4]).run=some ():=if_pos ⟨by omega,by simp[roomy];omega⟩
       refine .op () sE (.skip (.op () aS (.skip (.tidy rfl (.inl (.skip (.done rfl (fin _ _ ?_ rfl))))))));rw[e,List.drop_length]at hins;rw[e];exact hins
    ·simp only[decide_eq_false_iff_not]at h;have:m=(gA x).length:=by omega
     subst this;rw[List.take_length]at hR;exact⟨hR,rfl⟩
   ·simp only[decide_eq_false_iff_not]at h;have:i=rs.length:=by omega
    subst this;rw[List.take_length]at hR1;exact⟨hR1,rfl⟩
  ·obtain⟨M,mn⟩:=t;obtain⟨hR,e2⟩:=ht;simp only at hR e2;subst e2;have hM:M.length≤2430:=Nat.le_trans hR.le (Cf f leaf _ (fD n) ns rs mm hns hr);refine .skip (.loop (fun(a:Int×List Known)=>∃i:Nat,a.1=(i:Int)∧i≤M.length∧a.2=(M.take i).map (·.k)) (fun a=>M.length - a.1.toNat) (fun(t:List Known)=>t=M.map (·.k)) rfl ⟨0,rfl,Nat.zero_le _,by simp⟩ (by simp;omega) (fun a ha=>?_) (fun t ht=>.skip (.done (by simp only[aK,ff,Bool.and_true];exact decide_eq_true (List.length_map ..).symm) ⟨M,hR,ht⟩)))
   obtain⟨ai,out⟩:=a;obtain⟨i,e1,i1,e3⟩:=ha;simp only at e1 e3;subst e1;subst e3;refine .skip (.br (fun h=>?_) fun h=>.skip (.done rfl ?_))
   ·simp only[decide_eq_true_eq]at h;have hi:i<M.length:=by omega
    have hx:M[(i:Int).toNat]? =some M[i]:=by rw[Int.toNat_natCast];exact List.getElem?_eq_getElem hi
    have hs:(ic M.length 8 0 0 (i:Int)).run=some ():=if_pos ⟨by omega,by omega⟩
    refine .skip (.op () hs (.skip (.op _ hx (.skip (.op () (if_pos ⟨rfl,by show roomy (((M.take i).map (·.k)).length+1) 24=true;simp[roomy];omega⟩) (.skip (.done rfl ?_)))))))
    show(∃j:Nat,IntKind.wrap .i64 ((i:Int)+1)=(j:Int)∧j≤M.length∧(M.take i).map (·.k)++[M[i].k]=(M.take j).map (·.k))∧M.length - (IntKind.wrap .i64 ((i:Int)+1)).toNat<M.length - (i:Int).toNat;rw[bR (by omega)]
    refine⟨⟨i+1,rfl,by omega,?_⟩,by simp only[Int.toNat_natCast];omega⟩
    rw[List.take_add_one,List.getElem?_eq_getElem hi,List.map_append];rfl
   ·simp only[decide_eq_false_iff_not]at h;have:i=M.length:=by omega
    subst this;show(M.take M.length).map (·.k)=M.map (·.k);rw[List.take_length]
end Go.L
end
section
namespace Go.L
open Go.AM
theorem Nk{f:aD}(hv:Vf f):Ni f:=by
 have hl:=hv.nE;refine⟨fun b hb=>?_,fun h hh=>?_⟩
 ·obtain⟨i,hi,rfl⟩:=List.getElem_of_mem hb;have:=hv.bd i _ (List.getElem?_eq_getElem hi);rcases this.2.2.2.2 with⟨e,_⟩ |⟨e,_⟩<;>rw[e]<;>simp only<;>omega
 ·obtain⟨i,hi,rfl⟩:=List.getElem_of_mem hh;have:=hv.host i _ (List.getElem?_eq_getElem hi);have hl2:=hv.yI;rcases this.2.2.2.2 with e |⟨b,hb,hg,e⟩
  ·rw[e];omega
  ·obtain⟨b',hb',_⟩:=Hl f.aI _ this.2.1 this.2.2.1;have h2:=bg f.aI (f.bh[i]).BD.toNat;rw[Int.toNat_of_nonneg this.2.1,hb]at h2;have h3:=hv.bd _ b h2.symm;have:=this.2.2.1;rcases h3.2.2.2.2 with⟨_,g⟩ |⟨q,_⟩
   ·exact absurd g hg
   ·rw[e,q];simp only;omega
theorem Fb(n:Nat)(hn:5000≤n)(f:aD)(hv:Vf f):At (lJ.S n f) (fun(r:Int×ByteArray×Int)=>r.1=0):=by
 refine(At.eq (r:=ri f) fun k=>Nj n hn f (IX hv) (Nk hv) k).mono fun r hr=>?_
 rw[hr,IW hv]
theorem Fc(n:Nat)(hn:5000≤n)(f:aD)(hv:Vf f):At (ov.S n f) (fun(b:Bool)=>b=true):=by
 refine(?_ :cO n (vT f) _);unfold vT;refine .skip (.call _ (Fb n hn f hv) fun r hr=>.skip (.done rfl ?_))
 rw[hr];rfl
theorem Nl(n:Nat)(hn:5000≤n)(f:aD)(hv:Vf f)(i:Int)(h0:0≤i)(h1:i<f.Leaves):At (sg.S n (f,i)) (fun(r:Int)=>r=184483841+i):=by
 have hl:=hv.leaves;have hs:=hv.Cd;refine(?_ :cO n (rZ f i) _);unfold rZ;have hw:∀b,i≤b→At (bq.S n (i,(0:Int),b)) (fun(r:Bool)=>r=true):=fun b hb=>by
  refine(?_ :cO n (ny i 0 b) _);unfold ny;exact .skip (.br (fun _=>.skip (.done rfl (decide_eq_true hb))) fun h=>absurd h0 (by simpa using h))
 have hr:At (xQ.S n i) (fun(r:Int×Int)=>r.1=184483841+i):=by
  refine(?_ :cO n (rY i) _);unfold rY;exact .skip (.br (fun h=>absurd h0 (by simpa using h)) fun _=>.skip (.br (fun h=>by simp only[ge_iff_le,decide_eq_true_eq]at h;omega) fun _=>.skip (.done rfl (by simp only[IntKind.wrap_u32];omega))))
 refine .skip (.call _ (Fc n hn f hv) fun r3 h3=>.skip (.br (fun h=>by rw[h3]at h;cases h) fun _=>.skip (.call _ (hw _ ?_) fun r5 h5=>.skip (.br (fun h=>by rw[h5]at h;cases h) fun _=>.skip (.call _ hr fun r7 h7=>.skip (.done rfl h7))))))
 rw[wrap_i64 (by rw[wrap_i64 (by omega) (by omega)];omega) (by rw[wrap_i64 (by omega) (by omega)];omega),wrap_i64 (by omega) (by omega)];omega
theorem Fe(n:Nat)(hn:5000≤n)(f:aD)(hv:Vf f):At (vW.S n f) (fun(b:Bool)=>b=true):=by
 refine(?_ :cO n (vV f) _);unfold vV;refine .skip (.call _ (Fb n hn f hv) fun r hr=>.skip (.done rfl ?_))
 rw[hr];rfl
def Ba(l:List (V8 Int)):Int:=match mg l 3 with |some c=>IntKind.wrap .u32 (jy (jy (jy (jy 0 c.a4) c.a5) c.a6) c.a7) |none=>0
theorem OI(n:Nat)(c:V8 Int):At (mG.S n c) (fun(k:Int)=>k=lF c):=At.eq fun k=>MY c k
theorem PI(n:Nat)(l:List (V8 Int))(hl:l.length<100000)(hn:l.length<n)(hok:∀c∈l,E6 c):At (jb.S n l) (fun(q:Bool×Int×Bool)=>q.2.1=Ba l):=by
 refine(?_ :cO n (kL l) _);unfold kL;refine .skip (.inl (.skip (.op () rfl (.skip (.loop (fun a:Int=>iO l (fun pre (_:Unit)=>mg pre 3=none) (a,())) (fun a=>l.length - a.toNat) (Sum.elim (fun(t:Bool×Int)=>t.2=Ba l) fun _=>Ba l=0) rfl (iO.start rfl) (by simpa using hn) (fun a ha=>?_) (fun t ht=>?_))))))
 ·refine .skip (.br (fun h=>?_) fun h=>.skip (.done rfl ?_))
  ·obtain⟨i,hi,hil,hp⟩:=ha;have hi:a=(i:Int):=hi;subst hi;simp only[decide_eq_true_eq]at h;have hik:i<l.length:=by omega
   have hx:ez l (i:Int)=some l[i]:=by rw[bg,List.getElem?_eq_getElem hik]
   refine .skip (.op _ hx (.skip (.call _ (OI n _) fun(k:Int) hk=>.skip (.br (fun q=>?_) fun q=>.skip (.done rfl ?_)))))
   ·have hk3:lF l[i]=3:=by rw[← hk];exact eq_of_beq q
    have hf:=Dg hik hp hk3;refine .skip (.inl (.skip (.inl (.skip (.fH (.skip (.tidy rfl (.inl (.skip (.tidy rfl (.inl (.skip ?_))))))))))));refine .done rfl ?_;show _=Ba l;unfold Ba;rw[hf];rfl
   ·have hk3:¬lF l[i]=3:=by rw[← hk];simpa using q
    show iO l _ _∧_;rw[bR (by omega)]
    exact⟨⟨i+1,rfl,by omega,Df hik hp hk3⟩,by simp only[Int.toNat_natCast];omega⟩
  ·have:=ha.fin h;show Ba l=0;unfold Ba;rw[this]
 ·cases t with
  |inl t=>exact .tidy rfl (.inl (.skip (.done rfl ht)))
  |inr t=>exact .skip (.tidy rfl (.inl (.skip (.done rfl (show(0:Int)=Ba l from ht.symm)))))
theorem PJ(n:Nat)(l:List (V8 Int))(hl:l.length<100000)(hn:l.length<n)(hok:∀c∈l,E6 c):At (l9.S n l) (fun(q:Bool×Int×Bool)=>q.2.1=Ba l):=by
 refine(?_ :cO n (pR l) _);unfold pR;refine .skip (.call _ ⟨_,Nf n l 3 hl hn hok,rfl⟩ fun(r:Int×Bool) hr=>.skip (.done rfl ?_))
 show IntKind.wrap .u32 r.1=Ba l;rw[← hr];unfold Ba;cases h:mg l 3 with
 |none=>rfl
 |some c=>
  obtain⟨h0,h1,h2,h3,h4,h5,h6,h7⟩:=hok c (LL h);simp only
  rw[Rn h4 h5 h6 h7,LN,LN];unfold sy;omega
theorem PL(n:Nat)(r:bt):At (xK.S n r) (fun(b:Bool)=>b=true→r.A.fh.length≤80∧r.A.Path.length≤40∧r.A.jE.length≤20):=by
 refine(?_ :cO n (rV r) _);unfold rV;exact .skip (.op () rfl (.skip (.br (fun p1=>.skip (.op () rfl (.skip (.br (fun p2=>.skip (.op () rfl (.skip (.done rfl fun h=>by simp only[decide_eq_true_eq]at h p1 p2;omega)))) fun _=>.skip (.done rfl fun h=>by cases h))))) fun _=>.skip (.done rfl fun h=>by cases h))))
theorem Nn(n:Nat)(rs:List bt)(hl:rs.length≤9223372036854775807)(hn:rs.length<n):At (wj.S n (rs,30)) (fun(b:Bool)=>b=true→LR rs∧∀r∈rs,r.A.Path.length≤40∧r.A.jE.length≤20):=by
 refine(?_ :cO n (qM rs 30) _);unfold qM;refine .skip (.loop (fun a:Int=>∃i:Nat,a=(i:Int)∧i≤rs.length∧∀r∈rs.take i,r.A.fh.length≤80∧r.A.Path.length≤40∧r.A.jE.length≤20) (fun a=>rs.length - a.toNat) (Sum.elim (fun _=>True) fun _=>∀r∈rs,r.A.fh.length≤80∧r.A.Path.length≤40∧r.A.jE.length≤20) rfl ⟨0,rfl,Nat.zero_le _,fun r h=>by simp at h⟩ (by simpa using hn) (fun a ha=>?_) (fun t ht=>?_))
 ·obtain⟨i,rfl,i1,i2⟩:=ha;refine .skip (.op () rfl (.skip (.br (fun h=>?_) fun h=>.skip (.done rfl ?_))))
  ·simp only[decide_eq_true_eq]at h;have hi:i<rs.length:=by omega
   have hx:ez rs (i:Int)=some rs[i]:=by rw[bg,List.getElem?_eq_getElem hi]
   refine .skip (.op _ hx (.skip (.call _ (PL n _) fun(b:Bool) hb=>.skip (.br (fun _=>.skip (.done rfl trivial)) fun h2=>.skip (.done rfl ⟨⟨i+1,?_,by omega,?_⟩,?_⟩)))))
   ·rw[wrap_i64 (by omega) (by omega)];omega
   ·intro r hr;rw[List.take_add_one,List.getElem?_eq_getElem hi]at hr;rcases List.mem_append.1 hr with hr |hr
    ·exact i2 r hr
    ·simp only[Option.toList_some,List.mem_singleton]at hr;subst hr;exact hb (by simpa using h2)
   ·show rs.length - (IntKind.wrap .i64 ((i:Int)+1)).toNat<rs.length - (i:Int).toNat;rw[wrap_i64 (by omega) (by omega)];omega
  ·simp only[decide_eq_false_iff_not]at h;have:i=rs.length:=by omega
   subst this;rw[List.take_length]at i2;exact i2
 ·cases t with
  |inl t=>exact .done rfl fun h=>by cases h
  |inr t=>exact .skip (.op () rfl (.skip (.done rfl fun h=>by simp only[decide_eq_true_eq]at h;exact⟨⟨by omega,fun r hr=>(ht r hr).1⟩,fun r hr=>(ht r hr).2⟩)))
theorem PM(n:Nat)(l:List Int)(h:l.length≤80):At (xU.S n l) (fun(r:List Int)=>r=l):=by
 refine(?_ :cO n (sk l) _);unfold sk;exact .skip (.op () (if_pos ⟨rfl,by simp[roomy];omega⟩) (.skip (.done (by simp only[aK,ff,Bool.and_true];exact decide_eq_true (List.length_map ..).symm) rfl)))
theorem QL(n:Nat)(l:List Int)(h:l.length≤80):At (B4.S n l) (fun(r:List Int)=>r=l):=by
 refine(?_ :cO n (xV l) _);unfold xV;exact .skip (.op () (if_pos ⟨rfl,by simp[roomy];omega⟩) (.skip (.done (by simp only[aK,ff,Bool.and_true];exact decide_eq_true (List.length_map ..).symm) rfl)))
theorem OJ(n:Nat)(l:List (V8 Int))(h:l.length≤80):At (zX.S n l) (fun(r:List (V8 Int))=>r=l):=by
 refine(?_ :cO n (uV l) _);unfold uV;exact .skip (.op () (if_pos ⟨rfl,by simp[roomy];omega⟩) (.skip (.done (by simp only[aK,ff,Bool.and_true];exact decide_eq_true (List.length_map ..).symm) rfl)))
theorem Np(n:Nat)(r:bt)(h1:r.A.Path.length≤80)(h2:r.A.jE.length≤80)(h3:r.A.fh.length≤80):At (zZ.S n r) (fun(x:bt)=>x=r):=by
 refine(?_ :cO n (uX r) _);unfold uX;have ha:At (zY.S n r.A) (fun(x:vk)=>x=r.A):=by
  refine(?_ :cO n (uW r.A) _);unfold uW;refine .skip (.call _ (PM n _ h1) fun p hp=>.skip (.call _ (QL n _ h2) fun c hc=>.skip (.call _ (OJ n _ h3) fun q hq=>.skip (.done rfl ?_))))
  rw[hp,hc,hq]
 refine .skip (.call _ ha fun x hx=>.skip (.done rfl ?_))
 rw[hx]
theorem PN(n:Nat)(hn:5000≤n)(rs:List bt)(hr:LR rs)(hp:∀r∈rs,r.A.Path.length≤40∧r.A.jE.length≤20):At (yF.S n rs) (fun(r:List bt)=>r=rs):=by
 refine(?_ :cO n (tY rs) _);unfold tY;have h60:=hr.1;refine .skip (.loop (fun(a:Int×List bt)=>∃i:Nat,a.1=(i:Int)∧i≤rs.length∧a.2=rs.take i) (fun a=>rs.length - a.1.toNat) (fun(r:List bt)=>r=rs) rfl ⟨0,rfl,Nat.zero_le _,rfl⟩ (by simp;omega) (fun a ha=>?_) (fun t ht=>.skip (.done (by simp only[aK,ff,Bool.and_true];exact decide_eq_true (List.length_map ..).symm) ht)))
 obtain⟨ai,out⟩:=a;obtain⟨i,e1,i1,e3⟩:=ha;simp only at e1 e3;subst e1;subst e3;refine .skip (.op () rfl (.skip (.br (fun h=>?_) fun h=>.skip (.done rfl ?_))))
 ·simp only[decide_eq_true_eq]at h;have hi:i<rs.length:=by omega
  have hx:ez rs (i:Int)=some rs[i]:=by rw[bg,List.getElem?_eq_getElem hi]
  have hm:=List.getElem_mem hi;have b1:=hp _ hm;refine .skip (.op _ hx (.skip (.call _ (Np n rs[i] (by omega) (by omega) (hr.2 _ hm)) fun(y:bt) hy=>.skip (.op () (if_pos ⟨rfl,by show roomy ((rs.take i).length+1) 224=true;simp[roomy];omega⟩) (.skip (.done rfl ?_))))))
  show(∃j:Nat,IntKind.wrap .i64 ((i:Int)+1)=(j:Int)∧j≤rs.length∧List.take i rs++[y]=List.take j rs)∧rs.length - (IntKind.wrap .i64 ((i:Int)+1)).toNat<rs.length - (i:Int).toNat;rw[bR (by omega)]
  refine⟨⟨i+1,rfl,by omega,?_⟩,by simp only[Int.toNat_natCast];omega⟩
  rw[List.take_add_one,List.getElem?_eq_getElem hi,hy];rfl
 ·simp only[decide_eq_false_iff_not]at h;have:i=rs.length:=by omega
  subst this;show rs.take rs.length=rs;rw[List.take_length]
theorem G2(n:Nat)(hn:5000≤n)(nums:List Int)(self:Int)(ns:List jh)(rs:List bt)(hl:rs.length≤9223372036854775807)(hrn:rs.length<n)(hok:∀r∈rs,∀c∈r.A.fh,E6 c):At (vE.S n (nums,self,ns,rs)) (fun(b:Bool)=>b=true):=by
 refine(?_ :cO n (pS nums self ns rs) _);unfold pS;refine .skip (.call (fun _=>True) ⟨(),rfl,trivial⟩ fun _ _=>.skip (.op () rfl (.skip (.br (fun _=>.skip (.done rfl rfl)) fun _=>.skip (.op () rfl (.skip (.br (fun _=>.skip (.done rfl rfl)) fun h30=>.skip (.call _ (Nn n rs hl hrn) fun(lb:Bool) hlb=>.skip (.br (fun _=>.skip (.done rfl rfl)) fun hlr=>?_)))))))))
 simp only[gt_iff_lt,decide_eq_false_iff_not]at h30;obtain⟨hr,hpc⟩:=hlb (by simpa using hlr)
 have hns:ns.length≤30:=by omega
 have hrl:=hr.1;have own1:At (z6.S n ns) (fun(r:List jh)=>r=ns):=by
  refine(?_ :cO n (uY ns) _);unfold uY;exact .skip (.op () (if_pos ⟨rfl,by simp[roomy];omega⟩) (.skip (.done (by simp only[aK,ff,Bool.and_true];exact decide_eq_true (List.length_map ..).symm) rfl)))
 refine .skip (.call Vf (IV nums hn) fun f hv=>.skip (.call _ own1 fun(ns':List jh) e1=>.skip (.call _ (PN n hn rs hr hpc) fun(rs':List bt) e2=>?_)))
 subst e1;subst e2;have v1:=hv.leaves;by_cases hs:0≤self∧self<f.Leaves
 ·refine .fM _ (QG n hn f hv self hs.1 hs.2 ns' rs' hns hr) fun(K:List Known) hK=>?_
  have lK:=M6 hK hns hr;obtain⟨mm,m,hmm,hm,eK⟩:=hK;have hmob:∀r∈rs',At (l9.S n r.A.fh) (fun(q:Bool×Int×Bool)=>q.2.1=fD n r):=fun r h=>by
   have:=hr.2 r h;obtain⟨q,a1,a2⟩:=PI n r.A.fh (by omega) (by omega) (hok r h)
   have:fD n r=Ba r.A.fh:=by unfold fD;rw[a1];exact a2
   rw[this];exact PJ n r.A.fh (by omega) (by omega) (hok r h)
  have htg:∀r∈rs',At (oV.S n r.A.fh) (fun(q:List Int)=>q=gA r):=fun r h=>by
   have:=hr.2 r h;exact⟨_,FO n r.A.fh (by omega) (by omega) (hok r h),rfl⟩
  refine .skip (.call _ (JI n hn f hv self hs.1 hs.2 ns' rs' hns hr mm hmm (Fc n hn f hv) hmob htg (Fe n hn f hv) (Nl n hn f hv self hs.1 hs.2)) fun(K2:List Known) hK2=>?_)
  obtain⟨l,hl2,e3⟩:=hK2;have e4:K2=K:=by rw[e3,eK];exact(Of hm hl2 fun x=>Iff.rfl).symm
  subst e4;exact .call _ (E5 n K2 (by omega) (by omega)) fun(b:Bool) hb=>.skip (.done rfl hb)
 ·have k1:At (rG.S n (f,self,ns',rs')) (fun(r:List Known)=>r=[]):=by
   refine(?_ :cO n (oq f self ns' rs') _);unfold oq;refine .skip (.call _ (DJ n hn f hv) fun r5 h5=>.skip (.br (fun _=>.skip (.done rfl rfl)) fun _=>.skip (.br (fun _=>.skip (.done rfl rfl)) fun q1=>.skip (.br (fun _=>.skip (.done rfl rfl)) fun q2=>?_))))
   simp only[decide_eq_false_iff_not,ge_iff_le]at q1 q2;omega
  have k2:At (vX.S n (f,self,ns',rs')) (fun(r:List Known)=>r=[]):=by
   refine(?_ :cO n (ow f self ns' rs') _);unfold ow;refine .skip (.call _ (Fe n hn f hv) fun r5 h5=>.skip (.br (fun _=>.skip (.done rfl rfl)) fun _=>.skip (.br (fun _=>.skip (.done rfl rfl)) fun q1=>.skip (.br (fun _=>.skip (.done rfl rfl)) fun q2=>?_))))
   simp only[decide_eq_false_iff_not,ge_iff_le]at q1 q2;omega
  refine .fM _ k1 fun(K:List Known) e3=>.skip (.call _ k2 fun(K2:List Known) e4=>?_)
  rw[e3,e4];exact .call _ (E5 n [] (by simp) (by simp;omega)) fun(b:Bool) hb=>.skip (.done rfl hb)
end Go.L
end
