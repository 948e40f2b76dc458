/- Parts put together. No conditions. -/
import Derived.Test.YtiohninblcifpaaGreatDoorPl
import Derived.Test.YtiohninblcifpaaGreatDoorPt
import Derived.Test.YtiohninblcifpaaGreatDoorPc
import Derived.Test.YtiohninblcifpaaGreatDoorPs
import Derived.Test.YtiohninblcifpaaGreatDoorWa
set_option linter.unusedSimpArgs false
set_option linter.unusedVariables false
set_option maxRecDepth 100000
section
namespace Go.L
open Go.AM
theorem U0(n:Nat)(hn:5000≤n)(f:au)(leaf:Int)(r:bF)(h:r.A.bT.length≤20):(Kc n f leaf).rt r=CU r.A.bT:=by
 obtain⟨x,e1,e2⟩:=UI n r.A.bT (by omega) (by omega)
 show(dZ.S n r.A.bT).getD ((0,false):Int×Bool)=_;rw[e1,e2];rfl
theorem PF{f:au}(hv:Vf f):PD f:=by
 have hl:=hv.oC;refine⟨fun b hb=>?_,fun h hh=>?_⟩
 ·obtain⟨i,hi,rfl⟩:=List.getElem_of_mem hb;have:=hv.bd i _ (List.getElem?_eq_getElem hi);rcases this.2.2.2.2 with⟨e,_⟩ |⟨e,_⟩<;>rw[e]<;>simp only<;>omega
 ·obtain⟨i,hi,rfl⟩:=List.getElem_of_mem hh;have:=hv.host i _ (List.getElem?_eq_getElem hi);have hl2:=hv.AJ;rcases this.2.2.2.2 with e |⟨b,hb,hg,e⟩
  ·rw[e];omega
  ·obtain⟨b',hb',_⟩:=Jo f.aI _ this.2.1 this.2.2.1;have h2:=bN f.aI (f.Hosts[i]).BD.toNat;rw[Int.toNat_of_nonneg this.2.1,hb]at h2;have h3:=hv.bd _ b h2.symm;have:=this.2.2.1;rcases h3.2.2.2.2 with⟨_,g⟩ |⟨q,_⟩
   ·exact absurd g hg
   ·rw[e,q];simp only;omega
theorem N5(n:Nat)(hn:5000≤n)(f:au)(hv:Vf f):At (qy.S n f) (fun(r:Int×ByteArray×Int)=>r.1=0):=by
 refine(At.eq (r:=tV f) fun k=>PE n hn f (KV hv) (PF hv) k).mono fun r hr=>?_
 rw[hr,KU hv]
theorem N6(n:Nat)(hn:5000≤n)(f:au)(hv:Vf f):At (CV.S n f) (fun(b:Bool)=>b=true):=by
 refine(?_ :cF n (yz f) _);unfold yz;refine .skip (.call _ (N5 n hn f hv) fun r hr=>.skip (.done rfl ?_))
 rw[hr];rfl
theorem PG(n:Nat)(hn:5000≤n)(f:au)(hv:Vf f)(i:Int)(h0:0≤i)(h1:i<f.Leaves):At (uJ.S n (f,i)) (fun(r:Int)=>r=KE i):=by
 have hl:=hv.leaves;have hs:=hv.GY;refine(?_ :cF n (uI f i) _);unfold uI;have hw:∀b,i≤b→At (bC.S n (i,(0:Int),b)) (fun(r:Bool)=>r=true):=fun b hb=>by
  refine(?_ :cF n (pE i 0 b) _);unfold pE;exact .skip (.br (fun _=>.skip (.done rfl (decide_eq_true hb))) fun h=>absurd h0 (by simpa using h))
 have hr:At (Ah.S n i) (fun(r:Int×Int)=>r.1=KE i):=by
  refine(?_ :cF n (uH i) _);unfold uH;exact .skip (.br (fun h=>absurd h0 (by simpa using h)) fun _=>.skip (.br (fun h=>by simp only[ge_iff_le,decide_eq_true_eq]at h;omega) fun _=>.skip (.done rfl rfl)))
 refine .skip (.call _ (N6 n hn f hv) fun r3 h3=>.skip (.br (fun h=>by rw[h3]at h;cases h) fun _=>.skip (.call _ (hw _ ?_) fun r5 h5=>.skip (.br (fun h=>by rw[h5]at h;cases h) fun _=>.skip (.call _ hr fun r7 h7=>.skip (.done rfl h7))))))
 rw[wrap_i64 (by rw[wrap_i64 (by omega) (by omega)];omega) (by rw[wrap_i64 (by omega) (by omega)];omega),wrap_i64 (by omega) (by omega)];omega
end Go.L
end
section
namespace Go.L
open Go.AM
theorem Ui(n:Nat)(hn:5000≤n)(l:List (V8 Int))(h:l.length≤20):At (dB.S n l) (fun(q:List Int)=>q.length≤20):=by
 refine⟨_,E8 n l (by omega) (by omega),?_⟩
 have h1:=List.length_filterMap_le gj l;have h2:∀m:List Int,(uniq m).length≤m.length:=fun m=>by
  unfold uniq Lib.compact Lib.compactUpTo;rw[List.length_map];refine Nat.le_trans (List.length_filter_le _ _) ?_;simp
 exact Nat.le_trans (h2 _) (Nat.le_trans h1 h)
theorem PO{n:Nat}(hn:5000≤n){rs:List bF}(hr:MR rs):NX n rs:=fun r h=>Ui n hn _ (hr.comms r h)
theorem Rp(n:Nat)(hn:5000≤n)(f:au)(hv:Vf f)(self:Int)(up:List Bool)(rs:List bF)(hr:MR rs):At (pq.S n (f,self,up,rs)) (fun(r:List aG)=>r=xF n f self up rs):=Py n hn f hv self up rs hr (PO hn hr)
theorem PS(n:Nat)(hn:5000≤n)(f:au)(hv:Vf f)(self:Int)(up:List Bool)(rs:List bF)(hr:MR rs):(xF n f self up rs).length≤3612:=NY n f hv self up rs hr (PO hn hr)
end Go.L
end
section
namespace Go.L
open Go.AM
theorem K9{α:Type}{l:List α}{i:Int}{x:α}(h:gv l i=some x):0≤i∧i<(l.length:Int)∧x∈l:=by
 unfold gv at h;split at h
 ·rename_i h0;obtain⟨h1,h2⟩:=List.getElem?_eq_some_iff.1 h;exact⟨by simpa using h0,by omega,by rw[← h2];exact List.getElem_mem _⟩
 ·cases h
theorem Mw(n:Nat)(l:List Int)(x:Int)(hl:l.length<100000)(hn:l.length<n):At (nj.S n (l,x)) (fun(b:Bool)=>b=true↔x∈l):=by
 refine(?_ :cF n (uN l x) _);unfold uN;refine .skip (.loop (fun a:Int=>dI l (fun pre (_:Unit)=>x∉pre) (a,())) (fun a=>l.length - a.toNat) (Sum.elim (fun _=>x∈l) fun _=>x∉l) rfl (dI.start (fun h=>(by cases h))) (by simpa using hn) (fun a ha=>?_) (fun t ht=>?_))
 ·refine .skip (.op () rfl (.skip (.br (fun h=>?_) fun h=>.skip (.done rfl (ha.fin h)))))
  obtain⟨y,pre,h1,h2,h3,_,h4⟩:=ha.get h;refine .skip (.op y h1 (.skip (.br (fun he=>.skip (.done rfl ?_)) fun he=>.skip (.done rfl ?_))))
  ·rw[beq_iff_eq]at he;show x∈l;rw[← he];exact h2
  ·rw[beq_eq_false_iff_ne]at he;refine h4 hl () fun hx=>?_
   rcases List.mem_append.1 hx with hx |hx
   ·exact h3 hx
   ·simp only[List.mem_singleton]at hx;exact he hx.symm
 ·cases t with
  |inl t=>exact .done rfl ⟨fun _=>ht,fun _=>rfl⟩
  |inr t=>exact .skip (.done rfl ⟨fun h=>(by cases h),fun h=>absurd h ht⟩)
theorem R2(n:Nat)(hn:5000≤n)(l:List (V8 Int))(h:l.length≤20)(hok:∀c∈l,E5 c):At (lT.S n l) (fun(q:List Int)=>q=uniq (l.filterMap gj)∧q.length≤20):=by
 refine⟨_,HF n l (by omega) (by omega) hok,rfl,?_⟩
 exact Nat.le_trans (D0 _) (Nat.le_trans (List.length_filterMap_le gj l) h)
theorem U2(n:Nat)(hn:5000≤n)(f:au)(leaf:Int)(r:bF)(h:r.A.bT.length≤20):(Kc n f leaf).tg r=uniq (r.A.bT.filterMap gj):=by
 show(dB.S n r.A.bT).getD ([]:List Int)=_;rw[E8 n _ (by omega) (by omega)];rfl
structure Fair(f:au)(sf:Int)(rs:List bF)(h:aG):Prop where
 t0:0≤h.av
 t1:h.av<(f.aA.length:Int)
 bd:(∀k∈f.Leaks,k.To≠h.av)→0≤h.BD→∃d,gv f.aI h.BD=some d∧d.av=h.av∧d.aL≠0
 Tp:(∀k∈f.Leaks,k.To≠h.av)→h.BD<0→h.Next≠KE sf∧∃r∈rs,CU r.A.bT=(h.cW,true)∧r.A.Next=h.Next∧(r.N.Label=h.bL∨r.N.dg=h.bL)∧∃x,gv f.aA h.av=some x∧x.Target∈uniq (r.A.bT.filterMap gj)
 Ut:0≤sf∧sf<f.Leaves
theorem Rt(n:Nat)(hn:5000≤n)(f:au)(hv:Vf f)(self:Int)(up:List Bool)(rs:List bF)(hr:MR rs):∀h∈xF n f self up rs,Fair f self rs h:=by
 intro h hh;by_cases hs:0≤self∧self<f.Leaves
 ·rw[show xF n f self up rs=yU f self up rs (Kc n f self)from if_pos hs]at hh;have own:∀y∈oB (vK f self up (Kc n f self) rs),0≤y.av∧y.av<(f.aA.length:Int):=fun y hy=>by
   obtain⟨c,hc,rfl⟩:=Mm hy;rcases CA hc with⟨i,d,h1,_,_,rfl⟩ |⟨r,_,T,_,x,h1,_⟩
   ·have:=hv.bd i d h1;exact⟨this.1,this.2.1⟩
   ·obtain⟨a,b,_⟩:=K9 h1;exact⟨a,b⟩
  have nol:(∀k∈f.Leaks,k.To≠h.av)→∃c∈jI f self up (Kc n f self) rs,c.aG=h:=fun hk=>by
   rcases Ir _ _ _ h (KD.1 hh)with h |⟨k,hk2,y,hy,_,_,rfl⟩
   ·exact Mm h
   ·exact absurd rfl (hk k hk2)
  have GW:0≤h.av∧h.av<(f.aA.length:Int):=by
   rcases Ir _ _ _ h (KD.1 hh)with h |⟨k,hk2,y,hy,_,_,rfl⟩
   ·exact own _ h
   ·have:=hv.Tz k hk2;exact⟨this.2.2.1,this.2.2.2.1⟩
  refine⟨GW.1,GW.2,fun hk hb=>?_,fun hk hb=>?_,hs⟩
  ·obtain⟨c,hc,rfl⟩:=nol hk;rcases CA hc with⟨i,d,h1,h2,_,rfl⟩ |⟨r,_,T,_,x,_,_,q |q⟩
   ·exact⟨d,by show gv f.aI ((i:Nat):Int)=_;rw[bN];exact h1,rfl,h2⟩
   ·exact q
   ·rw[q.bd]at hb;omega
  ·obtain⟨c,hc,rfl⟩:=nol hk;rcases CA hc with⟨i,d,h1,h2,_,rfl⟩ |⟨r,hr1,T,hT,x,hx,hxT,q |q⟩
   ·have:(0:Int)≤((i:Nat):Int):=Int.natCast_nonneg i;exact absurd hb (by show ¬((i:Nat):Int)<0;omega)
   ·obtain⟨d,h1,_⟩:=q;obtain⟨a,_⟩:=K9 h1;omega
   ·refine⟨by rw[← UT n hn f hv self hs.1 hs.2];exact q.Tp,r,hr1,?_,q.next,q.US,x,hx,?_⟩
    ·rw[← U0 n hn f self r (hr.comms r hr1)];exact q.rt
    ·rw[hxT,← U2 n hn f self r (hr.comms r hr1)];exact hT
 ·rw[show xF n f self up rs=[]from if_neg hs]at hh;cases hh
theorem Ru(n:Nat)(hn:5000≤n)(HL:At (yu.S n ()) (fun(b:Bool)=>b=true))(nums:List Int)(self:Int)(up:List Bool)(rs:List bF)(hok:∀r∈rs,∀c∈r.A.bT,E5 c):At (yd.S n (nums,self,up,rs)) (fun(b:Bool)=>b=true):=by
 refine(?_ :cF n (sr nums self up rs) _);unfold sr;refine .skip (.call _ HL fun r5 h5=>.skip (.br (fun h=>by rw[h5]at h;cases h) fun _=>.skip (.call _ (SA n hn rs) fun r7 h7=>.skip (.br (fun _=>.skip (.done rfl rfl)) fun hm=>.skip (.op () rfl (.skip (.br (fun _=>.skip (.done rfl rfl)) fun _=>.skip (.op () rfl (.skip (.br (fun _=>.skip (.done rfl rfl)) fun _=>?_))))))))))
 have hr:MR rs:=h7 hm;have h60:=hr.len;refine .skip (.call Vf (KT nums hn) fun f hv=>.skip (.call _ (Rp n hn f hv self up rs hr) fun(A:List aG) hA=>?_))
 have lA:A.length≤3612:=by rw[hA];exact PS n hn _ hv self up rs hr
 have fA:∀h∈A,Fair f self rs h:=by rw[hA];exact Rt n hn f hv self up rs hr
 have lK:=hv.leaks;refine .skip (.loop (fun a:Int=>dI A (fun _ (_:Unit)=>True) (a,())) (fun a=>A.length - a.toNat) (Sum.elim (fun _=>False) fun _=>True) rfl (dI.start trivial) (by simp;omega) (fun a ha=>?_) (fun t ht=>?_))
 ·refine .skip (.op () rfl (.skip (.br (fun g=>?_) fun g=>.skip (.done rfl trivial))))
  obtain⟨h,pre,h1,h2,_,_,h4⟩:=ha.get g;have F:=fA h h2;have F0:=F.t0;have F1:=F.t1;have next:=h4 (by omega) () trivial
  refine .skip (.op h h1 (.skip (.br (fun e=>by simp only[decide_eq_true_eq]at e;omega) fun _=>.skip (.op () rfl (.skip ?_)))))
  have e0:decide (h.av≥((f.aA.length:Nat):Int))=false:=decide_eq_false (by omega)
  refine .loop (fun b:Bool×Int=>dI f.Leaks (fun pre (c:Bool)=>(c=true→∃k∈f.Leaks,k.To=h.av)∧((∃k∈pre,k.To=h.av)→c=true)) (b.2,b.1)) (fun b=>f.Leaks.length - b.2.toNat) (fun(t:Bool)=>t=true↔∃k∈f.Leaks,k.To=h.av) rfl (dI.start ⟨fun e=>(by rw[e0]at e;cases e),fun⟨k,hk,_⟩=>(by cases hk)⟩) (by simp;omega) (fun b hb=>?_) (fun t ht=>?_)
  ·refine .skip (.op () rfl (.skip (.br (fun g=>?_) fun g=>.skip (.done rfl ⟨(hb.fin g).1,(hb.fin g).2⟩))))
   obtain⟨k,prek,g1,g2,⟨g3,g3'⟩,_,g4⟩:=hb.get g;refine .skip (.br (fun hc=>.skip (.done rfl (g4 (by omega) true ⟨fun _=>g3 hc,fun _=>rfl⟩))) fun hc=>.skip (.op k g1 (.skip (.done rfl (g4 (by omega) _ ⟨fun e=>⟨k,g2,by simpa using e⟩,fun⟨q,hq,e⟩=>?_⟩)))))
   rcases List.mem_append.1 hq with hq |hq
   ·have e2:b.1=true:=g3' ⟨q,hq,e⟩;rw[e2]at hc;cases hc
   ·simp only[List.mem_singleton]at hq;subst hq;simpa using e
  ·refine .skip (.br (fun hc=>.skip (.br (fun e=>by simp only[decide_eq_true_eq]at e;omega) fun _=>.skip (.op () rfl (.skip (.br (fun e=>by simp only[ge_iff_le,decide_eq_true_eq]at e;omega) fun _=>.skip (.done rfl next)))))) fun hc=>?_)
   have nk:∀k∈f.Leaks,k.To≠h.av:=fun k hk e=>by
    have:=ht.2 ⟨k,hk,e⟩;rw[this]at hc;cases hc
   refine .skip (.br (fun e=>?_) fun e=>?_)
   ·simp only[ge_iff_le,decide_eq_true_eq]at e;obtain⟨d,q1,q2,q3⟩:=F.bd nk e;obtain⟨_,w2,_⟩:=K9 q1;refine .skip (.op () rfl (.skip (.br (fun e=>by simp only[ge_iff_le,decide_eq_true_eq]at e;omega) fun _=>.skip (.op d q1 (.skip (.br (fun e=>?_) fun _=>.skip (.op d q1 (.skip (.br (fun e=>?_) fun _=>.skip (.done rfl next))))))))))
    ·rw[q2]at e;simp at e
    ·rw[beq_iff_eq]at e;exact absurd e q3
   ·simp only[ge_iff_le,decide_eq_false_iff_not]at e;obtain⟨nl,r,hr1,hrt,hnx,hvn,x,hx,hxt⟩:=F.Tp nk (by omega)
    refine .skip (.loop (fun b:Bool×Int=>dI rs (fun pre (c:Bool)=>r∈pre→c=true) (b.2,b.1)) (fun b=>rs.length - b.2.toNat) (fun(t:Bool)=>t=true) rfl (dI.start fun h=>(by cases h)) (by simp;omega) (fun b hb=>?_) (fun t ht=>?_))
    ·refine .skip (.op () rfl (.skip (.br (fun g=>?_) fun g=>.skip (.done rfl (hb.fin g hr1)))))
     obtain⟨y,q,g1,g2,g3,_,g4⟩:=hb.get g;have cy:=hr.comms y g2;have oy:=hok y g2;have fin:∀c':Bool,(y=r→c'=true)→b.1=false→r∈q++[y]→c'=true:=fun c' hc hb hq=>by
      rcases List.mem_append.1 hq with hq |hq
      ·have e2:b.1=true:=g3 hq;rw[e2]at hb;cases hb
      ·simp only[List.mem_singleton]at hq;exact hc hq.symm
     refine .skip (.op y g1 (.skip (.call _ (Uk n y.A.bT (by omega) (by omega) oy) fun(w:Int×Bool) hw=>.skip (.br (fun _=>.skip (.done rfl (g4 (by omega) true fun _=>rfl))) fun hb=>?_))))
     have no:¬(w.2=true∧w.1=h.cW∧y.A.Next=h.Next∧(y.N.Label=h.bL∨y.N.dg=h.bL))→y≠r:=fun hn e=>by
      subst e;rw[hrt]at hw;exact hn ⟨by rw[hw],by rw[hw],hnx,hvn⟩
     refine .skip (.br (fun u1=>.skip (.br (fun u2=>.skip (.br (fun u3=>.skip (.br (fun u4=>?_) fun u4=>.skip (.br (fun u5=>?_) fun u5=>.skip (.done rfl (g4 (by omega) false (fin false (fun e=>absurd e (no fun z=>?_)) hb)))))) fun u3=>.skip (.done rfl (g4 (by omega) false (fin false (fun e=>absurd e (no fun z=>?_)) hb))))) fun u2=>.skip (.done rfl (g4 (by omega) false (fin false (fun e=>absurd e (no fun z=>?_)) hb))))) fun u1=>.skip (.done rfl (g4 (by omega) false (fin false (fun e=>absurd e (no fun z=>?_)) hb))))
     ·refine .skip (.call _ (R2 n hn _ cy oy) fun(T:List Int) hT=>.skip (.op x hx (.skip (.call _ (Mw n T _ (by omega) (by omega)) fun(c:Bool) hc=>.skip (.done rfl (g4 (by omega) c (fin c (fun e=>?_) hb)))))))
      rw[hc,hT.1,e];exact hxt
     ·refine .skip (.call _ (R2 n hn _ cy oy) fun(T:List Int) hT=>.skip (.op x hx (.skip (.call _ (Mw n T _ (by omega) (by omega)) fun(c:Bool) hc=>.skip (.done rfl (g4 (by omega) c (fin c (fun e=>?_) hb)))))))
      rw[hc,hT.1,e];exact hxt
     ·rw[beq_eq_false_iff_ne]at u4 u5;rcases z.2.2.2 with z |z
      ·exact u4 z
      ·exact u5 z
     ·rw[beq_eq_false_iff_ne]at u3;exact u3 z.2.2.1
     ·rw[beq_eq_false_iff_ne]at u2;exact u2 z.2.1
     ·rw[u1]at z;cases z.1
    ·refine .skip (.br (fun e=>by rw[show t=true from ht]at e;cases e) fun _=>.skip (.call _ (PG n hn f hv self F.Ut.1 F.Ut.2) fun(lo:Int) hlo=>.skip (.br (fun e=>?_) fun _=>.skip (.done rfl next))))
     rw[beq_iff_eq]at e;exact absurd (e.trans hlo) nl
 ·cases t with
  |inl t=>exact ht.elim
  |inr t=>exact .skip (.done rfl rfl)
end Go.L
end
