/- Parts put together. No conditions. -/
import Derived.Test.YtiohninblcifpaaGreatDoorPn
import Derived.Test.YtiohninblcifpaaGreatDoorPv
import Derived.Test.YtiohninblcifpaaGreatDoorPs
import Derived.Test.YtiohninblcifpaaGreatDoorWm
set_option linter.unusedSimpArgs false
set_option linter.unusedVariables false
set_option maxRecDepth 100000
section
namespace Go.L
open Go.AM
theorem TM.same{cs cs' m m':List (aq×ak)}(h:TM cs m)(h':TM cs' m')(hs:∀x,x∈cs↔x∈cs')(x:aq×ak):x∈m↔x∈m':=by
 obtain⟨p,b⟩:=x;rw[h.iff,h'.iff,hs];constructor
 ·rintro⟨h1,h2⟩;exact⟨h1,fun b' hb=>h2 b' ((hs _).2 hb)⟩
 ·rintro⟨h1,h2⟩;exact⟨h1,fun b' hb=>h2 b' ((hs _).1 hb)⟩
theorem A4{m:List (aq×ak)}(hn:(m.map (·.1)).Nodup):m.Nodup:=by
 induction m with
 |nil=>exact List.nodup_nil
 |cons x m ih=>
  simp only[List.map_cons,List.nodup_cons]at hn ⊢;exact⟨fun hx=>hn.1 (List.mem_map_of_mem hx),ih hn.2⟩
theorem BT{α:Type}:∀{l l':List α},l.Nodup→l'.Nodup→(∀x,x∈l↔x∈l')→l.Perm l'
 | [],l',_,_,h=>by
  cases l' with
  |nil=>exact .nil
  |cons y t=>exact absurd ((h y).2 List.mem_cons_self) List.not_mem_nil
 |x::l,l',hn,hn',h=>by
  obtain⟨s,t,rfl⟩:=List.append_of_mem ((h x).1 List.mem_cons_self);rw[List.nodup_cons]at hn;have hp:(s++x::t).Perm (x::(s++t)):=List.perm_middle;have hn2:=hp.nodup_iff.1 hn';rw[List.nodup_cons]at hn2;refine(List.Perm.cons x (BT hn.2 hn2.2 fun y=>?_)).trans hp.symm
  have hy:=h y;rw[hp.mem_iff]at hy;simp only[List.mem_cons]at hy;constructor
  ·intro hy1;rcases hy.1 (.inr hy1)with rfl |h2
   ·exact absurd hy1 hn.1
   ·exact h2
  ·intro hy1;rcases hy.2 (.inr hy1)with rfl |h2
   ·exact absurd hy1 hn2.1
   ·exact h2
theorem BU{m:List (aq×ak)}(hn:(m.map (·.1)).Nodup){p:aq}{b:ak}(hb:(p,b)∈m):Hj m p=b.qx:=by
 unfold Hj;cases hf:cm eU p m 0 with
 |none=>exact absurd rfl (wJ BS m 0 hf _ hb)
 |some x=>
  obtain⟨i,v⟩:=x;obtain⟨_,h2⟩:=sK BS m 0 i v hf;obtain⟨j,hj,he⟩:=List.getElem_of_mem hb;have hj2:m[j]? =some (p,b):=by rw[List.getElem?_eq_getElem hj,he]
  have:=Iy hn h2 hj2;rw[this,hj2]at h2;simp only[Option.some.injEq,Prod.mk.injEq,true_and]at h2;subst h2;rfl
theorem Ln{m m':List (aq×ak)}(hn:(m.map (·.1)).Nodup)(hn':(m'.map (·.1)).Nodup)(hs:∀x,x∈m↔x∈m'):
 (eG (m.map (·.1))).map (oJ m)=(eG (m'.map (·.1))).map (oJ m'):=by
 have hp:=BT (A4 hn) (A4 hn') hs;rw[BQ (hp.map (·.1))];apply List.map_congr_left;intro p hpm;have hpm:=(k6 (m'.map (·.1))).1.mem_iff.1 hpm;obtain⟨⟨q,b⟩,hb,rfl⟩:=List.mem_map.1 hpm;unfold oJ;rw[BU hn' hb,BU hn ((hs _).2 hb)]
def Ru(f:aD)(leaf:Int):Prop:=∀b∈f.au.flatMap (jk leaf),∀c∈f.au.flatMap (jk leaf),kT f c=kT f b→c=b
def BV(f:aD)(leaf:Int)(x:jh):Bool:=match ez f.au x.aH with
 |none=>false
 |some s=>decide (leaf∈s.Leaves)&&decide (x.BD∈s.aI)
end Go.L
end
section
namespace Go.L
open Go.AM
theorem DJ(n:Nat)(hn:5000≤n)(f:aD)(hv:Vf f):At (jG.S n f) (fun(r:Int×ByteArray×Int)=>r.1=0):=by
 refine(At.eq (r:=ri f) fun k=>IL n hn f (IX hv) k).mono fun r hr=>?_
 rw[hr,IW hv]
theorem Oq(n:Nat)(hn:5000≤n)(f:aD)(hv:Vf f):At (zU.S n f) (fun(r:Bool)=>r=true):=by
 refine(?_ :cO n (uN f) _);unfold uN;refine .skip (.call _ (DJ n hn f hv) fun r hr=>.skip (.done rfl ?_))
 rw[hr];rfl
theorem MX(n:Nat)(x y:Int)(h0:0≤x)(h1:x<y):At (dY.S n (x,y)) (fun(r:Bool)=>r=true):=by
 refine(?_ :cO n (lY x y) _);unfold lY;refine .skip (.br (fun _=>.skip (.done rfl (decide_eq_true h1))) fun h=>?_)
 simp only[decide_eq_false_iff_not]at h;omega
theorem Ot(n:Nat)(x:Int)(h0:0≤x)(h1:x<32):At (wh.S n x) (fun(r:Int)=>r=184483841+x):=by
 refine(?_ :cO n (qK x) _);unfold qK;refine .skip (.call (fun(r:Int×Int)=>r.1=184483841+x) ?_ fun r hr=>.skip (.done rfl hr))
 refine(?_ :cO n (tM x) _);unfold tM;refine .skip (.br (fun h=>?_) fun _=>.skip (.br (fun h=>?_) fun _=>.skip (.done rfl ?_)))
 ·simp only[decide_eq_true_eq]at h;omega
 ·simp only[decide_eq_true_eq]at h;omega
 ·simp only[IntKind.wrap_u32];omega
theorem Py(n:Nat)(hn:5000≤n)(f:aD)(hv:Vf f)(x:Int)(h0:0≤x)(h1:x<f.Leaves):At (mO.S n (f,x)) (fun(r:Int)=>r=184483841+x):=by
 have l1:=hv.leaves;have l2:=hv.Cd;refine(?_ :cO n (qL f x) _);unfold qL;refine .skip (.call _ (Oq n hn f hv) fun r hr=>.skip (.br (fun h=>?_) fun _=>.skip (.call _ (MX n x _ h0 ?_) fun r2 hr2=>.skip (.br (fun h=>?_) fun _=>.skip (.call _ (Ot n x h0 (by omega)) fun r3 hr3=>.skip (.done rfl hr3))))))
 ·rw[hr]at h;cases h
 ·rw[wrap_i64 (by omega) (by omega)];omega
 ·rw[hr2]at h;cases h
theorem O0(n:Nat)(hn:5000≤n)(f:aD)(hv:Vf f):Lm n f:=by
 have h1:=hv.segments;refine⟨by omega,by omega,fun s hs=>?_⟩
 obtain⟨⟨a1,a2,a3,a4⟩,b1,b2,b3,b4⟩:=hv.seg s hs;exact⟨by omega,by omega,by omega,by omega,b3⟩
theorem E2(f:aD)(hv:Vf f)(c:Int)(h0:0≤c)(h1:c<(f.aI.length:Int)):kT f c=500+c:=by
 have hlt:c.toNat<f.aI.length:=by omega
 have hx:=bg f.aI c.toNat;rw[show((c.toNat:Nat):Int)=c by omega,List.getElem?_eq_getElem hlt]at hx
 have:=hv.bd c.toNat _ (List.getElem?_eq_getElem hlt);unfold kT;rw[hx];show(f.aI[c.toNat]'hlt).Target=_;rw[this.2.2.2.1];omega
end Go.L
end
section
namespace Go.L
open Go.AM
theorem QF(n:Nat)(c:V8 Int):At (mG.S n c) (fun(_:Int)=>True):=by
 refine(?_ :cO n (q7 c) _);unfold q7;refine .skip (.fH (.skip ?_))
 repeat' first
  |exact .skip (.done rfl trivial)
  |refine .br (fun _=>?_) fun _=>?_
  |refine .skip ?_
theorem Rb(n:Nat)(l:List (V8 Int))(hl:l.length<100000)(hn:l.length<n):At (jb.S n l) (fun(_:Bool×Int×Bool)=>True):=by
 refine(?_ :cO n (kL l) _);unfold kL;refine .skip (.inl (.skip (.op () rfl (.skip (.loop (fun a:Int=>iO l (fun _ (_:Unit)=>True) (a,())) (fun a=>l.length - a.toNat) (fun _=>True) rfl (iO.start trivial) (by simpa using hn) (fun a ha=>?_) (fun t _=>?_))))))
 ·refine .skip (.br (fun h=>?_) fun _=>.skip (.done rfl trivial))
  obtain⟨x,pre,h1,_,_,h5⟩:=ha.get h;refine .skip (.op x h1 (.skip (.call _ (QF n x) fun _ _=>.skip (.br (fun _=>?_) fun _=>.skip (.done rfl (h5 hl () trivial))))))
  refine .skip (.inl (.skip (.inl (.skip (.fH (.skip (.tidy rfl (.inl (.skip (.tidy rfl (.inl (.skip ?_))))))))))));exact .done rfl trivial
 ·cases t with
  |inl t=>exact .tidy rfl (.inl (.skip (.done rfl trivial)))
  |inr t=>exact .skip (.tidy rfl (.inl (.skip (.done rfl trivial))))
def LR(rs:List bt):Prop:=rs.length≤30∧∀r∈rs,r.A.fh.length≤80
theorem M5(m:List Int):(uniq m).length≤m.length:=by
 unfold uniq Lib.compact Lib.compactUpTo;rw[List.length_map];refine Nat.le_trans (List.length_filter_le _ _) ?_;simp
noncomputable def fD(n:Nat)(r:bt):Int:=((jb.S n r.A.fh).getD (false,0,false)).2.1
def gA(r:bt):List Int:=uniq (r.A.fh.filterMap fF)
theorem FN(r:bt):(gA r).length≤r.A.fh.length:=Nat.le_trans (M5 _) (List.length_filterMap_le _ _)
theorem nW{α β:Type}(g:α→List β)(b:Nat):∀(l:List α),(∀x∈l,(g x).length≤b)→(l.flatMap g).length≤l.length*b
 | [],_=>by simp
 |x::l,h=>by
  rw[List.flatMap_cons,List.length_append,List.length_cons,Nat.add_mul];have:=h x List.mem_cons_self;have:=nW g b l fun y hy=>h y (List.mem_cons_of_mem _ hy)
  omega
theorem Cf(f:aD)(leaf lo:Int)(sq:bt→Int)(ns:List jh)(rs:List bt)(mm:List (Int×Int))(hn:ns.length≤30)(hr:LR rs):(tP f leaf lo sq gA ns rs mm).length≤2430:=by
 unfold tP;rw[List.length_append];have h1:=nW (fq f leaf) 1 ns fun x _=>by
  unfold fq
  repeat' split
  all_goals simp
 have h2:=nW (fm mm lo sq gA) 80 rs fun r h=>by
  unfold fm;split
  ·simp
  split
  ·simp
  split
  ·simp
  have h3:=nW (gV mm r (sq r)) 1 (gA r) fun T _=>by unfold gV;split<;>simp
  have:=FN r;have:=hr.2 r h;omega
 have:=hr.1;omega
theorem QG(n:Nat)(hn:5000≤n)(f:aD)(hv:Vf f)(leaf:Int)(h0:0≤leaf)(h1:leaf<f.Leaves)(ns:List jh)(rs:List bt)(hns:ns.length≤30)(hr:LR rs):
 At (rG.S n (f,leaf,ns,rs)) (FF f leaf (184483841+leaf) (fD n) gA ns rs):=by
 have:=hr.1;refine Oe n f leaf _ ns rs (fD n) gA (DJ n hn f hv) h0 h1 (Py n hn f hv leaf h0 h1) (O0 n hn f hv) (by omega) (by omega) (by omega) (by omega) (fun r h=>?_) (fun mm=>?_)
 ·have h2:=hr.2 r h;have h3:=FN r;refine⟨?_,⟨_,JH n _ (by omega) (by omega),rfl⟩,by omega,by omega⟩
  obtain⟨q,e,_⟩:=Rb n r.A.fh (by omega) (by omega)
  exact⟨q,e,by unfold fD;rw[e];rfl⟩
 ·have:=Cf f leaf (184483841+leaf) (fD n) ns rs mm hns hr;omega
theorem M6{f:aD}{leaf lo:Int}{sq:bt→Int}{ns:List jh}{rs:List bt}{out:List Known}(h:FF f leaf lo sq gA ns rs out)(hn:ns.length≤30)(hr:LR rs):out.length≤2430:=by
 obtain⟨mm,m,_,hm,rfl⟩:=h;have h1:m.length≤(tP f leaf lo sq gA ns rs mm).length:=hm.len;have h2:=Cf f leaf lo sq ns rs mm hn hr;rw[List.length_map,(k6 (m.map (·.1))).1.length_eq,List.length_map];omega
theorem QH(f:aD)(hv:Vf f)(leaf:Int):Ru f leaf:=by
 have hr:∀c∈f.au.flatMap (jk leaf),0≤c∧c<(f.aI.length:Int):=fun c hc=>by
  obtain⟨t,ht,hc⟩:=List.mem_flatMap.1 hc;unfold jk at hc;split at hc
  ·exact(hv.seg t ht).2.2.2.1 c hc
  ·cases hc
 intro b hb c hc he;obtain⟨q1,q2⟩:=hr b hb;obtain⟨w1,w2⟩:=hr c hc;rw[E2 f hv c w1 w2,E2 f hv b q1 q2]at he;omega
theorem E5(n:Nat)(l:List Known)(hl:l.length<100000)(hn:l.length<n):At (xL.S n (l,l)) (fun(b:Bool)=>b=true):=by
 refine(?_ :cO n (rW l l) _);unfold rW;refine .skip (.op () rfl (.skip (.op () rfl (.skip (.br (fun h=>by simp at h) fun _=>.skip (.loop (fun a:Int=>iO l (fun _ (_:Unit)=>True) (a,())) (fun a=>l.length - a.toNat) (Sum.elim (fun _=>False) fun _=>True) rfl (iO.start trivial) (by simpa using hn) (fun a ha=>?_) (fun t ht=>?_)))))))
 ·refine .skip (.op () rfl (.skip (.br (fun h=>?_) fun h=>.skip (.done rfl trivial))))
  obtain⟨x,pre,h1,_,_,h4⟩:=ha.get h;refine .skip (.op x h1 (.skip (.op x h1 (.skip (.br (fun h5=>by simp at h5) fun _=>.skip (.done rfl (h4 hl () trivial)))))))
 ·cases t with
  |inl t=>exact ht.elim
  |inr t=>exact .skip (.done rfl rfl)
theorem M7(n:Nat)(l:List Int)(v:Int)(hl:l.length<100000)(hn:l.length<n):At (zf.S n (l,v)) (fun(b:Bool)=>b=decide (v∈l)):=by
 refine(?_ :cO n (ze l v) _);unfold ze;refine .skip (.loop (fun a:Int=>iO l (fun pre (_:Unit)=>v∉pre) (a,())) (fun a=>l.length - a.toNat) (Sum.elim (fun _=>v∈l) fun _=>v∉l) rfl (iO.start (by simp)) (by simpa using hn) (fun a ha=>?_) (fun t ht=>?_))
 ·refine .skip (.op () rfl (.skip (.br (fun h=>?_) fun h=>.skip (.done rfl (ha.fin h)))))
  obtain⟨x,pre,h1,h2,h3,h4⟩:=ha.get h;refine .skip (.op x h1 (.skip (.br (fun he=>.skip (.done rfl ?_)) fun he=>.skip (.done rfl (h4 hl () ?_)))))
  ·rw[beq_iff_eq]at he;subst he;exact h2
  ·rw[beq_eq_false_iff_ne]at he;simp only[List.mem_append,List.mem_singleton,not_or];exact⟨h3,fun h=>he h.symm⟩
 ·cases t with
  |inl t=>exact .done rfl (decide_eq_true (show v∈l from ht)).symm
  |inr t=>exact .skip (.done rfl (decide_eq_false (show v∉l from ht)).symm)
theorem M8(n:Nat)(hn:5000≤n)(f:aD)(hv:Vf f)(leaf:Int)(x:jh):At (nV.S n (f,leaf,x.aH,x.BD)) (fun(b:Bool)=>b=BV f leaf x):=by
 have hs:=O0 n hn f hv;refine(?_ :cO n (rX f leaf x.aH x.BD) _);unfold rX;refine .skip (.br (fun h1=>.skip (.op () rfl (.skip (.br (fun h2=>?_) fun h2=>.skip (.done rfl ?_))))) fun h1=>.skip (.done rfl ?_))
 ·simp only[ge_iff_le,decide_eq_true_eq]at h1 h2;have hlt:x.aH.toNat<f.au.length:=by omega
  have hat:ez f.au x.aH=some (f.au[x.aH.toNat]'hlt):=by
   have:=bg f.au x.aH.toNat;rw[show((x.aH.toNat:Nat):Int)=x.aH by omega]at this
   rw[this];exact List.getElem?_eq_getElem hlt
  have hmem:=List.getElem_mem hlt;generalize f.au[x.aH.toNat]'hlt=s at hat hmem;obtain⟨q1,q2,q3,q4,q5⟩:=hs.s s hmem;have ha:BV f leaf x=(decide (leaf∈s.Leaves)&&decide (x.BD∈s.aI)):=by unfold BV;rw[hat]
  refine .skip (.op s hat (.skip (.call _ (M7 n s.Leaves leaf q2 q1) fun(b:Bool) hb=>.skip (.br (fun h=>.skip (.op s hat (.skip (.call _ (M7 n s.aI x.BD q4 q3) fun(c:Bool) hc=>.skip (.done rfl ?_))))) fun h=>.skip (.done rfl ?_)))))
  ·rw[ha,← hb,← hc,h];rfl
  ·rw[ha,← hb,h];rfl
 ·simp only[ge_iff_le,decide_eq_true_eq,decide_eq_false_iff_not]at h1 h2;have:ez f.au x.aH=none:=by
   have:=bg f.au x.aH.toNat;rw[show((x.aH.toNat:Nat):Int)=x.aH by omega]at this
   rw[this];exact List.getElem?_eq_none (by omega)
  unfold BV;rw[this]
 ·simp only[ge_iff_le,decide_eq_false_iff_not]at h1;have:ez f.au x.aH=none:=by unfold ez;exact if_neg (by omega)
  unfold BV;rw[this]
end Go.L
end
