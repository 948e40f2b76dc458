/- Parts put together. No conditions. -/
import Derived.Test.YtiohninblcifpaaGreatDoorPk
set_option linter.unusedSimpArgs false
set_option linter.unusedVariables false
set_option maxRecDepth 100000
section
namespace Go.L
open Go.AM
end Go.L
end
section
namespace Go.L
open Go.AM
end Go.L
end
section
namespace Go.L
open Go.AM
end Go.L
end
section
namespace Go.L
open Go.AM
end Go.L
end
section
namespace Go.L
open Go.AM
def J7{α:Type}(o:Option α):Prop:=∃r,o=some r
theorem J7.at{α:Type}{o:Option α}(h:J7 o)(d:α):At o (fun r=>r=o.getD d):=by
 obtain⟨r,h⟩:=h;exact⟨r,h,by rw[h];rfl⟩
theorem _root_.Go.AM.At.Dt{α:Type}{o:Option α}{p:α→Prop}(h:At o p):J7 o:=by
 obtain⟨r,h,_⟩:=h;exact⟨r,h⟩
theorem CB(n:Nat)(p:ah):At (mL.S n p) (fun(b:Bool)=>b=true→0≤p.Len∧p.Len≤32):=by
 refine(?_ :cH n (ux p) _);unfold ux;exact .skip (.br (fun h=>.skip (.done rfl fun h2=>⟨by simpa using h,by simpa using h2⟩)) fun h=>.skip (.done rfl fun h2=>by cases h2))
theorem Lc(n:Nat)(l:Int)(h0:0≤l)(h1:l≤32):At (vJ.S n l) (fun(_:Int)=>True):=by
 refine(?_ :cH n (vI l) _);unfold vI;refine .skip (.op () (if_pos ?_) (.skip (.done rfl trivial)));grind [wrap_i64]
theorem BV(n:Nat)(p:ah)(ip:Int):At (de.S n (p,ip)) (fun(_:Bool)=>True):=by
 refine(?_ :cH n (pY p ip) _);unfold pY;refine .skip (.call _ (CB n p) fun r3 h3=>.skip (.br (fun h=>?_) fun _=>.skip (.done rfl trivial)))
 obtain⟨h0,h1⟩:=h3 h;exact .skip (.call _ (Lc n _ h0 h1) fun _ _=>.skip (.done rfl trivial))
theorem JI(n:Nat)(p q:ah):At (iE.S n (p,q)) (fun(_:Bool)=>True):=by
 refine(?_ :cH n (s5 p q) _);unfold s5;exact .skip (.call _ (CB n p) fun r3 h3=>.skip (.br (fun h=>.skip (.call _ (CB n q) fun r4 h4=>.skip (.br (fun h2=>.skip (.br (fun h5=>.skip (.call _ (BV n p _) fun _ _=>.skip (.done rfl trivial))) fun _=>.skip (.done rfl trivial))) fun _=>.skip (.done rfl trivial)))) fun _=>.skip (.done rfl trivial)))
theorem LI(n:Nat)(i:Int):At (gJ.S n i) (fun(_:bE Int×Int)=>True):=by
 refine(?_ :cH n (nT i) _);unfold nT;exact .skip (.br (fun _=>.skip (.done rfl trivial)) fun _=>.skip (.br (fun _=>.skip (.done rfl trivial)) fun _=>.skip (.done rfl trivial)))
theorem KD(n:Nat)(i:Int):At (vg.S n i) (fun(_:Int×Int)=>True):=by
 refine(?_ :cH n (qh i) _);unfold qh;exact .skip (.br (fun _=>.skip (.done rfl trivial)) fun _=>.skip (.br (fun _=>.skip (.done rfl trivial)) fun _=>.skip (.done rfl trivial)))
theorem Ld(n:Nat)(f:aB)(i:Int)(h:J7 (dg.S n f)):At (iH.S n (f,i)) (fun(_:Int)=>True):=by
 refine(?_ :cH n (nS f i) _);unfold nS;obtain⟨v,hv⟩:=h;have hval:At (wG.S n f) (fun(_:Bool)=>True):=by
  refine(?_ :cH n (qY f) _);unfold qY;exact .skip (.call (fun _=>True) ⟨v,hv,trivial⟩ fun _ _=>.skip (.done rfl trivial))
 have hw:∀a b,At (fE.S n (a,b)) (fun(_:Bool)=>True):=fun a b=>by
  refine(?_ :cH n (pU a b) _);unfold pU;exact .skip (.br (fun _=>.skip (.done rfl trivial)) fun _=>.skip (.done rfl trivial))
 have hl:At (tj.S n i) (fun(_:Int)=>True):=by
  refine(?_ :cH n (nR i) _);unfold nR;exact .skip (.call _ (KD n i) fun _ _=>.skip (.done rfl trivial))
 exact .skip (.call _ hval fun _ _=>.skip (.br (fun _=>.skip (.done rfl trivial)) fun _=>.skip (.call _ (hw _ _) fun _ _=>.skip (.br (fun _=>.skip (.done rfl trivial)) fun _=>.skip (.call _ hl fun _ _=>.skip (.done rfl trivial))))))
theorem ID(n:Nat)(c:V8 Int):At (rM.S n c) (fun(_:Int)=>True):=by
 refine(?_ :cH n (vO c) _);unfold vO;refine .skip (.eG (.skip ?_))
 repeat' first
  |exact .skip (.done rfl trivial)
  |refine .br (fun _=>?_) fun _=>?_
  |refine .skip ?_
theorem LJ(n:Nat)(l:List (V8 Int))(hl:l.length<100000)(hn:l.length<n):At (cQ.S n l) (fun(_:Bool×Int×Bool)=>True):=by
 refine(?_ :cH n (nL l) _);unfold nL;refine .skip (.inl (.skip (.op () rfl (.skip (.loop (fun a:Int=>dP l (fun _ (_:Unit)=>True) (a,())) (fun a=>l.length - a.toNat) (fun _=>True) rfl (dP.start trivial) (by simpa using hn) (fun a ha=>?_) (fun t _=>?_))))))
 ·refine .skip (.br (fun h=>?_) fun _=>.skip (.done rfl trivial))
  obtain⟨x,pre,h1,_,_,_,h5⟩:=ha.get h;refine .skip (.op x h1 (.skip (.call _ (ID n x) fun _ _=>.skip (.br (fun _=>?_) fun _=>.skip (.done rfl (h5 hl () trivial))))))
  refine .skip (.inl (.skip (.inl (.skip (.eG (.skip (.tidy rfl (.inl (.skip (.tidy rfl (.inl (.skip ?_))))))))))));exact .done rfl trivial
 ·cases t with
  |inl t=>exact .tidy rfl (.inl (.skip (.done rfl trivial)))
  |inr t=>exact .skip (.tidy rfl (.inl (.skip (.done rfl trivial))))
theorem Le(n:Nat)(c:V8 Int):At (Ah.S n c) (fun(_:Int)=>True):=by
 refine(?_ :cH n (vP c) _);unfold vP
 repeat' first
  |exact .done rfl trivial
  |refine .skip ?_
  |refine .eG ?_
  |refine .inl ?_
  |refine .tidy rfl ?_
theorem Mh(n:Nat)(l:List (V8 Int))(hl:l.length<100000)(hn:l.length<n):At (dU.S n l) (fun(_:Int×Bool)=>True):=by
 refine(?_ :cH n (qb l) _);unfold qb;refine .skip (.inl (.skip (.op () rfl (.skip (.loop (fun a:Int=>dP l (fun _ (_:Unit)=>True) (a,())) (fun a=>l.length - a.toNat) (fun _=>True) rfl (dP.start trivial) (by simpa using hn) (fun a ha=>?_) (fun t _=>?_))))))
 ·refine .skip (.br (fun h=>?_) fun _=>.skip (.done rfl trivial))
  obtain⟨x,pre,h1,_,_,_,h5⟩:=ha.get h;refine .skip (.op x h1 (.skip (.call _ (ID n x) fun _ _=>.skip (.br (fun _=>?_) fun _=>.skip (.done rfl (h5 hl () trivial))))))
  exact .skip (.call _ (Le n x) fun _ _=>.skip (.done rfl trivial))
 ·cases t with
  |inl t=>exact .tidy rfl (.inl (.skip (.done rfl trivial)))
  |inr t=>exact .skip (.tidy rfl (.inl (.skip (.done rfl trivial))))
theorem Lf(n:Nat)(l:List au)(h:l.length<1000000000):At (ig.S n l) (fun r=>r=eT l):=
 ⟨eT l,if_pos (by omega),rfl⟩
theorem IE{α β:Type}(g:Nat→α→List β)(h:∀i x,(g i x).length≤1)(l:List α):(eZ g l).length≤l.length:=by
 unfold eZ;rw[List.length_flatMap];have:∀(m:List (α×Nat)),(m.map fun p=>(g p.2 p.1).length).sum≤m.length:=by
  intro m;induction m with
  |nil=>exact Nat.le_refl _
  |cons p m ih=>grind
 have:=this l.zipIdx;rwa[List.length_zipIdx]at this
theorem IF(f:aB)(leaf:Int)(up:List Bool)(K:jc)(r:bL):(BS f leaf up K r).length≤(K.tg r).length:=by
 unfold BS mU;split
 ·rw[List.length_flatMap];have:∀T,(fT f K.lo (xJ f leaf) (Gl f leaf up K.es) (Iy f) (J6 f) (K9 f leaf) (fun p=>K.dA p r.N.IP) (K.sq r) (K.rt r) (K.tg r) r T).length≤1:=fun T=>by
   unfold fT;grind
  generalize K.tg r=ts at this;have h2:∀(m:List Int),(m.map fun T=>(fT f K.lo (xJ f leaf) (Gl f leaf up K.es) (Iy f) (J6 f) (K9 f leaf) (fun p=>K.dA p r.N.IP) (K.sq r) (K.rt r) ts r T).length).sum≤m.length:=by
   intro m;induction m with
   |nil=>exact Nat.le_refl _
   |cons T m ih=>grind
  exact h2 ts
 ·exact Nat.zero_le _
theorem IG(n:Nat)(f:aB)(leaf:Int)(up:List Bool)(rs:List bL)(b:Nat)(hn:11≤n)(hck:At (dg.S n f) (fun(r:Int×ByteArray×Int)=>r.1=0))(h0:0≤leaf)(h1:leaf<f.Leaves)(seg:BQ n f)
 (rl:rs.length<100000) (rn:rs.length<n) (hc:∀r∈rs,r.A.dF.length<100000∧r.A.dF.length<n) (ht:∀r∈rs,At (dh.S n r.A.dF) (fun(q:List Int)=>q.length≤b)) (hb:b<100000) (hbn:b<n)
 (kl:f.Leaks.length<100000) (kn:f.Leaks.length<n) (cs:f.aQ.length+rs.length*b<90000) (cn:f.aQ.length+rs.length*b+1<n) (sz:(f.aQ.length+rs.length*b+1)*(f.Leaks.length+2)<1000000000):
 sL n f leaf up rs (Kc n f leaf) eT:=by
 have htg:∀r∈rs,At (dh.S n r.A.dF) (fun(q:List Int)=>q=(Kc n f leaf).tg r):=fun r hr=>(ht r hr).Dt.at ([]:List Int)
 have htl:∀r∈rs,((Kc n f leaf).tg r).length≤b:=fun r hr=>by
  obtain⟨q,h1,h2⟩:=ht r hr;obtain⟨q',h3,h4⟩:=htg r hr;grind
 have hlen:(kT f leaf up (Kc n f leaf) rs).length≤f.aQ.length+rs.length*b:=by
  unfold kT;rw[List.length_append];have h1:(vi f (xJ f leaf)).length≤f.aQ.length:=IE _ (fun i x=>by unfold nC;split<;>simp) _
  have h2:∀(l:List bL),(∀r∈l,r∈rs)→(l.flatMap (BS f leaf up (Kc n f leaf))).length≤l.length*b:=by
   intro l;induction l with
   |nil=>intro _;simp
   |cons r l ih=>
    intro h;rw[List.flatMap_cons,List.length_append,List.length_cons,Nat.add_mul];have:=ih fun x hx=>h x (List.mem_cons_of_mem _ hx)
    have h3:=IF f leaf up (Kc n f leaf) r;grind
  have:=h2 rs fun _ h=>h
  omega
 exact {
  hn:=hn,ck:=hck,h0:=h0,h1:=h1
  lo:=(Ld n f leaf hck.Dt).Dt.at (0:Int)
  seg:=seg
  es:=fun i _=>by
   obtain⟨r,h⟩:=(LI n (i:Int)).Dt;exact⟨r,h,by show r.1=((gJ.S n (i:Int)).getD _).1;rw[h];rfl⟩
  rl:=rl,rn:=rn
  tg:=htg
  rt:=fun r hr=>(Mh n _ (hc r hr).1 (hc r hr).2).Dt.at ((0,false):Int×Bool)
  sq:=fun r hr=>by
   obtain⟨q,h⟩:=(LJ n _ (hc r hr).1 (hc r hr).2).Dt;exact⟨q,h,by show q.2.1=((cQ.S n r.A.dF).getD _).2.1;rw[h];rfl⟩
  tl:=fun r hr=>⟨Nat.lt_of_le_of_lt (htl r hr) hb,Nat.lt_of_le_of_lt (htl r hr) hbn⟩
  dA:=fun r _ d _=>(BV n d.bK r.N.IP).Dt.at false
  aN:=fun k _ p=>(JI n k.ah p).Dt.at false
  kl:=kl,kn:=kn
  cs:=by omega
  sz:=Nat.lt_of_le_of_lt (Nat.mul_le_mul_right _ (by omega)) sz
  cn:=by omega
  so:=fun l h=>Lf n l h
  sl:=fun l=>(iZ l).1.length_eq}
end Go.L
end
section
namespace Go.L
open Go.AM
end Go.L
end
