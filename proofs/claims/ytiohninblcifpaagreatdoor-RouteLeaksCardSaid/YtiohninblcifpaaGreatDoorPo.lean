/- Put together out of parts: The table of hops does not depend on the order of routes that have different ranks. No conditions. -/
import Derived.Test.YtiohninblcifpaaGreatDoorPk
section
namespace Go.L
open Go.AM
set_option maxRecDepth 100000
set_option linter.unusedVariables false
set_option linter.unusedSimpArgs false
end Go.L
end
section
namespace Go.L
open Go.AM
set_option maxRecDepth 100000
set_option linter.unusedVariables false
set_option linter.unusedSimpArgs false
end Go.L
end
section
namespace Go.L
open Go.AM
set_option maxRecDepth 100000
set_option linter.unusedVariables false
set_option linter.unusedSimpArgs false
theorem GC{aS:af→af→Bool}{k:bK}{all:List aB}{x:aB}:mu aS k all x=true↔x.av=k.From∧¬(⟨k.To,x.af⟩:aa)∈all.map kH∧aS k.af x.af=true:=by
 unfold mu;simp only[Bool.and_eq_true,beq_iff_eq,Bool.not_eq_true',decide_eq_false_iff_not,and_assoc]
theorem zj(aS:af→af→Bool)(own:List aB):∀(leaks:List bK) (a:List aB),(∀x∈a,x∈leaks.foldl (kY aS own) a)∧
 (∀x∈leaks.foldl (kY aS own) a,x∈a∨∃k∈leaks,∃y∈own,y.av=k.From∧aS k.af y.af=true∧x=jW k y)∧
 (∀k∈leaks,∀y∈own,y.av=k.From→aS k.af y.af=true→(⟨k.To,y.af⟩:aa)∈(leaks.foldl (kY aS own) a).map kH)
 | [],a=>⟨fun x h=>h,fun x h=>.inl h,fun k hk=>by cases hk⟩
 |k::ks,a=>by
  obtain⟨h1,h2,h3⟩:=zj aS own ks (kY aS own a k);simp only[List.foldl_cons];have hsub:∀x∈a,x∈kY aS own a k:=fun x hx=>List.mem_append.2 (.inl hx)
  have hall:∀y∈own,y.av=k.From→aS k.af y.af=true→(⟨k.To,y.af⟩:aa)∈(kY aS own a k).map kH:=fun y hy ht hc=>by
   unfold kY;rw[List.map_append,List.mem_append];by_cases hin:(⟨k.To,y.af⟩:aa)∈a.map kH
   ·exact .inl hin
   ·exact .inr (List.mem_map.2 ⟨jW k y,List.mem_map.2 ⟨y,List.mem_filter.2 ⟨hy,GC.2 ⟨ht,hin,hc⟩⟩,rfl⟩,rfl⟩)
  refine⟨fun x hx=>h1 x (hsub x hx),fun x hx=>?_,fun k' hk' y hy ht hc=>?_⟩
  ·rcases h2 x hx with h |⟨k',hk',y,hy,e⟩
   ·unfold kY at h;rcases List.mem_append.1 h with h |h
    ·exact .inl h
    ·obtain⟨y,hy,rfl⟩:=List.mem_map.1 h;obtain⟨hy1,hy2⟩:=List.mem_filter.1 hy;obtain⟨c1,_,c3⟩:=GC.1 hy2;exact .inr ⟨k,List.mem_cons_self,y,hy1,c1,c3,rfl⟩
   ·exact .inr ⟨k',List.mem_cons_of_mem _ hk',y,hy,e⟩
  ·rcases List.mem_cons.1 hk' with rfl |hk'
   ·obtain⟨z,hz,he⟩:=List.mem_map.1 (hall y hy ht hc);exact List.mem_map.2 ⟨z,h1 z hz,he⟩
   ·exact h3 k' hk' y hy ht hc
theorem MW(aS:af→af→Bool)(leaks:List bK)(own:List aB)(x:aB)(h:x∈own):x∈wu aS leaks own:=(zj aS own leaks own).1 x h
theorem MX(aS:af→af→Bool)(leaks:List bK)(own:List aB)(x:aB)(h:x∈wu aS leaks own):x∈own∨∃k∈leaks,∃y∈own,y.av=k.From∧aS k.af y.af=true∧x=jW k y:=(zj aS own leaks own).2.1 x h
theorem MY(aS:af→af→Bool)(leaks:List bK)(own:List aB)(k:bK)(hk:k∈leaks)(y:aB)(hy:y∈own)(ht:y.av=k.From)(hc:aS k.af y.af=true):∃z∈wu aS leaks own,z.av=k.To∧z.af=y.af:=by
 obtain⟨z,hz,he⟩:=List.mem_map.1 ((zj aS own leaks own).2.2 k hk y hy ht hc);unfold kH at he;injection he with e1 e2;exact⟨z,hz,e1,e2⟩
end Go.L
end
section
namespace Go.L
open Go.AM
set_option maxRecDepth 100000
set_option linter.unusedVariables false
set_option linter.unusedSimpArgs false
theorem D2{f:aG}{leaf:Int}{up:List Bool}{rs:List cz}{K:jT}{x:aB}:x∈mw f leaf up rs K↔x∈wu K.aS f.Leaks (pN (tF f leaf up K rs)):=by
 unfold mw;exact(jx _).1.mem_iff
theorem MZ(f:aG)(leaf:Int)(up:List Bool)(rs:List cz)(K:jT)(hl:f.Leaks=[]):mw f leaf up rs K=hU (pN (tF f leaf up K rs)):=by
 unfold mw wu;rw[hl];rfl
end Go.L
end
section
namespace Go.L
open Go.AM
set_option maxRecDepth 100000
set_option linter.unusedVariables false
set_option linter.unusedSimpArgs false
def O8{α:Type}(o:Option α):Prop:=∃r,o=some r
theorem O8.at{α:Type}{o:Option α}(h:O8 o)(d:α):At o (fun r=>r=o.getD d):=by
 obtain⟨r,h⟩:=h;exact⟨r,h,by rw[h];rfl⟩
theorem _root_.Go.AM.At.GD{α:Type}{o:Option α}{p:α→Prop}(h:At o p):O8 o:=by
 obtain⟨r,h,_⟩:=h;exact⟨r,h⟩
theorem FK(n:Nat)(p:af):At (lW.S n p) (fun(b:Bool)=>b=true→0≤p.Len∧p.Len≤32):=by
 refine(?_ :cU n (rH p) _);unfold rH;exact .skip (.br (fun h=>.skip (.done rfl fun h2=>⟨by simpa using h,by simpa using h2⟩)) fun h=>.skip (.done rfl fun h2=>by cases h2))
theorem Qu(n:Nat)(l:Int)(h0:0≤l)(h1:l≤32):At (qM.S n l) (fun(_:Int)=>True):=by
 refine(?_ :cU n (tD l) _);unfold tD;refine .skip (.op () (if_pos ?_) (.skip (.done rfl trivial)));exact decide_eq_true (by rw[wrap_i64 (by omega) (by omega)];omega)
theorem EZ(n:Nat)(p:af)(ip:Int):At (dH.S n (p,ip)) (fun(_:Bool)=>True):=by
 refine(?_ :cU n (om p ip) _);unfold om;refine .skip (.call _ (FK n p) fun r3 h3=>.skip (.br (fun h=>?_) fun _=>.skip (.done rfl trivial)))
 obtain⟨h0,h1⟩:=h3 h;exact .skip (.call _ (Qu n _ h0 h1) fun _ _=>.skip (.done rfl trivial))
theorem Oh(n:Nat)(p q:af):At (jG.S n (p,q)) (fun(_:Bool)=>True):=by
 refine(?_ :cU n (qA p q) _);unfold qA;exact .skip (.call _ (FK n p) fun r3 h3=>.skip (.br (fun h=>.skip (.call _ (FK n q) fun r4 h4=>.skip (.br (fun h2=>.skip (.br (fun h5=>.skip (.call _ (EZ n p _) fun _ _=>.skip (.done rfl trivial))) fun _=>.skip (.done rfl trivial))) fun _=>.skip (.done rfl trivial)))) fun _=>.skip (.done rfl trivial)))
theorem Re(n:Nat)(i:Int):At (kJ.S n i) (fun(_:dn Int×Int)=>True):=by
 refine(?_ :cU n (td i) _);unfold td;exact .skip (.br (fun _=>.skip (.done rfl trivial)) fun _=>.skip (.br (fun _=>.skip (.done rfl trivial)) fun _=>.skip (.done rfl trivial)))
theorem PE(n:Nat)(i:Int):At (vc.S n i) (fun(_:Int×Int)=>True):=by
 refine(?_ :cU n (ou i) _);unfold ou;exact .skip (.br (fun _=>.skip (.done rfl trivial)) fun _=>.skip (.br (fun _=>.skip (.done rfl trivial)) fun _=>.skip (.done rfl trivial)))
theorem Qv(n:Nat)(f:aG)(i:Int)(h:O8 (fI.S n f)):At (ig.S n (f,i)) (fun(_:Int)=>True):=by
 refine(?_ :cU n (mQ f i) _);unfold mQ;obtain⟨v,hv⟩:=h;have hval:At (vR.S n f) (fun(_:Bool)=>True):=by
  refine(?_ :cU n (pI f) _);unfold pI;exact .skip (.call (fun _=>True) ⟨v,hv,trivial⟩ fun _ _=>.skip (.done rfl trivial))
 have hw:∀a b,At (eN.S n (a,b)) (fun(_:Bool)=>True):=fun a b=>by
  refine(?_ :cU n (kA a b) _);unfold kA;exact .skip (.br (fun _=>.skip (.done rfl trivial)) fun _=>.skip (.done rfl trivial))
 have hl:At (tc.S n i) (fun(_:Int)=>True):=by
  refine(?_ :cU n (mP i) _);unfold mP;exact .skip (.call _ (PE n i) fun _ _=>.skip (.done rfl trivial))
 exact .skip (.call _ hval fun _ _=>.skip (.br (fun _=>.skip (.done rfl trivial)) fun _=>.skip (.call _ (hw _ _) fun _ _=>.skip (.br (fun _=>.skip (.done rfl trivial)) fun _=>.skip (.call _ hl fun _ _=>.skip (.done rfl trivial))))))
theorem M0(n:Nat)(c:V8 Int):At (oK.S n c) (fun(_:Int)=>True):=by
 refine(?_ :cU n (tE c) _);unfold tE;refine .skip (.gT (.skip ?_))
 repeat' first
  |exact .skip (.done rfl trivial)
  |refine .br (fun _=>?_) fun _=>?_
  |refine .skip ?_
theorem Rf(n:Nat)(l:List (V8 Int))(hl:l.length<100000)(hn:l.length<n):At (dV.S n l) (fun(_:Bool×Int×Bool)=>True):=by
 refine(?_ :cU n (s5 l) _);unfold s5;refine .skip (.inl (.skip (.op () rfl (.skip (.loop (fun a:Int=>dA l (fun _ (_:Unit)=>True) (a,())) (fun a=>l.length - a.toNat) (fun _=>True) rfl (dA.start trivial) (by simpa using hn) (fun a ha=>?_) (fun t _=>?_))))))
 ·refine .skip (.br (fun h=>?_) fun _=>.skip (.done rfl trivial))
  obtain⟨x,pre,h1,_,_,_,h5⟩:=ha.get h;refine .skip (.op x h1 (.skip (.call _ (M0 n x) fun _ _=>.skip (.br (fun _=>?_) fun _=>.skip (.done rfl (h5 hl () trivial))))))
  refine .skip (.inl (.skip (.inl (.skip (.gT (.skip (.tidy rfl (.inl (.skip (.tidy rfl (.inl (.skip ?_))))))))))));exact .done rfl trivial
 ·cases t with
  |inl t=>exact .tidy rfl (.inl (.skip (.done rfl trivial)))
  |inr t=>exact .skip (.tidy rfl (.inl (.skip (.done rfl trivial))))
theorem Qw(n:Nat)(c:V8 Int):At (Dw.S n c) (fun(_:Int)=>True):=by
 refine(?_ :cU n (zK c) _);unfold zK
 repeat' first
  |exact .done rfl trivial
  |refine .skip ?_
  |refine .gT ?_
  |refine .inl ?_
  |refine .tidy rfl ?_
theorem RB(n:Nat)(l:List (V8 Int))(hl:l.length<100000)(hn:l.length<n):At (fO.S n l) (fun(_:Int×Bool)=>True):=by
 refine(?_ :cU n (uZ l) _);unfold uZ;refine .skip (.inl (.skip (.op () rfl (.skip (.loop (fun a:Int=>dA l (fun _ (_:Unit)=>True) (a,())) (fun a=>l.length - a.toNat) (fun _=>True) rfl (dA.start trivial) (by simpa using hn) (fun a ha=>?_) (fun t _=>?_))))))
 ·refine .skip (.br (fun h=>?_) fun _=>.skip (.done rfl trivial))
  obtain⟨x,pre,h1,_,_,_,h5⟩:=ha.get h;refine .skip (.op x h1 (.skip (.call _ (M0 n x) fun _ _=>.skip (.br (fun _=>?_) fun _=>.skip (.done rfl (h5 hl () trivial))))))
  exact .skip (.call _ (Qw n x) fun _ _=>.skip (.done rfl trivial))
 ·cases t with
  |inl t=>exact .tidy rfl (.inl (.skip (.done rfl trivial)))
  |inr t=>exact .skip (.tidy rfl (.inl (.skip (.done rfl trivial))))
theorem Qx(n:Nat)(l:List aB)(h:l.length<1000000000):At (l8.S n l) (fun r=>r=hU l):=
 ⟨hU l,if_pos (by omega),rfl⟩
theorem GF{α β:Type}(g:Nat→α→List β)(h:∀i x,(g i x).length≤1)(l:List α):(gY g l).length≤l.length:=by
 unfold gY;rw[List.length_flatMap];have:∀(m:List (α×Nat)),(m.map fun p=>(g p.2 p.1).length).sum≤m.length:=by
  intro m;induction m with
  |nil=>exact Nat.le_refl _
  |cons p m ih=>simp only[List.map_cons,List.sum_cons,List.length_cons];have:=h p.2 p.1;omega
 have:=this l.zipIdx;rwa[List.length_zipIdx]at this
theorem GG(f:aG)(leaf:Int)(up:List Bool)(K:jT)(r:cz):(CW f leaf up K r).length≤(K.tg r).length:=by
 unfold CW rS;split
 ·rw[List.length_flatMap];have:∀T,(jm f K.lo (zi f leaf) (IJ f leaf up K.es) (Kq f) (O6 f) (O7 f leaf) (fun p=>K.eV p r.N.IP) (K.sq r) (K.rt r) (K.tg r) r T).length≤1:=fun T=>by
   unfold jm;split
   ·exact Nat.zero_le _
   ·split
    ·cases xM f K.lo (zi f leaf) (IJ f leaf up K.es) (Kq f) _ (fun p=>K.eV p r.N.IP) (K.sq r) (K.rt r) (K.tg r) r<;>simp
    ·cases Cf K.lo _ (O7 f leaf) (K.rt r) r<;>simp
  generalize K.tg r=ts at this;have h2:∀(m:List Int),(m.map fun T=>(jm f K.lo (zi f leaf) (IJ f leaf up K.es) (Kq f) (O6 f) (O7 f leaf) (fun p=>K.eV p r.N.IP) (K.sq r) (K.rt r) ts r T).length).sum≤m.length:=by
   intro m;induction m with
   |nil=>exact Nat.le_refl _
   |cons T m ih=>simp only[List.map_cons,List.sum_cons,List.length_cons];have:=this T;omega
  exact h2 ts
 ·exact Nat.zero_le _
theorem M1(n:Nat)(f:aG)(leaf:Int)(up:List Bool)(rs:List cz)(b:Nat)(hn:11≤n)(hck:At (fI.S n f) (fun(r:Int×ByteArray×Int)=>r.1=0))(h0:0≤leaf)(h1:leaf<f.Leaves)(seg:EW n f)
 (rl:rs.length<100000) (rn:rs.length<n) (hc:∀r∈rs,r.A.dW.length<100000∧r.A.dW.length<n) (ht:∀r∈rs,At (gE.S n r.A.dW) (fun(q:List Int)=>q.length≤b)) (hb:b<100000) (hbn:b<n)
 (kl:f.Leaks.length<100000) (kn:f.Leaks.length<n) (cs:f.aO.length+rs.length*b<90000) (cn:f.aO.length+rs.length*b+1<n) (sz:(f.aO.length+rs.length*b+1)*(f.Leaks.length+2)<1000000000):
 Ci n f leaf up rs (Kc n f leaf) hU:=by
 have htg:∀r∈rs,At (gE.S n r.A.dW) (fun(q:List Int)=>q=(Kc n f leaf).tg r):=fun r hr=>(ht r hr).GD.at ([]:List Int)
 have htl:∀r∈rs,((Kc n f leaf).tg r).length≤b:=fun r hr=>by
  obtain⟨q,h1,h2⟩:=ht r hr;obtain⟨q',h3,h4⟩:=htg r hr;rw[h1]at h3;cases h3;rw[← h4];exact h2
 have hlen:(mR f leaf up (Kc n f leaf) rs).length≤f.aO.length+rs.length*b:=by
  unfold mR;rw[List.length_append];have h1:(xL f (zi f leaf)).length≤f.aO.length:=GF _ (fun i x=>by unfold qY;split<;>simp) _
  have h2:∀(l:List cz),(∀r∈l,r∈rs)→(l.flatMap (CW f leaf up (Kc n f leaf))).length≤l.length*b:=by
   intro l;induction l with
   |nil=>intro _;simp
   |cons r l ih=>
    intro h;rw[List.flatMap_cons,List.length_append,List.length_cons,Nat.add_mul];have:=ih fun x hx=>h x (List.mem_cons_of_mem _ hx)
    have h3:=GG f leaf up (Kc n f leaf) r;have h4:=htl r (h r List.mem_cons_self);omega
  have:=h2 rs fun _ h=>h
  omega
 exact {
  hn:=hn,ck:=hck,h0:=h0,h1:=h1
  lo:=(Qv n f leaf hck.GD).GD.at (0:Int)
  seg:=seg
  es:=fun i _=>by
   obtain⟨r,h⟩:=(Re n (i:Int)).GD;exact⟨r,h,by show r.1=((kJ.S n (i:Int)).getD _).1;rw[h];rfl⟩
  rl:=rl,rn:=rn
  tg:=htg
  rt:=fun r hr=>(RB n _ (hc r hr).1 (hc r hr).2).GD.at ((0,false):Int×Bool)
  sq:=fun r hr=>by
   obtain⟨q,h⟩:=(Rf n _ (hc r hr).1 (hc r hr).2).GD;exact⟨q,h,by show q.2.1=((dV.S n r.A.dW).getD _).2.1;rw[h];rfl⟩
  tl:=fun r hr=>⟨Nat.lt_of_le_of_lt (htl r hr) hb,Nat.lt_of_le_of_lt (htl r hr) hbn⟩
  eV:=fun r _ d _=>(EZ n d.bq r.N.IP).GD.at false
  aS:=fun k _ p=>(Oh n k.af p).GD.at false
  kl:=kl,kn:=kn
  cs:=by omega
  sz:=Nat.lt_of_le_of_lt (Nat.mul_le_mul_right _ (by omega)) sz
  cn:=by omega
  so:=fun l h=>Qx n l h
  sl:=fun l=>(jx l).1.length_eq}
end Go.L
end
section
namespace Go.L
open Go.AM
set_option maxRecDepth 100000
set_option linter.unusedVariables false
set_option linter.unusedSimpArgs false
def mz(f:aG):aG:={f with Leaks:=[]}
theorem PF(f:aG)(leaf:Int)(up:List Bool)(rs:List cz)(K:jT):tF (mz f) leaf up K rs=tF f leaf up K rs:=rfl
theorem Bf{f:aG}{leaf:Int}{up:List Bool}{rs:List cz}{K:jT}{x:aB}:x∈mw (mz f) leaf up rs K↔x∈pN (tF f leaf up K rs):=by
 rw[MZ (mz f) leaf up rs K rfl,PF];exact(jx _).1.mem_iff
theorem Qy{f:aG}{leaf:Int}{up:List Bool}{rs:List cz}{K:jT}{x:aB}(h:x∈mw (mz f) leaf up rs K):x∈mw f leaf up rs K:=
 D2.2 (MW _ _ _ x (Bf.1 h))
theorem Qz{f:aG}{leaf:Int}{up:List Bool}{rs:List cz}{K:jT}{x:aB}(h:x∈mw f leaf up rs K):
 x∈mw (mz f) leaf up rs K∨∃k∈f.Leaks,k.To=x.av∧K.aS k.af x.af=true∧Go.L.aB.mk k.From x.af x.BD x.Next x.dz x.bV x.cF∈mw (mz f) leaf up rs K:=by
 rcases MX _ _ _ x (D2.1 h)with h |⟨k,hk,y,hy,ht,hc,rfl⟩
 ·exact .inl (Bf.2 h)
 ·refine .inr ⟨k,hk,rfl,hc,Bf.2 ?_⟩;have:Go.L.aB.mk k.From (jW k y).af (jW k y).BD (jW k y).Next (jW k y).dz (jW k y).bV (jW k y).cF=y:=by
   rw[← ht];rfl
  rw[this];exact hy
theorem QA{f:aG}{leaf:Int}{up:List Bool}{rs:List cz}{K:jT}{y:aB}{k:bK}(hk:k∈f.Leaks)(h:y∈mw (mz f) leaf up rs K)(ht:y.av=k.From)(hc:K.aS k.af y.af=true):
 ∃z∈mw f leaf up rs K,z.av=k.To∧z.af=y.af:=by
 obtain⟨z,hz,e⟩:=MY K.aS f.Leaks _ k hk y (Bf.1 h) ht hc;exact⟨z,D2.2 hz,e⟩
def M3(i:Int):Int:=Go.IntKind.wrap .u32 ((Go.IntKind.wrap .u32 ((184483840:Int)+(Go.IntKind.wrap .u32 i)))+(1:Int))
theorem DA(n:Nat)(f:aG)(i:Int)(hck:At (fI.S n f) (fun(r:Int×ByteArray×Int)=>r.1=0))(h0:0≤i)(h1:i<f.Leaves)(h2:0≤f.fD)(h3:f.Leaves+f.fD≤32):At (ig.S n (f,i)) (fun(r:Int)=>r=M3 i):=by
 refine(?_ :cU n (mQ f i) _);unfold mQ;have hval:At (vR.S n f) (fun(b:Bool)=>b=true):=by
  refine(?_ :cU n (pI f) _);unfold pI;exact .skip (.call _ hck fun r hr=>.skip (.done rfl (by rw[hr];rfl)))
 have hw:∀b,i<b→At (eN.S n (i,b)) (fun(r:Bool)=>r=true):=fun b hb=>by
  refine(?_ :cU n (kA i b) _);unfold kA;exact .skip (.br (fun _=>.skip (.done rfl (decide_eq_true hb))) fun h=>absurd h0 (by simpa using h))
 have hl:At (tc.S n i) (fun(r:Int)=>r=M3 i):=by
  refine(?_ :cU n (mP i) _);unfold mP;have:At (vc.S n i) (fun(r:Int×Int)=>r.1=M3 i):=by
   refine(?_ :cU n (ou i) _);unfold ou;exact .skip (.br (fun h=>absurd h0 (by simpa using h)) fun _=>.skip (.br (fun h=>by simp only[ge_iff_le,decide_eq_true_eq]at h;omega) fun _=>.skip (.done rfl rfl)))
  exact .skip (.call _ this fun r hr=>.skip (.done rfl hr))
 refine .skip (.call _ hval fun r3 h3'=>.skip (.br (fun h=>by rw[h3']at h;cases h) fun _=>.skip (.call _ (hw _ ?_) fun r5 h5=>.skip (.br (fun h=>by rw[h5]at h;cases h) fun _=>.skip (.call _ hl fun r7 h7=>.skip (.done rfl h7))))))
 rw[wrap_i64 (by omega) (by omega)];omega
theorem PG(n:Nat)(f:aG)(leaf:Int)(h:At (ig.S n (f,leaf)) (fun(r:Int)=>r=M3 leaf))(h':At (ig.S n (mz f,leaf)) (fun(r:Int)=>r=M3 leaf)):Kc n (mz f) leaf=Kc n f leaf:=by
 obtain⟨r,e1,e2⟩:=h;obtain⟨r',e3,e4⟩:=h';unfold Kc;rw[e1,e3,e2,e4]
end Go.L
end
