/- Parts put together. No conditions. -/
import Derived.Test.YtiohninblcifpaaGreatDoorPk
set_option linter.unusedSimpArgs false
set_option linter.unusedVariables false
set_option maxRecDepth 100000
section
namespace Go.L
open Go.AM
theorem C1:∀(l:List aj) (o:Option aj),(∀x,l.foldl xe o=some x→(x∈l∨o=some x)∧(∀y∈l,qy y.cN x.cN=false)∧∀y,o=some y→qy y.cN x.cN=false)∧(l.foldl xe o=none→l=[]∧o=none)
 | [],o=>⟨fun x h=>⟨.inr h,fun _ h=>(List.not_mem_nil h).elim,fun y hy=>by have h:o=some x:=h;rw[h]at hy;cases hy;exact vz _⟩,fun h=>⟨rfl,h⟩⟩
 |z::l,o=>by
  obtain⟨h1,h2⟩:=C1 l (xe o z);have some_:∃w,xe o z=some w∧(w=z∨o=some w)∧qy z.cN w.cN=false∧∀y,o=some y→qy y.cN w.cN=false:=by
   cases o with
   |none=>exact⟨z,rfl,.inl rfl,vz _,fun _ h=>by cases h⟩
   |some y=>
    cases hl:qy z.cN y.cN with
    |true=>
     refine⟨z,by unfold xe;simp only[hl,if_true],.inl rfl,vz _,fun y' h=>?_⟩
     cases h;cases hy:qy y.cN z.cN with
     |false=>rfl
     |true=>have:=NK hy hl;rw[vz]at this;cases this
    |false=>exact⟨y,by unfold xe;simp only[hl,Bool.false_eq_true,if_false],.inr rfl,hl,fun y' h=>by cases h;exact vz _⟩
  obtain⟨w,hw,hw1,hw2,hw3⟩:=some_;have nlt:∀{x y:aj},qy y.cN w.cN=false→qy w.cN x.cN=false→qy y.cN x.cN=false:=fun {x y} a b=>by
   cases hyx:qy y.cN x.cN with
   |false=>rfl
   |true=>
    unfold qy at*;simp only[decide_eq_true_eq,decide_eq_false_iff_not]at a b hyx;have s1:=rQ (qh y.cN) (qh w.cN);have s2:=rQ (qh w.cN) (qh x.cN);by_cases e1:ey (qh y.cN) (qh w.cN)=0
    ·rw[(rP (show(qh y.cN).length=(qh w.cN).length from rfl)).1 e1]at hyx;exact absurd hyx b
    ·have h3:ey (qh w.cN) (qh y.cN)<0:=by omega
     exact absurd (sO h3 hyx) b
  refine⟨fun x hx=>?_,fun hx=>?_⟩
  ·obtain⟨q1,q2,q3⟩:=h1 x hx;have hwx:=q3 w hw;refine⟨?_,fun y hy=>?_,fun y hy=>nlt (hw3 y hy) hwx⟩
   ·rcases q1 with q1 |q1
    ·exact .inl (List.mem_cons_of_mem _ q1)
    ·rw[hw]at q1;cases q1;rcases hw1 with rfl |hw1
     ·exact .inl List.mem_cons_self
     ·exact .inr hw1
   ·rcases List.mem_cons.1 hy with rfl |hy
    ·exact nlt hw2 hwx
    ·exact q2 y hy
  ·obtain⟨_,h⟩:=h2 hx;rw[hw]at h;cases h
theorem JA(cs:List aj)(p:aa)(x:aj):getM bk p (cs.foldl fJ [])=some x→x∈cs∧kI x=p∧∀y∈cs,kI y=p→qy y.cN x.cN=false:=by
 rw[BT];intro h;obtain⟨q1,q2,_⟩:=(C1 _ _).1 x h;rcases q1 with q1 |q1
 ·obtain⟨a,b⟩:=List.mem_filter.1 q1;exact⟨a,(of_decide_eq_true b).symm,fun y hy he=>q2 y (List.mem_filter.2 ⟨hy,decide_eq_true he.symm⟩)⟩
 ·cases q1
end Go.L
end
section
namespace Go.L
open Go.AM
theorem Eo{f:av}{own:Int}{cr:List Bool}{us:List (cF Int×List Int)}{dm:List (Int×Int)}{t:Int}{dH:af→Bool}{sq:Int}{rt:Int×Bool}{ts:List Int}{r:bZ}{x:aj}(h:mw f own cr us dm t dH sq rt ts r=some x):
 x.cN.level=1∧x.cN.n=r.N∧x.az.au=t∧x.az.af=⟨r.N.IP,32⟩:=by
 unfold mw at h;split at h
 ·cases h
 ·split at h
  ·split at h
   ·cases h
   ·cases h;exact⟨rfl,rfl,rfl,rfl⟩
  ·cases h;exact⟨rfl,rfl,rfl,rfl⟩
theorem NR{f:av}{cr:List Bool}{x:aj}(h:x∈qY f cr):∃(i:Nat) (d:BD),f.aG[i]? =some d∧d.aM≠0∧cr[i]? =some true∧x=vC i d:=by
 obtain⟨i,d,h1,h2⟩:=sg h;unfold oJ at h2;split at h2
 ·rename_i hc;simp only[Bool.and_eq_true,bne_iff_ne,beq_iff_eq]at hc;simp only[List.mem_singleton]at h2;exact⟨i,d,h1,hc.1,hc.2,h2⟩
 ·cases h2
end Go.L
end
section
namespace Go.L
open Go.AM
end Go.L
end
section
namespace Go.L
open Go.AM
theorem Qy{f:av}{leaf:Int}{up:List Bool}{rs:List bZ}{K:iw}{x:az}(h:x∈mz (ri f leaf up K rs)):∃c∈fW f leaf up K rs,c.az=x:=by
 unfold mz at h;obtain⟨⟨p,c⟩,he,rfl⟩:=List.mem_map.1 h;have:=(Jr zo (Be f leaf up K rs).1 p c).2 he;exact⟨c,(JA _ p c this).1,rfl⟩
theorem NS{f:av}{leaf:Int}{up:List Bool}{rs:List bZ}{K:iw}{c:aj}(h:c∈fW f leaf up K rs):∃y∈fW f leaf up K rs,kI y=kI c∧y.az∈mz (ri f leaf up K rs)∧∀z∈fW f leaf up K rs,kI z=kI c→qy z.cN y.cN=false:=by
 cases hg:getM bk (kI c) (ri f leaf up K rs)with
 |none=>
  unfold ri at hg;rw[BT]at hg;have:=((C1 _ _).2 hg).1;have hx:c∈(fW f leaf up K rs).filter fun x=>decide (kI c=kI x):=List.mem_filter.2 ⟨h,decide_eq_true rfl⟩
  rw[this]at hx;exact(List.not_mem_nil hx).elim
 |some y=>
  obtain⟨q1,q2,q3⟩:=JA _ _ y hg;exact⟨y,q1,q2,List.mem_map.2 ⟨(kI c,y),(Jr zo (Be f leaf up K rs).1 _ _).1 hg,rfl⟩,q3⟩
theorem JB{f:av}{leaf:Int}{up:List Bool}{rs:List bZ}{K:iw}{x:az}:x∈ny f leaf up rs K↔x∈DK K.bh f.Leaks (mz (ri f leaf up K rs)):=by
 unfold ny;exact(jE _).1.mem_iff
end Go.L
end
section
namespace Go.L
open Go.AM
def P3{α:Type}(o:Option α):Prop:=∃r,o=some r
theorem P3.at{α:Type}{o:Option α}(h:P3 o)(d:α):At o (fun r=>r=o.getD d):=by
 obtain⟨r,h⟩:=h;exact⟨r,h,by rw[h];rfl⟩
theorem _root_.Go.AM.At.Ht{α:Type}{o:Option α}{p:α→Prop}(h:At o p):P3 o:=by
 obtain⟨r,h,_⟩:=h;exact⟨r,h⟩
theorem GB(n:Nat)(p:af):At (kU.S n p) (fun(b:Bool)=>b=true→0≤p.Len∧p.Len≤32):=by
 refine(?_ :cD n (rJ p) _);unfold rJ;exact .skip (.br (fun h=>.skip (.done rfl fun h2=>⟨by simpa using h,by simpa using h2⟩)) fun h=>.skip (.done rfl fun h2=>by cases h2))
theorem Rm(n:Nat)(l:Int)(h0:0≤l)(h1:l≤32):At (qK.S n l) (fun(_:Int)=>True):=by
 refine(?_ :cD n (tL l) _);unfold tL;refine .skip (.op () (if_pos ?_) (.skip (.done rfl trivial)));exact decide_eq_true (by rw[wrap_i64 (by omega) (by omega)];omega)
theorem FM(n:Nat)(p:af)(ip:Int):At (cM.S n (p,ip)) (fun(_:Bool)=>True):=by
 refine(?_ :cD n (nT p ip) _);unfold nT;refine .skip (.call _ (GB n p) fun r3 h3=>.skip (.br (fun h=>?_) fun _=>.skip (.done rfl trivial)))
 obtain⟨h0,h1⟩:=h3 h;exact .skip (.call _ (Rm n _ h0 h1) fun _ _=>.skip (.done rfl trivial))
theorem Pg(n:Nat)(p q:af):At (lQ.S n (p,q)) (fun(_:Bool)=>True):=by
 refine(?_ :cD n (xY p q) _);unfold xY;exact .skip (.call _ (GB n p) fun r3 h3=>.skip (.br (fun h=>.skip (.call _ (GB n q) fun r4 h4=>.skip (.br (fun h2=>.skip (.br (fun h5=>.skip (.call _ (FM n p _) fun _ _=>.skip (.done rfl trivial))) fun _=>.skip (.done rfl trivial))) fun _=>.skip (.done rfl trivial)))) fun _=>.skip (.done rfl trivial)))
theorem R1(n:Nat)(i:Int):At (jR.S n i) (fun(_:cF Int×Int)=>True):=by
 refine(?_ :cD n (tA i) _);unfold tA;exact .skip (.br (fun _=>.skip (.done rfl trivial)) fun _=>.skip (.br (fun _=>.skip (.done rfl trivial)) fun _=>.skip (.done rfl trivial)))
theorem Qz(n:Nat)(i:Int):At (vv.S n i) (fun(_:Int×Int)=>True):=by
 refine(?_ :cD n (nV i) _);unfold nV;exact .skip (.br (fun _=>.skip (.done rfl trivial)) fun _=>.skip (.br (fun _=>.skip (.done rfl trivial)) fun _=>.skip (.done rfl trivial)))
theorem Rn(n:Nat)(f:av)(i:Int)(h:P3 (ff.S n f)):At (iE.S n (f,i)) (fun(_:Int)=>True):=by
 refine(?_ :cD n (lY f i) _);unfold lY;obtain⟨v,hv⟩:=h;have hval:At (wJ.S n f) (fun(_:Bool)=>True):=by
  refine(?_ :cD n (pz f) _);unfold pz;exact .skip (.call (fun _=>True) ⟨v,hv,trivial⟩ fun _ _=>.skip (.done rfl trivial))
 have hw:∀a b,At (ez.S n (a,b)) (fun(_:Bool)=>True):=fun a b=>by
  refine(?_ :cD n (jJ a b) _);unfold jJ;exact .skip (.br (fun _=>.skip (.done rfl trivial)) fun _=>.skip (.done rfl trivial))
 have hl:At (tw.S n i) (fun(_:Int)=>True):=by
  refine(?_ :cD n (lX i) _);unfold lX;exact .skip (.call _ (Qz n i) fun _ _=>.skip (.done rfl trivial))
 exact .skip (.call _ hval fun _ _=>.skip (.br (fun _=>.skip (.done rfl trivial)) fun _=>.skip (.call _ (hw _ _) fun _ _=>.skip (.br (fun _=>.skip (.done rfl trivial)) fun _=>.skip (.call _ hl fun _ _=>.skip (.done rfl trivial))))))
theorem NT(n:Nat)(c:V8 Int):At (tN.S n c) (fun(_:Int)=>True):=by
 refine(?_ :cD n (tM c) _);unfold tM;refine .skip (.gm (.skip ?_))
 repeat' first
  |exact .skip (.done rfl trivial)
  |refine .br (fun _=>?_) fun _=>?_
  |refine .skip ?_
theorem R2(n:Nat)(l:List (V8 Int))(hl:l.length<100000)(hn:l.length<n):At (dQ.S n l) (fun(_:Bool×Int×Bool)=>True):=by
 refine(?_ :cD n (th l) _);unfold th;refine .skip (.inl (.skip (.op () rfl (.skip (.loop (fun a:Int=>dW l (fun _ (_:Unit)=>True) (a,())) (fun a=>l.length - a.toNat) (fun _=>True) rfl (dW.start trivial) (by simpa using hn) (fun a ha=>?_) (fun t _=>?_))))))
 ·refine .skip (.br (fun h=>?_) fun _=>.skip (.done rfl trivial))
  obtain⟨x,pre,h1,_,_,_,h5⟩:=ha.get h;refine .skip (.op x h1 (.skip (.call _ (NT n x) fun _ _=>.skip (.br (fun _=>?_) fun _=>.skip (.done rfl (h5 hl () trivial))))))
  refine .skip (.inl (.skip (.inl (.skip (.gm (.skip (.tidy rfl (.inl (.skip (.tidy rfl (.inl (.skip ?_))))))))))));exact .done rfl trivial
 ·cases t with
  |inl t=>exact .tidy rfl (.inl (.skip (.done rfl trivial)))
  |inr t=>exact .skip (.tidy rfl (.inl (.skip (.done rfl trivial))))
theorem Ro(n:Nat)(c:V8 Int):At (Aw.S n c) (fun(_:Int)=>True):=by
 refine(?_ :cD n (tO c) _);unfold tO
 repeat' first
  |exact .done rfl trivial
  |refine .skip ?_
  |refine .gm ?_
  |refine .inl ?_
  |refine .tidy rfl ?_
theorem Sn(n:Nat)(l:List (V8 Int))(hl:l.length<100000)(hn:l.length<n):At (dY.S n l) (fun(_:Int×Bool)=>True):=by
 refine(?_ :cD n (nU l) _);unfold nU;refine .skip (.inl (.skip (.op () rfl (.skip (.loop (fun a:Int=>dW l (fun _ (_:Unit)=>True) (a,())) (fun a=>l.length - a.toNat) (fun _=>True) rfl (dW.start trivial) (by simpa using hn) (fun a ha=>?_) (fun t _=>?_))))))
 ·refine .skip (.br (fun h=>?_) fun _=>.skip (.done rfl trivial))
  obtain⟨x,pre,h1,_,_,_,h5⟩:=ha.get h;refine .skip (.op x h1 (.skip (.call _ (NT n x) fun _ _=>.skip (.br (fun _=>?_) fun _=>.skip (.done rfl (h5 hl () trivial))))))
  exact .skip (.call _ (Ro n x) fun _ _=>.skip (.done rfl trivial))
 ·cases t with
  |inl t=>exact .tidy rfl (.inl (.skip (.done rfl trivial)))
  |inr t=>exact .skip (.tidy rfl (.inl (.skip (.done rfl trivial))))
theorem Rp(n:Nat)(l:List az)(h:l.length<1000000000):At (k4.S n l) (fun r=>r=gO l):=
 ⟨gO l,if_pos (by omega),rfl⟩
theorem Hu{α β:Type}(g:Nat→α→List β)(h:∀i x,(g i x).length≤1)(l:List α):(fU g l).length≤l.length:=by
 unfold fU;rw[List.length_flatMap];have:∀(m:List (α×Nat)),(m.map fun p=>(g p.2 p.1).length).sum≤m.length:=by
  intro m;induction m with
  |nil=>exact Nat.le_refl _
  |cons p m ih=>simp only[List.map_cons,List.sum_cons,List.length_cons];have:=h p.2 p.1;omega
 have:=this l.zipIdx;rwa[List.length_zipIdx]at this
theorem Hv(f:av)(leaf:Int)(up:List Bool)(K:iw)(r:bZ):(Aa f leaf up K r).length≤(K.tg r).length:=by
 unfold Aa qz;split
 ·rw[List.length_flatMap];have:∀T,(iu f K.lo (iW f leaf) (xG f leaf up K.es) (vE f) (Hr f) (P0 f leaf) (fun p=>K.dH p r.N.IP) (K.sq r) (K.rt r) (K.tg r) r T).length≤1:=fun T=>by
   unfold iu;split
   ·exact Nat.zero_le _
   ·split
    ·cases mw f K.lo (iW f leaf) (xG f leaf up K.es) (vE f) _ (fun p=>K.dH p r.N.IP) (K.sq r) (K.rt r) (K.tg r) r<;>simp
    ·cases CX K.lo _ (P0 f leaf) (K.rt r) r<;>simp
  generalize K.tg r=ts at this;have h2:∀(m:List Int),(m.map fun T=>(iu f K.lo (iW f leaf) (xG f leaf up K.es) (vE f) (Hr f) (P0 f leaf) (fun p=>K.dH p r.N.IP) (K.sq r) (K.rt r) ts r T).length).sum≤m.length:=by
   intro m;induction m with
   |nil=>exact Nat.le_refl _
   |cons T m ih=>simp only[List.map_cons,List.sum_cons,List.length_cons];have:=this T;omega
  exact h2 ts
 ·exact Nat.zero_le _
theorem NU(n:Nat)(f:av)(leaf:Int)(up:List Bool)(rs:List bZ)(b:Nat)(hn:11≤n)(hck:At (ff.S n f) (fun(r:Int×ByteArray×Int)=>r.1=0))(h0:0≤leaf)(h1:leaf<f.Leaves)(seg:FI n f)
 (rl:rs.length<100000) (rn:rs.length<n) (hc:∀r∈rs,r.A.dR.length<100000∧r.A.dR.length<n) (ht:∀r∈rs,At (cS.S n r.A.dR) (fun(q:List Int)=>q.length≤b)) (hb:b<100000) (hbn:b<n)
 (kl:f.Leaks.length<100000) (kn:f.Leaks.length<n) (cs:f.aG.length+rs.length*b<90000) (cn:f.aG.length+rs.length*b+1<n) (sz:(f.aG.length+rs.length*b+1)*(f.Leaks.length+2)<1000000000):
 C0 n f leaf up rs (Kc n f leaf) gO:=by
 have htg:∀r∈rs,At (cS.S n r.A.dR) (fun(q:List Int)=>q=(Kc n f leaf).tg r):=fun r hr=>(ht r hr).Ht.at ([]:List Int)
 have htl:∀r∈rs,((Kc n f leaf).tg r).length≤b:=fun r hr=>by
  obtain⟨q,h1,h2⟩:=ht r hr;obtain⟨q',h3,h4⟩:=htg r hr;rw[h1]at h3;cases h3;rw[← h4];exact h2
 have hlen:(fW f leaf up (Kc n f leaf) rs).length≤f.aG.length+rs.length*b:=by
  unfold fW;rw[List.length_append];have h1:(qY f (iW f leaf)).length≤f.aG.length:=Hu _ (fun i x=>by unfold oJ;split<;>simp) _
  have h2:∀(l:List bZ),(∀r∈l,r∈rs)→(l.flatMap (Aa f leaf up (Kc n f leaf))).length≤l.length*b:=by
   intro l;induction l with
   |nil=>intro _;simp
   |cons r l ih=>
    intro h;rw[List.flatMap_cons,List.length_append,List.length_cons,Nat.add_mul];have:=ih fun x hx=>h x (List.mem_cons_of_mem _ hx)
    have h3:=Hv f leaf up (Kc n f leaf) r;have h4:=htl r (h r List.mem_cons_self);omega
  have:=h2 rs fun _ h=>h
  omega
 exact {
  hn:=hn,ck:=hck,h0:=h0,h1:=h1
  lo:=(Rn n f leaf hck.Ht).Ht.at (0:Int)
  seg:=seg
  es:=fun i _=>by
   obtain⟨r,h⟩:=(R1 n (i:Int)).Ht;exact⟨r,h,by show r.1=((jR.S n (i:Int)).getD _).1;rw[h];rfl⟩
  rl:=rl,rn:=rn
  tg:=htg
  rt:=fun r hr=>(Sn n _ (hc r hr).1 (hc r hr).2).Ht.at ((0,false):Int×Bool)
  sq:=fun r hr=>by
   obtain⟨q,h⟩:=(R2 n _ (hc r hr).1 (hc r hr).2).Ht;exact⟨q,h,by show q.2.1=((dQ.S n r.A.dR).getD _).2.1;rw[h];rfl⟩
  tl:=fun r hr=>⟨Nat.lt_of_le_of_lt (htl r hr) hb,Nat.lt_of_le_of_lt (htl r hr) hbn⟩
  dH:=fun r _ d _=>(FM n d.ay r.N.IP).Ht.at false
  bh:=fun k _ p=>(Pg n k.af p).Ht.at false
  kl:=kl,kn:=kn
  cs:=by omega
  sz:=Nat.lt_of_le_of_lt (Nat.mul_le_mul_right _ (by omega)) sz
  cn:=by omega
  so:=fun l h=>Rp n l h
  sl:=fun l=>(jE l).1.length_eq}
end Go.L
end
section
namespace Go.L
open Go.AM
def iy(f:av):av:={f with Leaks:=[]}
def xH(i:Int):Int:=IntKind.wrap .u32 ((IntKind.wrap .u32 ((184483840:Int)+(IntKind.wrap .u32 i)))+(1:Int))
theorem Ko(n:Nat)(f:av)(i:Int)(hck:At (ff.S n f) (fun(r:Int×ByteArray×Int)=>r.1=0))(h0:0≤i)(h1:i<f.Leaves)(h2:0≤f.cO)(h3:f.Leaves+f.cO≤32):At (iE.S n (f,i)) (fun(r:Int)=>r=xH i):=by
 refine(?_ :cD n (lY f i) _);unfold lY;have hval:At (wJ.S n f) (fun(b:Bool)=>b=true):=by
  refine(?_ :cD n (pz f) _);unfold pz;exact .skip (.call _ hck fun r hr=>.skip (.done rfl (by rw[hr];rfl)))
 have hw:∀b,i<b→At (ez.S n (i,b)) (fun(r:Bool)=>r=true):=fun b hb=>by
  refine(?_ :cD n (jJ i b) _);unfold jJ;exact .skip (.br (fun _=>.skip (.done rfl (decide_eq_true hb))) fun h=>absurd h0 (by simpa using h))
 have hl:At (tw.S n i) (fun(r:Int)=>r=xH i):=by
  refine(?_ :cD n (lX i) _);unfold lX;have:At (vv.S n i) (fun(r:Int×Int)=>r.1=xH i):=by
   refine(?_ :cD n (nV i) _);unfold nV;exact .skip (.br (fun h=>absurd h0 (by simpa using h)) fun _=>.skip (.br (fun h=>by simp only[ge_iff_le,decide_eq_true_eq]at h;omega) fun _=>.skip (.done rfl rfl)))
  exact .skip (.call _ this fun r hr=>.skip (.done rfl hr))
 refine .skip (.call _ hval fun r3 h3'=>.skip (.br (fun h=>by rw[h3']at h;cases h) fun _=>.skip (.call _ (hw _ ?_) fun r5 h5=>.skip (.br (fun h=>by rw[h5]at h;cases h) fun _=>.skip (.call _ hl fun r7 h7=>.skip (.done rfl h7))))))
 rw[wrap_i64 (by omega) (by omega)];omega
end Go.L
end
