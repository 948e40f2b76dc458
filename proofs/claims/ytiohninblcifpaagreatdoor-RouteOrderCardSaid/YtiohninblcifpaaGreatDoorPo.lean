/- Parts. No conditions. -/
import Derived.Test.YtiohninblcifpaaGreatDoorPk
set_option linter.unusedSimpArgs false
set_option linter.unusedVariables false
set_option maxRecDepth 100000
section
namespace Go.L
open Go.AM
theorem C8{α:Type}:∀{l l':List α},l.Nodup→l'.Nodup→(∀x,x∈l↔x∈l')→l.Perm l'
 | [],l',_,_,h=>by
  cases l' with
  |nil=>exact .nil
  |cons y t=>exact absurd ((h y).2 List.mem_cons_self) List.not_mem_nil
 |x::l,l',hn,hn',h=>by
  obtain⟨s,t,rfl⟩:=List.append_of_mem ((h x).1 List.mem_cons_self);rw[List.nodup_cons]at hn;have hp:(s++x::t).Perm (x::(s++t)):=List.perm_middle;have hn2:=hp.nodup_iff.1 hn';rw[List.nodup_cons]at hn2;refine(List.Perm.cons x (C8 hn.2 hn2.2 fun y=>?_)).trans hp.symm
  have hy:=h y;rw[hp.mem_iff]at hy;simp only[List.mem_cons]at hy;constructor
  ·intro hy1;rcases hy.1 (.inr hy1)with rfl |h2
   ·exact absurd hy1 hn.1
   ·exact h2
  ·intro hy1;rcases hy.2 (.inr hy1)with rfl |h2
   ·exact absurd hy1 hn2.1
   ·exact h2
theorem C9{α β:Type}{g:α→β}{m:List α}(hn:(m.map g).Nodup):m.Nodup:=by
 induction m with
 |nil=>exact List.nodup_nil
 |cons x m ih=>
  simp only[List.map_cons,List.nodup_cons]at hn ⊢;exact⟨fun hx=>hn.1 (List.mem_map_of_mem hx),ih hn.2⟩
theorem Da:∀(l:List ai) (o:Option ai),(∀x,l.foldl xm o=some x→(x∈l∨o=some x)∧(∀y∈l,o7 y.bX x.bX=false)∧∀y,o=some y→o7 y.bX x.bX=false)∧(l.foldl xm o=none→l=[]∧o=none)
 | [],o=>⟨fun x h=>⟨.inr h,fun _ h=>(List.not_mem_nil h).elim,fun y hy=>by have h:o=some x:=h;rw[h]at hy;cases hy;exact vI _⟩,fun h=>⟨rfl,h⟩⟩
 |z::l,o=>by
  obtain⟨h1,h2⟩:=Da l (xm o z);have some_:∃w,xm o z=some w∧(w=z∨o=some w)∧o7 z.bX w.bX=false∧∀y,o=some y→o7 y.bX w.bX=false:=by
   cases o with
   |none=>exact⟨z,rfl,.inl rfl,vI _,fun _ h=>by cases h⟩
   |some y=>
    cases hl:o7 z.bX y.bX with
    |true=>
     refine⟨z,by unfold xm;simp only[hl,if_true],.inl rfl,vI _,fun y' h=>?_⟩
     cases h;cases hy:o7 y.bX z.bX with
     |false=>rfl
     |true=>have:=NY hy hl;rw[vI]at this;cases this
    |false=>exact⟨y,by unfold xm;simp only[hl,Bool.false_eq_true,if_false],.inr rfl,hl,fun y' h=>by cases h;exact vI _⟩
  obtain⟨w,hw,hw1,hw2,hw3⟩:=some_;have nlt:∀{x y:ai},o7 y.bX w.bX=false→o7 w.bX x.bX=false→o7 y.bX x.bX=false:=fun {x y} a b=>by
   cases hyx:o7 y.bX x.bX with
   |false=>rfl
   |true=>
    unfold o7 at*;simp only[decide_eq_true_eq,decide_eq_false_iff_not]at a b hyx;have s1:=nA (jV y.bX) (jV w.bX);have s2:=nA (jV w.bX) (jV x.bX);by_cases e1:dX (jV y.bX) (jV w.bX)=0
    ·rw[(l7 (show(jV y.bX).length=(jV w.bX).length from rfl)).1 e1]at hyx;exact absurd hyx b
    ·have h3:dX (jV w.bX) (jV y.bX)<0:=by omega
     exact absurd (s6 h3 hyx) b
  refine⟨fun x hx=>?_,fun hx=>?_⟩
  ·obtain⟨q1,q2,q3⟩:=h1 x hx;have hwx:=q3 w hw;refine⟨?_,fun y hy=>?_,fun y hy=>nlt (hw3 y hy) hwx⟩
   ·rcases q1 with q1 |q1
    ·exact .inl (List.mem_cons_of_mem _ q1)
    ·rw[hw]at q1;cases q1;rcases hw1 with rfl |hw1
     ·exact .inl List.mem_cons_self
     ·exact .inr hw1
   ·rcases List.mem_cons.1 hy with rfl |hy
    ·exact nlt hw2 hwx
    ·exact q2 y hy
  ·obtain⟨_,h⟩:=h2 hx;rw[hw]at h;cases h
def Db(cs:List ai):Prop:=∀x∈cs,∀y∈cs,o8 x=o8 y→jV x.bX=jV y.bX→x=y
theorem EZ(cs:List ai)(p:aa)(x:ai):getM bw p (cs.foldl eV [])=some x→x∈cs∧o8 x=p∧∀y∈cs,o8 y=p→o7 y.bX x.bX=false:=by
 rw[BW];intro h;obtain⟨q1,q2,_⟩:=(Da _ _).1 x h;rcases q1 with q1 |q1
 ·obtain⟨a,b⟩:=List.mem_filter.1 q1;exact⟨a,(of_decide_eq_true b).symm,fun y hy he=>q2 y (List.mem_filter.2 ⟨hy,decide_eq_true he.symm⟩)⟩
 ·cases q1
theorem fold_iff{cs:List ai}(hn:Db cs)(p:aa)(x:ai):getM bw p (cs.foldl eV [])=some x↔x∈cs∧o8 x=p∧∀y∈cs,o8 y=p→o7 y.bX x.bX=false:=by
 refine⟨EZ cs p x,fun⟨h1,h2,h3⟩=>?_⟩
 cases hg:getM bw p (cs.foldl eV [])with
 |none=>
  rw[BW]at hg;have:=((Da _ _).2 hg).1;have hx:x∈cs.filter fun x=>decide (p=o8 x):=List.mem_filter.2 ⟨h1,decide_eq_true h2.symm⟩
  rw[this]at hx;exact(List.not_mem_nil hx).elim
 |some y=>
  obtain⟨q1,q2,q3⟩:=EZ cs p y hg;rw[hn y q1 x h1 (q2.trans h2.symm) (QT (h3 y q1 q2) (q3 x h1 h2))]
theorem N4{cs cs':List ai}(hn:Db cs)(h:∀x,x∈cs↔x∈cs'):(cs.foldl eV []).Perm (cs'.foldl eV []):=by
 have hn':Db cs':=fun x hx y hy=>hn x ((h x).2 hx) y ((h y).2 hy)
 have k1:rE (cs.foldl eV []):=rE.fold (hm:=[]) ⟨List.nodup_nil,fun _ h=>by cases h⟩ cs
 have k2:rE (cs'.foldl eV []):=rE.fold (hm:=[]) ⟨List.nodup_nil,fun _ h=>by cases h⟩ cs'
 refine C8 (C9 k1.1) (C9 k2.1) fun⟨p,x⟩=>?_
 rw[← EX xX k1.1,← EX xX k2.1,fold_iff hn,fold_iff hn'];simp only[h]
theorem Mw(f:aG)(leaf:Int)(up:List Bool)(rs rs':List aK)(K:jT)(hn:Db (iK f leaf up K rs))(h:∀r,r∈rs↔r∈rs'):rG f leaf up rs K=rG f leaf up rs' K:=by
 have hp:(tr f leaf up K rs).Perm (tr f leaf up K rs'):=N4 hn fun x=>by
  unfold iK;simp only[List.mem_append,List.mem_flatMap,h]
 unfold rG;exact F3 (F1 _ _ (hp.map _)) (AB _ _ (yz (yJ f leaf up K rs)))
theorem Pw(f:aG)(leaf:Int)(up:List Bool)(rs:List aK)(K:jT):(rG f leaf up rs K).Pairwise (fun a b=>tI a b):=by
 unfold rG;have hn:=AB K.aY f.Leaks (yz (yJ f leaf up K rs));generalize z8 K.aY f.Leaks (oc (tr f leaf up K rs))=l at hn;have h1:=(iN l).2;have h2:((gZ l).map jZ).Nodup:=((iN l).1.map jZ).nodup_iff.2 hn;rw[List.Nodup,List.pairwise_map]at h2;refine(h1.and h2).imp fun {a b} ⟨hab,hne⟩=>?_
 unfold tI rz at*;rw[nA]at hab;by_cases e:dX (gR a) (gR b)=0
 ·exact absurd (Ey ((l7 (show(gR a).length=(gR b).length from rfl)).1 e)) hne
 ·omega
end Go.L
end
section
namespace Go.L
open Go.AM
theorem xu{f:aG}{own:Int}{cr:List Bool}{us:List (cA Int×List Int)}{dm:List (Int×Int)}{t:Int}{ez:ah→Bool}{sq:Int}{rt:Int×Bool}{ts:List Int}{r:aK}{x:ai}(h:uu f own cr us dm t ez sq rt ts r=some x):
 x.bX.level=1∧x.bX.n=r.N∧x.aF.au=t∧x.aF.ah=⟨r.N.IP,32⟩:=by
 unfold uu at h;split at h
 ·cases h
 ·split at h
  ·split at h
   ·cases h
   ·cases h;exact⟨rfl,rfl,rfl,rfl⟩
  ·cases h;exact⟨rfl,rfl,rfl,rfl⟩
theorem yA{own t:Int}{sb:List (aa×Bool)}{rt:Int×Bool}{r:aK}{x:ai}(h:zu own t sb rt r=some x):x.bX.level=2∧x.bX.n=r.N∧x.aF.au=t∧x.aF.ah=r.N.ah:=by
 unfold zu at h;split at h
 ·cases h
 ·cases h;exact⟨rfl,rfl,rfl,rfl⟩
theorem yB{f:aG}{own:Int}{cr:List Bool}{us:List (cA Int×List Int)}{dm tn:List (Int×Int)}{sb:List (aa×Bool)}{ez:ah→Bool}{sq:Int}{rt:Int×Bool}{ts:List Int}{r:aK}{x:ai}(h:x∈pX f own cr us dm tn sb ez sq rt ts r):
 ∃T∈ts,∃t,getM cU T tn=some t∧((sv r=true∧uu f own cr us dm t ez sq rt ts r=some x)∨(sv r=false∧r.N.Kind=5∧zu own t sb rt r=some x)):=by
 unfold pX at h;split at h
 ·rename_i hc;obtain⟨T,hT,hx⟩:=List.mem_flatMap.1 h;unfold iT at hx;split at hx
  ·cases hx
  ·rename_i t ht;refine⟨T,hT,t,ht,?_⟩;split at hx
   ·rename_i hh;exact .inl ⟨hh,by simpa using hx⟩
   ·rename_i hh;have hh:sv r=false:=by simpa using hh
    rw[hh]at hc;exact .inr ⟨hh,by simpa using hc,by simpa using hx⟩
 ·cases h
theorem xI{f:aG}{cr:List Bool}{x:ai}(h:x∈xo f cr):∃(i:Nat) (d:BD),f.aR[i]? =some d∧d.aS≠0∧cr[i]? =some true∧x=DQ i d:=by
 obtain⟨i,d,h1,h2⟩:=C5 h;unfold qI at h2;split at h2
 ·rename_i hc;simp only[Bool.and_eq_true,bne_iff_ne,beq_iff_eq]at hc;simp only[List.mem_singleton]at h2;exact⟨i,d,h1,hc.1,hc.2,h2⟩
 ·cases h2
def Lm(f:aG):Prop:=∀(i j:Nat) d e,f.aR[i]? =some d→f.aR[j]? =some e→d.aS≠0→e.aS≠0→d.au=e.au→d.bt=e.bt→i=j
theorem Mx(f:aG)(leaf:Int)(up:List Bool)(rs:List aK)(K:jT)(hs:Lm f)(hd:∀r∈rs,∀r'∈rs,nh r.N r'.N=0→r=r'):Db (iK f leaf up K rs):=by
 have lev:∀r∈rs,∀x∈B5 f leaf up K r,(x.bX.level=1∨x.bX.level=2)∧x.bX.n=r.N:=fun r hr x hx=>by
  obtain⟨T,_,t,_,h |h⟩:=yB hx
  ·obtain⟨a,b,_⟩:=xu h.2;exact⟨.inl a,b⟩
  ·obtain⟨a,b,_⟩:=yA h.2.2;exact⟨.inr a,b⟩
 have key:∀x y:ai,jV x.bX=jV y.bX→x.bX.level=y.bX.level∧qD (wJ x.bX.n)=qD (wJ y.bX.n):=fun x y h=>by
  unfold jV at h;simp only[List.cons_append,List.nil_append,List.cons.injEq]at h;exact⟨h.1,h.2.2.2.2.2⟩
 intro x hx y hy hp ht;obtain⟨k1,k2⟩:=key x y ht;unfold iK at hx hy;rcases List.mem_append.1 hx with hx |hx<;>rcases List.mem_append.1 hy with hy |hy
 ·obtain⟨i,d,a1,a2,_,rfl⟩:=xI hx;obtain⟨j,e,b1,b2,_,rfl⟩:=xI hy;unfold o8 DQ at hp;simp only[aa.mk.injEq]at hp;have:=hs i j d e a1 b1 a2 b2 hp.1 hp.2;subst this;rw[a1]at b1;cases b1;rfl
 ·obtain⟨i,d,_,_,_,rfl⟩:=xI hx;obtain⟨r,hr,hy⟩:=List.mem_flatMap.1 hy;have:=(lev r hr y hy).1;have e:(DQ i d).bX.level=0:=rfl;rw[e]at k1;omega
 ·obtain⟨i,d,_,_,_,rfl⟩:=xI hy;obtain⟨r,hr,hx⟩:=List.mem_flatMap.1 hx;have:=(lev r hr x hx).1;have e:(DQ i d).bX.level=0:=rfl;rw[e]at k1;omega
 ·obtain⟨r,hr,hx⟩:=List.mem_flatMap.1 hx;obtain⟨r',hr',hy⟩:=List.mem_flatMap.1 hy;have e1:=(lev r hr x hx).2;have e2:=(lev r' hr' y hy).2;rw[e1,e2]at k2;have:=hd r hr r' hr' ((HC _ _).2 k2);subst this;obtain⟨T,hT,t,q1,q2⟩:=yB hx;obtain⟨T',hT',t',p1,p2⟩:=yB hy;have hten:x.aF.au=y.aF.au:=by unfold o8 at hp;injection hp
  have tx:x.aF.au=t:=by
   rcases q2 with q |q
   ·exact(xu q.2).2.2.1
   ·exact(yA q.2.2).2.2.1
  have ty:y.aF.au=t':=by
   rcases p2 with q |q
   ·exact(xu q.2).2.2.1
   ·exact(yA q.2.2).2.2.1
  have htt:t=t':=by rw[← tx,← ty];exact hten
  subst htt;rcases q2 with q |q<;>rcases p2 with p |p
  ·have:=q.2.symm.trans p.2;cases this;rfl
  ·rw[q.1]at p;cases p.1
  ·rw[p.1]at q;cases q.1
  ·have:=q.2.2.symm.trans p.2.2;cases this;rfl
end Go.L
end
section
namespace Go.L
open Go.AM
theorem HG{aY:ah→ah→Bool}{k:bP}{all:List aF}{x:aF}:mw aY k all x=true↔x.au=k.From∧¬(⟨k.To,x.ah⟩:aa)∈all.map jZ∧aY k.ah x.ah=true:=by
 unfold mw;simp only[Bool.and_eq_true,beq_iff_eq,Bool.not_eq_true',decide_eq_false_iff_not,and_assoc]
theorem HH(aY:ah→ah→Bool)(own:List aF):∀(leaks:List bP) (a:List aF),(∀x∈a,x∈leaks.foldl (kX aY own) a)∧
 (∀x∈leaks.foldl (kX aY own) a,x∈a∨∃k∈leaks,∃y∈own,y.au=k.From∧aY k.ah y.ah=true∧x=nW k y)∧
 (∀k∈leaks,∀y∈own,y.au=k.From→aY k.ah y.ah=true→(⟨k.To,y.ah⟩:aa)∈(leaks.foldl (kX aY own) a).map jZ)
 | [],a=>⟨fun x h=>h,fun x h=>.inl h,fun k hk=>by cases hk⟩
 |k::ks,a=>by
  obtain⟨h1,h2,h3⟩:=HH aY own ks (kX aY own a k);simp only[List.foldl_cons];have hsub:∀x∈a,x∈kX aY own a k:=fun x hx=>List.mem_append.2 (.inl hx)
  have hall:∀y∈own,y.au=k.From→aY k.ah y.ah=true→(⟨k.To,y.ah⟩:aa)∈(kX aY own a k).map jZ:=fun y hy ht hc=>by
   unfold kX;rw[List.map_append,List.mem_append];by_cases hin:(⟨k.To,y.ah⟩:aa)∈a.map jZ
   ·exact .inl hin
   ·exact .inr (List.mem_map.2 ⟨nW k y,List.mem_map.2 ⟨y,List.mem_filter.2 ⟨hy,HG.2 ⟨ht,hin,hc⟩⟩,rfl⟩,rfl⟩)
  refine⟨fun x hx=>h1 x (hsub x hx),fun x hx=>?_,fun k' hk' y hy ht hc=>?_⟩
  ·rcases h2 x hx with h |⟨k',hk',y,hy,e⟩
   ·unfold kX at h;rcases List.mem_append.1 h with h |h
    ·exact .inl h
    ·obtain⟨y,hy,rfl⟩:=List.mem_map.1 h;obtain⟨hy1,hy2⟩:=List.mem_filter.1 hy;obtain⟨c1,_,c3⟩:=HG.1 hy2;exact .inr ⟨k,List.mem_cons_self,y,hy1,c1,c3,rfl⟩
   ·exact .inr ⟨k',List.mem_cons_of_mem _ hk',y,hy,e⟩
  ·rcases List.mem_cons.1 hk' with rfl |hk'
   ·obtain⟨z,hz,he⟩:=List.mem_map.1 (hall y hy ht hc);exact List.mem_map.2 ⟨z,h1 z hz,he⟩
   ·exact h3 k' hk' y hy ht hc
theorem N5(aY:ah→ah→Bool)(leaks:List bP)(own:List aF)(x:aF)(h:x∈z8 aY leaks own):x∈own∨∃k∈leaks,∃y∈own,y.au=k.From∧aY k.ah y.ah=true∧x=nW k y:=(HH aY own leaks own).2.1 x h
end Go.L
end
section
namespace Go.L
open Go.AM
theorem QW{f:aG}{leaf:Int}{up:List Bool}{rs:List aK}{K:jT}{x:aF}(h:x∈oc (tr f leaf up K rs)):∃c∈iK f leaf up K rs,c.aF=x:=by
 unfold oc at h;obtain⟨⟨p,c⟩,he,rfl⟩:=List.mem_map.1 h;have:=(EX xX (yJ f leaf up K rs).1 p c).2 he;exact⟨c,(EZ _ p c this).1,rfl⟩
theorem Px{f:aG}{leaf:Int}{up:List Bool}{rs:List aK}{K:jT}{x:aF}:x∈rG f leaf up rs K↔x∈z8 K.aY f.Leaks (oc (tr f leaf up K rs)):=by
 unfold rG;exact(iN _).1.mem_iff
end Go.L
end
section
namespace Go.L
open Go.AM
def Qp{α:Type}(o:Option α):Prop:=∃r,o=some r
theorem Qp.at{α:Type}{o:Option α}(h:Qp o)(d:α):At o (fun r=>r=o.getD d):=by
 obtain⟨r,h⟩:=h;exact⟨r,h,by rw[h];rfl⟩
theorem _root_.Go.AM.At.HI{α:Type}{o:Option α}{p:α→Prop}(h:At o p):Qp o:=by
 obtain⟨r,h,_⟩:=h;exact⟨r,h⟩
theorem GR(n:Nat)(p:ah):At (lU.S n p) (fun(b:Bool)=>b=true→0≤p.Len∧p.Len≤32):=by
 refine(?_ :cz n (rT p) _);unfold rT;exact .skip (.br (fun h=>.skip (.done rfl fun h2=>⟨by simpa using h,by simpa using h2⟩)) fun h=>.skip (.done rfl fun h2=>by cases h2))
theorem RK(n:Nat)(l:Int)(h0:0≤l)(h1:l≤32):At (ri.S n l) (fun(_:Int)=>True):=by
 refine(?_ :cz n (ua l) _);unfold ua;refine .skip (.op () (if_pos ?_) (.skip (.done rfl trivial)));exact decide_eq_true (by rw[wrap_i64 (by omega) (by omega)];omega)
theorem F4(n:Nat)(p:ah)(ip:Int):At (dQ.S n (p,ip)) (fun(_:Bool)=>True):=by
 refine(?_ :cz n (oC p ip) _);unfold oC;refine .skip (.call _ (GR n p) fun r3 h3=>.skip (.br (fun h=>?_) fun _=>.skip (.done rfl trivial)))
 obtain⟨h0,h1⟩:=h3 h;exact .skip (.call _ (RK n _ h0 h1) fun _ _=>.skip (.done rfl trivial))
theorem Py(n:Nat)(p q:ah):At (mL.S n (p,q)) (fun(_:Bool)=>True):=by
 refine(?_ :cz n (xW p q) _);unfold xW;exact .skip (.call _ (GR n p) fun r3 h3=>.skip (.br (fun h=>.skip (.call _ (GR n q) fun r4 h4=>.skip (.br (fun h2=>.skip (.br (fun h5=>.skip (.call _ (F4 n p _) fun _ _=>.skip (.done rfl trivial))) fun _=>.skip (.done rfl trivial))) fun _=>.skip (.done rfl trivial)))) fun _=>.skip (.done rfl trivial)))
theorem Sy(n:Nat)(i:Int):At (kI.S n i) (fun(_:cA Int×Int)=>True):=by
 refine(?_ :cz n (tN i) _);unfold tN;exact .skip (.br (fun _=>.skip (.done rfl trivial)) fun _=>.skip (.br (fun _=>.skip (.done rfl trivial)) fun _=>.skip (.done rfl trivial)))
theorem QX(n:Nat)(i:Int):At (z7.S n i) (fun(_:Int×Int)=>True):=by
 refine(?_ :cz n (vG i) _);unfold vG;exact .skip (.br (fun _=>.skip (.done rfl trivial)) fun _=>.skip (.br (fun _=>.skip (.done rfl trivial)) fun _=>.skip (.done rfl trivial)))
theorem RM(n:Nat)(f:aG)(i:Int)(h:Qp (gm.S n f)):At (mO.S n (f,i)) (fun(_:Int)=>True):=by
 refine(?_ :cz n (tM f i) _);unfold tM;obtain⟨v,hv⟩:=h;have hval:At (Be.S n f) (fun(_:Bool)=>True):=by
  refine(?_ :cz n (wL f) _);unfold wL;exact .skip (.call (fun _=>True) ⟨v,hv,trivial⟩ fun _ _=>.skip (.done rfl trivial))
 have hw:∀a b,At (fO.S n (a,b)) (fun(_:Bool)=>True):=fun a b=>by
  refine(?_ :cz n (oA a b) _);unfold oA;exact .skip (.br (fun _=>.skip (.done rfl trivial)) fun _=>.skip (.done rfl trivial))
 have hl:At (yj.S n i) (fun(_:Int)=>True):=by
  refine(?_ :cz n (tL i) _);unfold tL;exact .skip (.call _ (QX n i) fun _ _=>.skip (.done rfl trivial))
 exact .skip (.call _ hval fun _ _=>.skip (.br (fun _=>.skip (.done rfl trivial)) fun _=>.skip (.call _ (hw _ _) fun _ _=>.skip (.br (fun _=>.skip (.done rfl trivial)) fun _=>.skip (.call _ hl fun _ _=>.skip (.done rfl trivial))))))
theorem N6(n:Nat)(c:V8 Int):At (oV.S n c) (fun(_:Int)=>True):=by
 refine(?_ :cz n (uc c) _);unfold uc;refine .skip (.gH (.skip ?_))
 repeat' first
  |exact .skip (.done rfl trivial)
  |refine .br (fun _=>?_) fun _=>?_
  |refine .skip ?_
theorem Sz(n:Nat)(l:List (V8 Int))(hl:l.length<100000)(hn:l.length<n):At (dW.S n l) (fun(_:Bool×Int×Bool)=>True):=by
 refine(?_ :cz n (tG l) _);unfold tG;refine .skip (.inl (.skip (.op () rfl (.skip (.loop (fun a:Int=>ep l (fun _ (_:Unit)=>True) (a,())) (fun a=>l.length - a.toNat) (fun _=>True) rfl (ep.start trivial) (by simpa using hn) (fun a ha=>?_) (fun t _=>?_))))))
 ·refine .skip (.br (fun h=>?_) fun _=>.skip (.done rfl trivial))
  obtain⟨x,pre,h1,_,_,_,h5⟩:=ha.get h;refine .skip (.op x h1 (.skip (.call _ (N6 n x) fun _ _=>.skip (.br (fun _=>?_) fun _=>.skip (.done rfl (h5 hl () trivial))))))
  refine .skip (.inl (.skip (.inl (.skip (.gH (.skip (.tidy rfl (.inl (.skip (.tidy rfl (.inl (.skip ?_))))))))))));exact .done rfl trivial
 ·cases t with
  |inl t=>exact .tidy rfl (.inl (.skip (.done rfl trivial)))
  |inr t=>exact .skip (.tidy rfl (.inl (.skip (.done rfl trivial))))
theorem RN(n:Nat)(c:V8 Int):At (Et.S n c) (fun(_:Int)=>True):=by
 refine(?_ :cz n (Ay c) _);unfold Ay
 repeat' first
  |exact .done rfl trivial
  |refine .skip ?_
  |refine .gH ?_
  |refine .inl ?_
  |refine .tidy rfl ?_
theorem S0(n:Nat)(l:List (V8 Int))(hl:l.length<100000)(hn:l.length<n):At (fP.S n l) (fun(_:Int×Bool)=>True):=by
 refine(?_ :cz n (vB l) _);unfold vB;refine .skip (.inl (.skip (.op () rfl (.skip (.loop (fun a:Int=>ep l (fun _ (_:Unit)=>True) (a,())) (fun a=>l.length - a.toNat) (fun _=>True) rfl (ep.start trivial) (by simpa using hn) (fun a ha=>?_) (fun t _=>?_))))))
 ·refine .skip (.br (fun h=>?_) fun _=>.skip (.done rfl trivial))
  obtain⟨x,pre,h1,_,_,_,h5⟩:=ha.get h;refine .skip (.op x h1 (.skip (.call _ (N6 n x) fun _ _=>.skip (.br (fun _=>?_) fun _=>.skip (.done rfl (h5 hl () trivial))))))
  exact .skip (.call _ (RN n x) fun _ _=>.skip (.done rfl trivial))
 ·cases t with
  |inl t=>exact .tidy rfl (.inl (.skip (.done rfl trivial)))
  |inr t=>exact .skip (.tidy rfl (.inl (.skip (.done rfl trivial))))
theorem RO(n:Nat)(l:List aF)(h:l.length<1000000000):At (l8.S n l) (fun r=>r=gZ l):=
 ⟨gZ l,if_pos (by omega),rfl⟩
theorem HJ{α β:Type}(g:Nat→α→List β)(h:∀i x,(g i x).length≤1)(l:List α):(gW g l).length≤l.length:=by
 unfold gW;rw[List.length_flatMap];have:∀(m:List (α×Nat)),(m.map fun p=>(g p.2 p.1).length).sum≤m.length:=by
  intro m;induction m with
  |nil=>exact Nat.le_refl _
  |cons p m ih=>simp only[List.map_cons,List.sum_cons,List.length_cons];have:=h p.2 p.1;omega
 have:=this l.zipIdx;rwa[List.length_zipIdx]at this
theorem HK(f:aG)(leaf:Int)(up:List Bool)(K:jT)(r:aK):(B5 f leaf up K r).length≤(K.tg r).length:=by
 unfold B5 pX;split
 ·rw[List.length_flatMap];have:∀T,(iT f K.lo (Aa f leaf) (JN f leaf up K.es) (Lj f) (Qn f) (Qo f leaf) (fun p=>K.ez p r.N.IP) (K.sq r) (K.rt r) (K.tg r) r T).length≤1:=fun T=>by
   unfold iT;split
   ·exact Nat.zero_le _
   ·split
    ·cases uu f K.lo (Aa f leaf) (JN f leaf up K.es) (Lj f) _ (fun p=>K.ez p r.N.IP) (K.sq r) (K.rt r) (K.tg r) r<;>simp
    ·cases zu K.lo _ (Qo f leaf) (K.rt r) r<;>simp
  generalize K.tg r=ts at this;have h2:∀(m:List Int),(m.map fun T=>(iT f K.lo (Aa f leaf) (JN f leaf up K.es) (Lj f) (Qn f) (Qo f leaf) (fun p=>K.ez p r.N.IP) (K.sq r) (K.rt r) ts r T).length).sum≤m.length:=by
   intro m;induction m with
   |nil=>exact Nat.le_refl _
   |cons T m ih=>simp only[List.map_cons,List.sum_cons,List.length_cons];have:=this T;omega
  exact h2 ts
 ·exact Nat.zero_le _
theorem N7(n:Nat)(f:aG)(leaf:Int)(up:List Bool)(rs:List aK)(b:Nat)(hn:11≤n)(hck:At (gm.S n f) (fun(r:Int×ByteArray×Int)=>r.1=0))(h0:0≤leaf)(h1:leaf<f.Leaves)(seg:FY n f)
 (rl:rs.length<100000) (rn:rs.length<n) (hc:∀r∈rs,r.A.dy.length<100000∧r.A.dy.length<n) (ht:∀r∈rs,At (dV.S n r.A.dy) (fun(q:List Int)=>q.length≤b)) (hb:b<100000) (hbn:b<n)
 (kl:f.Leaks.length<100000) (kn:f.Leaks.length<n) (cs:f.aR.length+rs.length*b<90000) (cn:f.aR.length+rs.length*b+1<n) (sz:(f.aR.length+rs.length*b+1)*(f.Leaks.length+2)<1000000000):
 C7 n f leaf up rs (Kc n f leaf) gZ:=by
 have htg:∀r∈rs,At (dV.S n r.A.dy) (fun(q:List Int)=>q=(Kc n f leaf).tg r):=fun r hr=>(ht r hr).HI.at ([]:List Int)
 have htl:∀r∈rs,((Kc n f leaf).tg r).length≤b:=fun r hr=>by
  obtain⟨q,h1,h2⟩:=ht r hr;obtain⟨q',h3,h4⟩:=htg r hr;rw[h1]at h3;cases h3;rw[← h4];exact h2
 have hlen:(iK f leaf up (Kc n f leaf) rs).length≤f.aR.length+rs.length*b:=by
  unfold iK;rw[List.length_append];have h1:(xo f (Aa f leaf)).length≤f.aR.length:=HJ _ (fun i x=>by unfold qI;split<;>simp) _
  have h2:∀(l:List aK),(∀r∈l,r∈rs)→(l.flatMap (B5 f leaf up (Kc n f leaf))).length≤l.length*b:=by
   intro l;induction l with
   |nil=>intro _;simp
   |cons r l ih=>
    intro h;rw[List.flatMap_cons,List.length_append,List.length_cons,Nat.add_mul];have:=ih fun x hx=>h x (List.mem_cons_of_mem _ hx)
    have h3:=HK f leaf up (Kc n f leaf) r;have h4:=htl r (h r List.mem_cons_self);omega
  have:=h2 rs fun _ h=>h
  omega
 exact {
  hn:=hn,ck:=hck,h0:=h0,h1:=h1
  lo:=(RM n f leaf hck.HI).HI.at (0:Int)
  seg:=seg
  es:=fun i _=>by
   obtain⟨r,h⟩:=(Sy n (i:Int)).HI;exact⟨r,h,by show r.1=((kI.S n (i:Int)).getD _).1;rw[h];rfl⟩
  rl:=rl,rn:=rn
  tg:=htg
  rt:=fun r hr=>(S0 n _ (hc r hr).1 (hc r hr).2).HI.at ((0,false):Int×Bool)
  sq:=fun r hr=>by
   obtain⟨q,h⟩:=(Sz n _ (hc r hr).1 (hc r hr).2).HI;exact⟨q,h,by show q.2.1=((dW.S n r.A.dy).getD _).2.1;rw[h];rfl⟩
  tl:=fun r hr=>⟨Nat.lt_of_le_of_lt (htl r hr) hb,Nat.lt_of_le_of_lt (htl r hr) hbn⟩
  ez:=fun r _ d _=>(F4 n d.bt r.N.IP).HI.at false
  aY:=fun k _ p=>(Py n k.ah p).HI.at false
  kl:=kl,kn:=kn
  cs:=by omega
  sz:=Nat.lt_of_le_of_lt (Nat.mul_le_mul_right _ (by omega)) sz
  cn:=by omega
  so:=fun l h=>RO n l h
  sl:=fun l=>(iN l).1.length_eq}
end Go.L
end
section
namespace Go.L
open Go.AM
end Go.L
end
