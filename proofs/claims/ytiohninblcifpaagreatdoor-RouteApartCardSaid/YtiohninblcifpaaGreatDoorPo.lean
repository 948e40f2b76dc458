/- Parts put together. No conditions. -/
import Derived.Test.YtiohninblcifpaaGreatDoorPk
set_option linter.unusedSimpArgs false
set_option linter.unusedVariables false
set_option maxRecDepth 100000
section
namespace Go.L
open Go.AM
theorem Io:∀(l:List aj) (o:Option aj),(∀x,l.foldl xA o=some x→(x∈l∨o=some x)∧(∀y∈l,qS y.cG x.cG=false)∧∀y,o=some y→qS y.cG x.cG=false)∧(l.foldl xA o=none→l=[]∧o=none)
 | [],o=>⟨fun x h=>⟨.inr h,fun _ h=>(List.not_mem_nil h).elim,fun y hy=>by have h:o=some x:=h;rw[h]at hy;cases hy;exact vH _⟩,fun h=>⟨rfl,h⟩⟩
 |z::l,o=>by
  obtain⟨h1,h2⟩:=Io l (xA o z);have some_:∃w,xA o z=some w∧(w=z∨o=some w)∧qS z.cG w.cG=false∧∀y,o=some y→qS y.cG w.cG=false:=by
   cases o with
   |none=>exact⟨z,rfl,.inl rfl,vH _,fun _ h=>by cases h⟩
   |some y=>
    cases hl:qS z.cG y.cG with
    |true=>
     refine⟨z,by unfold xA;simp only[hl,if_true],.inl rfl,vH _,fun y' h=>?_⟩
     cases h;cases hy:qS y.cG z.cG with
     |false=>rfl
     |true=>have:=O9 hy hl;rw[vH]at this;cases this
    |false=>exact⟨y,by unfold xA;simp only[hl,Bool.false_eq_true,if_false],.inr rfl,hl,fun y' h=>by cases h;exact vH _⟩
  obtain⟨w,hw,hw1,hw2,hw3⟩:=some_;have nlt:∀{x y:aj},qS y.cG w.cG=false→qS w.cG x.cG=false→qS y.cG x.cG=false:=fun {x y} a b=>by
   cases hyx:qS y.cG x.cG with
   |false=>rfl
   |true=>
    unfold qS at*;simp only[decide_eq_true_eq,decide_eq_false_iff_not]at a b hyx;have s1:=rM (qh y.cG) (qh w.cG);have s2:=rM (qh w.cG) (qh x.cG);by_cases e1:eA (qh y.cG) (qh w.cG)=0
    ·rw[(rL (show(qh y.cG).length=(qh w.cG).length from rfl)).1 e1]at hyx;exact absurd hyx b
    ·have h3:eA (qh w.cG) (qh y.cG)<0:=by omega
     exact absurd (sQ h3 hyx) b
  refine⟨fun x hx=>?_,fun hx=>?_⟩
  ·obtain⟨q1,q2,q3⟩:=h1 x hx;have hwx:=q3 w hw;refine⟨?_,fun y hy=>?_,fun y hy=>nlt (hw3 y hy) hwx⟩
   ·rcases q1 with q1 |q1
    ·exact .inl (List.mem_cons_of_mem _ q1)
    ·rw[hw]at q1;cases q1;rcases hw1 with rfl |hw1
     ·exact .inl List.mem_cons_self
     ·exact .inr hw1
   ·rcases List.mem_cons.1 hy with rfl |hy
    ·exact nlt hw2 hwx
    ·exact q2 y hy
  ·obtain⟨_,h⟩:=h2 hx;rw[hw]at h;cases h
theorem Q1(cs:List aj)(p:aa)(x:aj):getM aY p (cs.foldl fP [])=some x→x∈cs∧tT x=p∧∀y∈cs,tT y=p→qS y.cG x.cG=false:=by
 rw[Gw];intro h;obtain⟨q1,q2,_⟩:=(Io _ _).1 x h;rcases q1 with q1 |q1
 ·obtain⟨a,b⟩:=List.mem_filter.1 q1;exact⟨a,(of_decide_eq_true b).symm,fun y hy he=>q2 y (List.mem_filter.2 ⟨hy,decide_eq_true he.symm⟩)⟩
 ·cases q1
end Go.L
end
section
namespace Go.L
open Go.AM
theorem LF{f:au}{own:Int}{cr:List Bool}{us:List (cB Int×List Int)}{dm:List (Int×Int)}{t:Int}{dQ:ah→Bool}{sq:Int}{rt:Int×Bool}{ts:List Int}{r:bF}{x:aj}(h:sU f own cr us dm t dQ sq rt ts r=some x):
 x.cG.level=1∧x.cG.n=r.N∧x.aG.av=t∧x.aG.ah=⟨r.N.IP,32⟩:=by
 unfold sU at h;split at h
 ·cases h
 ·split at h
  ·split at h
   ·cases h
   ·cases h;exact⟨rfl,rfl,rfl,rfl⟩
  ·cases h;exact⟨rfl,rfl,rfl,rfl⟩
theorem NG{own t:Int}{sb:List (aa×Bool)}{rt:Int×Bool}{r:bF}{x:aj}(h:yq own t sb rt r=some x):x.cG.level=2∧x.cG.n=r.N∧x.aG.av=t∧x.aG.ah=r.N.ah:=by
 unfold yq at h;split at h
 ·cases h
 ·cases h;exact⟨rfl,rfl,rfl,rfl⟩
theorem NH{f:au}{own:Int}{cr:List Bool}{us:List (cB Int×List Int)}{dm tn:List (Int×Int)}{sb:List (aa×Bool)}{dQ:ah→Bool}{sq:Int}{rt:Int×Bool}{ts:List Int}{r:bF}{x:aj}(h:x∈pe f own cr us dm tn sb dQ sq rt ts r):
 ∃T∈ts,∃t,getM cq T tn=some t∧((rR r=true∧sU f own cr us dm t dQ sq rt ts r=some x)∨(rR r=false∧r.N.Kind=5∧yq own t sb rt r=some x)):=by
 unfold pe at h;split at h
 ·rename_i hc;obtain⟨T,hT,hx⟩:=List.mem_flatMap.1 h;unfold iJ at hx;split at hx
  ·cases hx
  ·rename_i t ht;refine⟨T,hT,t,ht,?_⟩;split at hx
   ·rename_i hh;exact .inl ⟨hh,by simpa using hx⟩
   ·rename_i hh;have hh:rR r=false:=by simpa using hh
    rw[hh]at hc;exact .inr ⟨hh,by simpa using hc,by simpa using hx⟩
 ·cases h
theorem NI{f:au}{T t:Int}(h:getM cq T (Pd f)=some t):∃x,gv f.aA t=some x∧x.Target=T:=by
 obtain⟨i,x,h1,h2⟩:=AE (Be Uq _ _ _ h);simp only[List.mem_singleton,Prod.mk.injEq]at h2;exact⟨x,by rw[h2.2,bN,h1],h2.1.symm⟩
theorem Pg{f:au}{cr:List Bool}{x:aj}(h:x∈xB f cr):∃(i:Nat) (d:BD),f.aI[i]? =some d∧d.aL≠0∧cr[i]? =some true∧x=Jm i d:=by
 obtain⟨i,d,h1,h2⟩:=AE h;unfold ql at h2;split at h2
 ·rename_i hc;simp only[Bool.and_eq_true,bne_iff_ne,beq_iff_eq]at hc;simp only[List.mem_singleton]at h2;exact⟨i,d,h1,hc.1,hc.2,h2⟩
 ·cases h2
end Go.L
end
section
namespace Go.L
open Go.AM
theorem Ip{aT:ah→ah→Bool}{k:dH}{all:List aG}{x:aG}:lR aT k all x=true↔x.av=k.From∧¬(⟨k.To,x.ah⟩:aa)∈all.map kA∧aT k.ah x.ah=true:=by
 unfold lR;simp only[Bool.and_eq_true,beq_iff_eq,Bool.not_eq_true',decide_eq_false_iff_not,and_assoc]
theorem Iq(aT:ah→ah→Bool)(own:List aG):∀(leaks:List dH) (a:List aG),(∀x∈a,x∈leaks.foldl (kK aT own) a)∧
 (∀x∈leaks.foldl (kK aT own) a,x∈a∨∃k∈leaks,∃y∈own,y.av=k.From∧aT k.ah y.ah=true∧x=nr k y)∧
 (∀k∈leaks,∀y∈own,y.av=k.From→aT k.ah y.ah=true→(⟨k.To,y.ah⟩:aa)∈(leaks.foldl (kK aT own) a).map kA)
 | [],a=>⟨fun x h=>h,fun x h=>.inl h,fun k hk=>by cases hk⟩
 |k::ks,a=>by
  obtain⟨h1,h2,h3⟩:=Iq aT own ks (kK aT own a k);simp only[List.foldl_cons];have hsub:∀x∈a,x∈kK aT own a k:=fun x hx=>List.mem_append.2 (.inl hx)
  have hall:∀y∈own,y.av=k.From→aT k.ah y.ah=true→(⟨k.To,y.ah⟩:aa)∈(kK aT own a k).map kA:=fun y hy ht hc=>by
   unfold kK;rw[List.map_append,List.mem_append];by_cases hin:(⟨k.To,y.ah⟩:aa)∈a.map kA
   ·exact .inl hin
   ·exact .inr (List.mem_map.2 ⟨nr k y,List.mem_map.2 ⟨y,List.mem_filter.2 ⟨hy,Ip.2 ⟨ht,hin,hc⟩⟩,rfl⟩,rfl⟩)
  refine⟨fun x hx=>h1 x (hsub x hx),fun x hx=>?_,fun k' hk' y hy ht hc=>?_⟩
  ·rcases h2 x hx with h |⟨k',hk',y,hy,e⟩
   ·unfold kK at h;rcases List.mem_append.1 h with h |h
    ·exact .inl h
    ·obtain⟨y,hy,rfl⟩:=List.mem_map.1 h;obtain⟨hy1,hy2⟩:=List.mem_filter.1 hy;obtain⟨c1,_,c3⟩:=Ip.1 hy2;exact .inr ⟨k,List.mem_cons_self,y,hy1,c1,c3,rfl⟩
   ·exact .inr ⟨k',List.mem_cons_of_mem _ hk',y,hy,e⟩
  ·rcases List.mem_cons.1 hk' with rfl |hk'
   ·obtain⟨z,hz,he⟩:=List.mem_map.1 (hall y hy ht hc);exact List.mem_map.2 ⟨z,h1 z hz,he⟩
   ·exact h3 k' hk' y hy ht hc
theorem Ir(aT:ah→ah→Bool)(leaks:List dH)(own:List aG)(x:aG)(h:x∈Cu aT leaks own):x∈own∨∃k∈leaks,∃y∈own,y.av=k.From∧aT k.ah y.ah=true∧x=nr k y:=(Iq aT own leaks own).2.1 x h
end Go.L
end
section
namespace Go.L
open Go.AM
theorem Mm{f:au}{leaf:Int}{up:List Bool}{rs:List bF}{K:mR}{x:aG}(h:x∈oB (vK f leaf up K rs)):∃c∈jI f leaf up K rs,c.aG=x:=by
 unfold oB at h;obtain⟨⟨p,c⟩,he,rfl⟩:=List.mem_map.1 h;have:=(QV Bb (Et f leaf up K rs).1 p c).2 he;exact⟨c,(Q1 _ p c this).1,rfl⟩
theorem LG{f:au}{dm:List (Int×Int)}{t ip:Int}{dQ:ah→Bool}{ts:List Int}{bd:Int}(h:nU f dm t ip dQ ts=some bd):∃d,gv f.aI bd=some d∧d.av=t∧d.aL≠0∧dQ d.aJ=true∧∃T∈ts,getM cq T dm=some bd:=by
 have:∀(l:List Int) (o:Option Int),l.foldl (uk f dm t ip dQ) o=some bd→o=some bd∨∃d,gv f.aI bd=some d∧d.av=t∧d.aL≠0∧dQ d.aJ=true∧∃T∈l,getM cq T dm=some bd:=by
  intro l;induction l with
  |nil=>exact fun o h=>.inl h
  |cons T l ih=>
   intro o h;rcases ih _ h with h |⟨d,a1,a2,a3,a4,T',hT',a5⟩
   ·unfold uk at h;cases hg:getM cq T dm with
    |none=>rw[hg]at h;exact .inl h
    |some b=>
     rw[hg]at h;simp only at h;split at h
     ·exact .inl h
     ·split at h
      ·exact .inl h
      ·rename_i d hd;split at h
       ·rename_i hc;simp only[Bool.and_eq_true,beq_iff_eq,bne_iff_ne]at hc;cases h;exact .inr ⟨d,hd,hc.1.1,hc.1.2,hc.2,T,List.mem_cons_self,hg⟩
       ·exact .inl h
   ·exact .inr ⟨d,a1,a2,a3,a4,T',List.mem_cons_of_mem _ hT',a5⟩
 rcases this ts none h with h |h
 ·cases h
 ·exact h
structure Ph(f:au)(lo:Int)(rt:Int×Bool)(r:bF)(x:aG):Prop where
 bd:x.BD= -1
 rt:rt=(x.cW,true)
 next:r.A.Next=x.Next
 Tp:x.Next≠lo
 US:r.N.Label=x.bL∨r.N.dg=x.bL
theorem CA{f:au}{leaf:Int}{up:List Bool}{rs:List bF}{K:mR}{c:aj}(h:c∈jI f leaf up K rs):
 (∃(i:Nat) (d:BD),f.aI[i]? =some d∧d.aL≠0∧(zV f leaf)[i]? =some true∧c=Jm i d)∨
 (∃r∈rs,∃T∈K.tg r,∃x,gv f.aA c.aG.av=some x∧x.Target=T∧((∃d,gv f.aI c.aG.BD=some d∧d.av=c.aG.av∧d.aL≠0)∨Ph f K.lo (K.rt r) r c.aG)):=by
 unfold jI at h;rcases List.mem_append.1 h with h |h
 ·exact .inl (Pg h)
 ·obtain⟨r,hr,h⟩:=List.mem_flatMap.1 h;obtain⟨T,hT,t,ht,q⟩:=NH h;obtain⟨x,hx,hxT⟩:=NI ht;refine .inr ⟨r,hr,T,hT,x,?_,hxT,?_⟩
  ·rcases q with q |q
   ·rw[(LF q.2).2.2.1];exact hx
   ·rw[(NG q.2.2).2.2.1];exact hx
  ·rcases q with q |q
   ·have q:=q.2;unfold sU at q;split at q
    ·cases q
    ·rename_i bd hbd;split at q
     ·split at q
      ·cases q
      ·rename_i hc;simp only[Bool.or_eq_true,beq_iff_eq,Bool.not_eq_true',not_or]at hc;cases q;refine .inr ⟨rfl,?_,rfl,hc.1.1,.inr rfl⟩;have:(K.rt r).2=true:=by cases h:(K.rt r).2<;>simp_all
       show K.rt r=((K.rt r).1,true);rw[← this]
     ·cases q;obtain⟨d,a1,a2,a3,_⟩:=LG hbd;exact .inl ⟨d,a1,a2,a3⟩
   ·have q:=q.2.2;unfold yq at q;split at q
    ·cases q
    ·rename_i hc;simp only[Bool.or_eq_true,beq_iff_eq,Bool.not_eq_true',not_or]at hc;cases q;refine .inr ⟨rfl,?_,rfl,hc.1.1.1,.inl rfl⟩;have:(K.rt r).2=true:=by cases h:(K.rt r).2<;>simp_all
     show K.rt r=((K.rt r).1,true);rw[← this]
theorem KD{f:au}{leaf:Int}{up:List Bool}{rs:List bF}{K:mR}{x:aG}:x∈yU f leaf up rs K↔x∈Cu K.aT f.Leaks (oB (vK f leaf up K rs)):=by
 unfold yU;exact(jO _).1.mem_iff
end Go.L
end
section
namespace Go.L
open Go.AM
def RQ{α:Type}(o:Option α):Prop:=∃r,o=some r
theorem RQ.at{α:Type}{o:Option α}(h:RQ o)(d:α):At o (fun r=>r=o.getD d):=by
 obtain⟨r,h⟩:=h;exact⟨r,h,by rw[h];rfl⟩
theorem _root_.Go.AM.At.Is{α:Type}{o:Option α}{p:α→Prop}(h:At o p):RQ o:=by
 obtain⟨r,h,_⟩:=h;exact⟨r,h⟩
theorem Hy(n:Nat)(p:ah):At (lE.S n p) (fun(b:Bool)=>b=true→0≤p.Len∧p.Len≤32):=by
 refine(?_ :cF n (rF p) _);unfold rF;exact .skip (.br (fun h=>.skip (.done rfl fun h2=>⟨by simpa using h,by simpa using h2⟩)) fun h=>.skip (.done rfl fun h2=>by cases h2))
theorem Tq(n:Nat)(l:Int)(h0:0≤l)(h1:l≤32):At (qI.S n l) (fun(_:Int)=>True):=by
 refine(?_ :cF n (tQ l) _);unfold tQ;refine .skip (.op () (if_pos ?_) (.skip (.done rfl trivial)));exact decide_eq_true (by rw[wrap_i64 (by omega) (by omega)];omega)
theorem GB(n:Nat)(p:ah)(ip:Int):At (dL.S n (p,ip)) (fun(_:Bool)=>True):=by
 refine(?_ :cF n (nP p ip) _);unfold nP;refine .skip (.call _ (Hy n p) fun r3 h3=>.skip (.br (fun h=>?_) fun _=>.skip (.done rfl trivial)))
 obtain⟨h0,h1⟩:=h3 h;exact .skip (.call _ (Tq n _ h0 h1) fun _ _=>.skip (.done rfl trivial))
theorem Q2(n:Nat)(p q:ah):At (l8.S n (p,q)) (fun(_:Bool)=>True):=by
 refine(?_ :cF n (yp p q) _);unfold yp;exact .skip (.call _ (Hy n p) fun r3 h3=>.skip (.br (fun h=>.skip (.call _ (Hy n q) fun r4 h4=>.skip (.br (fun h2=>.skip (.br (fun h5=>.skip (.call _ (GB n p _) fun _ _=>.skip (.done rfl trivial))) fun _=>.skip (.done rfl trivial))) fun _=>.skip (.done rfl trivial)))) fun _=>.skip (.done rfl trivial)))
theorem T7(n:Nat)(i:Int):At (ko.S n i) (fun(_:cB Int×Int)=>True):=by
 refine(?_ :cF n (tD i) _);unfold tD;exact .skip (.br (fun _=>.skip (.done rfl trivial)) fun _=>.skip (.br (fun _=>.skip (.done rfl trivial)) fun _=>.skip (.done rfl trivial)))
theorem Sw(n:Nat)(i:Int):At (vF.S n i) (fun(_:Int×Int)=>True):=by
 refine(?_ :cF n (nT i) _);unfold nT;exact .skip (.br (fun _=>.skip (.done rfl trivial)) fun _=>.skip (.br (fun _=>.skip (.done rfl trivial)) fun _=>.skip (.done rfl trivial)))
theorem Tr(n:Nat)(f:au)(i:Int)(h:RQ (fB.S n f)):At (iS.S n (f,i)) (fun(_:Int)=>True):=by
 refine(?_ :cF n (mh f i) _);unfold mh;obtain⟨v,hv⟩:=h;have hval:At (wU.S n f) (fun(_:Bool)=>True):=by
  refine(?_ :cF n (o8 f) _);unfold o8;exact .skip (.call (fun _=>True) ⟨v,hv,trivial⟩ fun _ _=>.skip (.done rfl trivial))
 have hw:∀a b,At (eC.S n (a,b)) (fun(_:Bool)=>True):=fun a b=>by
  refine(?_ :cF n (jW a b) _);unfold jW;exact .skip (.br (fun _=>.skip (.done rfl trivial)) fun _=>.skip (.done rfl trivial))
 have hl:At (tC.S n i) (fun(_:Int)=>True):=by
  refine(?_ :cF n (mg i) _);unfold mg;exact .skip (.call _ (Sw n i) fun _ _=>.skip (.done rfl trivial))
 exact .skip (.call _ hval fun _ _=>.skip (.br (fun _=>.skip (.done rfl trivial)) fun _=>.skip (.call _ (hw _ _) fun _ _=>.skip (.br (fun _=>.skip (.done rfl trivial)) fun _=>.skip (.call _ hl fun _ _=>.skip (.done rfl trivial))))))
theorem Pj(n:Nat)(c:V8 Int):At (ov.S n c) (fun(_:Int)=>True):=by
 refine(?_ :cF n (tR c) _);unfold tR;refine .skip (.gu (.skip ?_))
 repeat' first
  |exact .skip (.done rfl trivial)
  |refine .br (fun _=>?_) fun _=>?_
  |refine .skip ?_
theorem T8(n:Nat)(l:List (V8 Int))(hl:l.length<100000)(hn:l.length<n):At (dP.S n l) (fun(_:Bool×Int×Bool)=>True):=by
 refine(?_ :cF n (tu l) _);unfold tu;refine .skip (.inl (.skip (.op () rfl (.skip (.loop (fun a:Int=>dI l (fun _ (_:Unit)=>True) (a,())) (fun a=>l.length - a.toNat) (fun _=>True) rfl (dI.start trivial) (by simpa using hn) (fun a ha=>?_) (fun t _=>?_))))))
 ·refine .skip (.br (fun h=>?_) fun _=>.skip (.done rfl trivial))
  obtain⟨x,pre,h1,_,_,_,h5⟩:=ha.get h;refine .skip (.op x h1 (.skip (.call _ (Pj n x) fun _ _=>.skip (.br (fun _=>?_) fun _=>.skip (.done rfl (h5 hl () trivial))))))
  refine .skip (.inl (.skip (.inl (.skip (.gu (.skip (.tidy rfl (.inl (.skip (.tidy rfl (.inl (.skip ?_))))))))))));exact .done rfl trivial
 ·cases t with
  |inl t=>exact .tidy rfl (.inl (.skip (.done rfl trivial)))
  |inr t=>exact .skip (.tidy rfl (.inl (.skip (.done rfl trivial))))
theorem Ts(n:Nat)(c:V8 Int):At (A9.S n c) (fun(_:Int)=>True):=by
 refine(?_ :cF n (tS c) _);unfold tS
 repeat' first
  |exact .done rfl trivial
  |refine .skip ?_
  |refine .gu ?_
  |refine .inl ?_
  |refine .tidy rfl ?_
theorem UC(n:Nat)(l:List (V8 Int))(hl:l.length<100000)(hn:l.length<n):At (dZ.S n l) (fun(_:Int×Bool)=>True):=by
 refine(?_ :cF n (nS l) _);unfold nS;refine .skip (.inl (.skip (.op () rfl (.skip (.loop (fun a:Int=>dI l (fun _ (_:Unit)=>True) (a,())) (fun a=>l.length - a.toNat) (fun _=>True) rfl (dI.start trivial) (by simpa using hn) (fun a ha=>?_) (fun t _=>?_))))))
 ·refine .skip (.br (fun h=>?_) fun _=>.skip (.done rfl trivial))
  obtain⟨x,pre,h1,_,_,_,h5⟩:=ha.get h;refine .skip (.op x h1 (.skip (.call _ (Pj n x) fun _ _=>.skip (.br (fun _=>?_) fun _=>.skip (.done rfl (h5 hl () trivial))))))
  exact .skip (.call _ (Ts n x) fun _ _=>.skip (.done rfl trivial))
 ·cases t with
  |inl t=>exact .tidy rfl (.inl (.skip (.done rfl trivial)))
  |inr t=>exact .skip (.tidy rfl (.inl (.skip (.done rfl trivial))))
theorem Tt(n:Nat)(l:List aG)(h:l.length<1000000000):At (lH.S n l) (fun r=>r=iu l):=
 ⟨iu l,if_pos (by omega),rfl⟩
theorem It{α β:Type}(g:Nat→α→List β)(h:∀i x,(g i x).length≤1)(l:List α):(gQ g l).length≤l.length:=by
 unfold gQ;rw[List.length_flatMap];have:∀(m:List (α×Nat)),(m.map fun p=>(g p.2 p.1).length).sum≤m.length:=by
  intro m;induction m with
  |nil=>exact Nat.le_refl _
  |cons p m ih=>simp only[List.map_cons,List.sum_cons,List.length_cons];have:=h p.2 p.1;omega
 have:=this l.zipIdx;rwa[List.length_zipIdx]at this
theorem Iu(f:au)(leaf:Int)(up:List Bool)(K:mR)(r:bF):(Es f leaf up K r).length≤(K.tg r).length:=by
 unfold Es pe;split
 ·rw[List.length_flatMap];have:∀T,(iJ f K.lo (zV f leaf) (KA f leaf up K.es) (Mk f) (Pd f) (RP f leaf) (fun p=>K.dQ p r.N.IP) (K.sq r) (K.rt r) (K.tg r) r T).length≤1:=fun T=>by
   unfold iJ;split
   ·exact Nat.zero_le _
   ·split
    ·cases sU f K.lo (zV f leaf) (KA f leaf up K.es) (Mk f) _ (fun p=>K.dQ p r.N.IP) (K.sq r) (K.rt r) (K.tg r) r<;>simp
    ·cases yq K.lo _ (RP f leaf) (K.rt r) r<;>simp
  generalize K.tg r=ts at this;have h2:∀(m:List Int),(m.map fun T=>(iJ f K.lo (zV f leaf) (KA f leaf up K.es) (Mk f) (Pd f) (RP f leaf) (fun p=>K.dQ p r.N.IP) (K.sq r) (K.rt r) ts r T).length).sum≤m.length:=by
   intro m;induction m with
   |nil=>exact Nat.le_refl _
   |cons T m ih=>simp only[List.map_cons,List.sum_cons,List.length_cons];have:=this T;omega
  exact h2 ts
 ·exact Nat.zero_le _
theorem Pk(n:Nat)(f:au)(leaf:Int)(up:List Bool)(rs:List bF)(b:Nat)(hn:11≤n)(hck:At (fB.S n f) (fun(r:Int×ByteArray×Int)=>r.1=0))(h0:0≤leaf)(h1:leaf<f.Leaves)(seg:Gx n f)
 (rl:rs.length<100000) (rn:rs.length<n) (hc:∀r∈rs,r.A.bT.length<100000∧r.A.bT.length<n) (ht:∀r∈rs,At (dB.S n r.A.bT) (fun(q:List Int)=>q.length≤b)) (hb:b<100000) (hbn:b<n)
 (kl:f.Leaks.length<100000) (kn:f.Leaks.length<n) (cs:f.aI.length+rs.length*b<90000) (cn:f.aI.length+rs.length*b+1<n) (sz:(f.aI.length+rs.length*b+1)*(f.Leaks.length+2)<1000000000):
 DJ n f leaf up rs (Kc n f leaf) iu:=by
 have htg:∀r∈rs,At (dB.S n r.A.bT) (fun(q:List Int)=>q=(Kc n f leaf).tg r):=fun r hr=>(ht r hr).Is.at ([]:List Int)
 have htl:∀r∈rs,((Kc n f leaf).tg r).length≤b:=fun r hr=>by
  obtain⟨q,h1,h2⟩:=ht r hr;obtain⟨q',h3,h4⟩:=htg r hr;rw[h1]at h3;cases h3;rw[← h4];exact h2
 have hlen:(jI f leaf up (Kc n f leaf) rs).length≤f.aI.length+rs.length*b:=by
  unfold jI;rw[List.length_append];have h1:(xB f (zV f leaf)).length≤f.aI.length:=It _ (fun i x=>by unfold ql;split<;>simp) _
  have h2:∀(l:List bF),(∀r∈l,r∈rs)→(l.flatMap (Es f leaf up (Kc n f leaf))).length≤l.length*b:=by
   intro l;induction l with
   |nil=>intro _;simp
   |cons r l ih=>
    intro h;rw[List.flatMap_cons,List.length_append,List.length_cons,Nat.add_mul];have:=ih fun x hx=>h x (List.mem_cons_of_mem _ hx)
    have h3:=Iu f leaf up (Kc n f leaf) r;have h4:=htl r (h r List.mem_cons_self);omega
  have:=h2 rs fun _ h=>h
  omega
 exact {
  hn:=hn,ck:=hck,h0:=h0,h1:=h1
  lo:=(Tr n f leaf hck.Is).Is.at (0:Int)
  seg:=seg
  es:=fun i _=>by
   obtain⟨r,h⟩:=(T7 n (i:Int)).Is;exact⟨r,h,by show r.1=((ko.S n (i:Int)).getD _).1;rw[h];rfl⟩
  rl:=rl,rn:=rn
  tg:=htg
  rt:=fun r hr=>(UC n _ (hc r hr).1 (hc r hr).2).Is.at ((0,false):Int×Bool)
  sq:=fun r hr=>by
   obtain⟨q,h⟩:=(T8 n _ (hc r hr).1 (hc r hr).2).Is;exact⟨q,h,by show q.2.1=((dP.S n r.A.bT).getD _).2.1;rw[h];rfl⟩
  tl:=fun r hr=>⟨Nat.lt_of_le_of_lt (htl r hr) hb,Nat.lt_of_le_of_lt (htl r hr) hbn⟩
  dQ:=fun r _ d _=>(GB n d.aJ r.N.IP).Is.at false
  aT:=fun k _ p=>(Q2 n k.ah p).Is.at false
  kl:=kl,kn:=kn
  cs:=by omega
  sz:=Nat.lt_of_le_of_lt (Nat.mul_le_mul_right _ (by omega)) sz
  cn:=by omega
  so:=fun l h=>Tt n l h
  sl:=fun l=>(jO l).1.length_eq}
end Go.L
end
section
namespace Go.L
open Go.AM
def KE(i:Int):Int:=IntKind.wrap .u32 ((IntKind.wrap .u32 ((184483840:Int)+(IntKind.wrap .u32 i)))+(1:Int))
theorem LH(n:Nat)(f:au)(i:Int)(hck:At (fB.S n f) (fun(r:Int×ByteArray×Int)=>r.1=0))(h0:0≤i)(h1:i<f.Leaves)(h2:0≤f.dK)(h3:f.Leaves+f.dK≤32):At (iS.S n (f,i)) (fun(r:Int)=>r=KE i):=by
 refine(?_ :cF n (mh f i) _);unfold mh;have hval:At (wU.S n f) (fun(b:Bool)=>b=true):=by
  refine(?_ :cF n (o8 f) _);unfold o8;exact .skip (.call _ hck fun r hr=>.skip (.done rfl (by rw[hr];rfl)))
 have hw:∀b,i<b→At (eC.S n (i,b)) (fun(r:Bool)=>r=true):=fun b hb=>by
  refine(?_ :cF n (jW i b) _);unfold jW;exact .skip (.br (fun _=>.skip (.done rfl (decide_eq_true hb))) fun h=>absurd h0 (by simpa using h))
 have hl:At (tC.S n i) (fun(r:Int)=>r=KE i):=by
  refine(?_ :cF n (mg i) _);unfold mg;have:At (vF.S n i) (fun(r:Int×Int)=>r.1=KE i):=by
   refine(?_ :cF n (nT i) _);unfold nT;exact .skip (.br (fun h=>absurd h0 (by simpa using h)) fun _=>.skip (.br (fun h=>by simp only[ge_iff_le,decide_eq_true_eq]at h;omega) fun _=>.skip (.done rfl rfl)))
  exact .skip (.call _ this fun r hr=>.skip (.done rfl hr))
 refine .skip (.call _ hval fun r3 h3'=>.skip (.br (fun h=>by rw[h3']at h;cases h) fun _=>.skip (.call _ (hw _ ?_) fun r5 h5=>.skip (.br (fun h=>by rw[h5]at h;cases h) fun _=>.skip (.call _ hl fun r7 h7=>.skip (.done rfl h7))))))
 rw[wrap_i64 (by omega) (by omega)];omega
end Go.L
end
