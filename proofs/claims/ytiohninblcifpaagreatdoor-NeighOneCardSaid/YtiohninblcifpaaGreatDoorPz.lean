/- Parts put together. No conditions. -/
import Derived.Test.YtiohninblcifpaaGreatDoorPn
import Derived.Test.YtiohninblcifpaaGreatDoorPv
import Derived.Test.YtiohninblcifpaaGreatDoorPs
import Derived.Test.YtiohninblcifpaaGreatDoorWm
set_option linter.unusedSimpArgs false
set_option linter.unusedVariables false
set_option maxRecDepth 100000
section
namespace Go.L
open Go.AM
theorem TM.same{cs cs' m m':List (aj×ah)}(h:TM cs m)(h':TM cs' m')(hs:∀x,x∈cs↔x∈cs')(x:aj×ah):x∈m↔x∈m':=by
 obtain⟨p,b⟩:=x;rw[h.iff,h'.iff,hs];constructor
 ·rintro⟨h1,h2⟩;exact⟨h1,fun b' hb=>h2 b' ((hs _).2 hb)⟩
 ·rintro⟨h1,h2⟩;exact⟨h1,fun b' hb=>h2 b' ((hs _).1 hb)⟩
theorem yR{m:List (aj×ah)}(hn:(m.map (·.1)).Nodup):m.Nodup:=by
 induction m with
 |nil=>exact List.nodup_nil
 |cons x m ih=>
  simp only[List.map_cons,List.nodup_cons]at hn ⊢;exact⟨fun hx=>hn.1 (List.mem_map_of_mem hx),ih hn.2⟩
theorem zX{α:Type}:∀{l l':List α},l.Nodup→l'.Nodup→(∀x,x∈l↔x∈l')→l.Perm l'
 | [],l',_,_,h=>by
  cases l' with
  |nil=>exact .nil
  |cons y t=>exact absurd ((h y).2 List.mem_cons_self) List.not_mem_nil
 |x::l,l',hn,hn',h=>by
  obtain⟨s,t,rfl⟩:=List.append_of_mem ((h x).1 List.mem_cons_self);rw[List.nodup_cons]at hn;have hp:(s++x::t).Perm (x::(s++t)):=List.perm_middle;have hn2:=hp.nodup_iff.1 hn';rw[List.nodup_cons]at hn2;refine(List.Perm.cons x (zX hn.2 hn2.2 fun y=>?_)).trans hp.symm
  have hy:=h y;rw[hp.mem_iff]at hy;simp only[List.mem_cons]at hy;constructor
  ·intro hy1;rcases hy.1 (.inr hy1)with rfl |h2
   ·exact absurd hy1 hn.1
   ·exact h2
  ·intro hy1;rcases hy.2 (.inr hy1)with rfl |h2
   ·exact absurd hy1 hn2.1
   ·exact h2
theorem zY{m:List (aj×ah)}(hn:(m.map (·.1)).Nodup){p:aj}{b:ah}(hb:(p,b)∈m):Iu m p=b.ov:=by
 unfold Iu;cases hf:aV eD p m 0 with
 |none=>exact absurd rfl (tC zL m 0 hf _ hb)
 |some x=>
  obtain⟨i,v⟩:=x;obtain⟨_,h2⟩:=ri zL m 0 i v hf;obtain⟨j,hj,he⟩:=List.getElem_of_mem hb;have hj2:m[j]? =some (p,b):=by rw[List.getElem?_eq_getElem hj,he]
  have:=FC hn h2 hj2;rw[this,hj2]at h2;simp only[Option.some.injEq,Prod.mk.injEq,true_and]at h2;subst h2;rfl
theorem IW{m m':List (aj×ah)}(hn:(m.map (·.1)).Nodup)(hn':(m'.map (·.1)).Nodup)(hs:∀x,x∈m↔x∈m'):
 (eF (m.map (·.1))).map (pG m)=(eF (m'.map (·.1))).map (pG m'):=by
 have hp:=zX (yR hn) (yR hn') hs;rw[zJ (hp.map (·.1))];apply List.map_congr_left;intro p hpm;have hpm:=(iH (m'.map (·.1))).1.mem_iff.1 hpm;obtain⟨⟨q,b⟩,hb,rfl⟩:=List.mem_map.1 hpm;unfold pG;rw[zY hn' hb,zY hn ((hs _).2 hb)]
theorem CM.agree{tg:Int→Int}{pre:List Int}{m m':List (Int×Int)}(h:CM tg pre m)(h':CM tg pre m')(hu:∀b∈pre,∀c∈pre,tg c=tg b→c=b)(T:Int):
 (aV fq T m 0).map (·.2)=(aV fq T m' 0).map (·.2):=by
 cases hf:aV fq T m 0 with
 |some x=>
  obtain⟨i,v⟩:=x;obtain⟨_,h2⟩:=ri Cr m 0 i v hf;obtain⟨h3,h4⟩:=h.sub _ _ (List.mem_of_getElem? h2);obtain⟨j,hj⟩:=h'.find h3 (hu v h3);rw[h4]at hj;rw[hj];rfl
 |none=>
  have hno:=tC Cr m 0 hf;rw[h'.none fun c hc he=>?_]
  obtain⟨b',hb'⟩:=h.all c hc;exact hno _ hb' he
theorem GF{mm mm':List (Int×Int)}(h:∀T,(aV fq T mm 0).map (·.2)=(aV fq T mm' 0).map (·.2))(r:bw)(s T:Int):lD mm r s T=lD mm' r s T:=by
 have:=h T;unfold lD;cases h1:aV fq T mm 0<;>cases h2:aV fq T mm' 0<;>rw[h1,h2]at this<;>simp_all
theorem GG{mm mm':List (Int×Int)}(h:∀T,(aV fq T mm 0).map (·.2)=(aV fq T mm' 0).map (·.2))(lo:Int)(sq:bw→Int)(tg:bw→List Int)(r:bw):iB mm lo sq tg r=iB mm' lo sq tg r:=by
 unfold iB;have:lD mm r (sq r)=lD mm' r (sq r):=funext fun T=>GF h r (sq r) T
 rw[this]
def MY(f:aQ)(leaf:Int):Prop:=∀b∈f.ax.flatMap (qR leaf),∀c∈f.ax.flatMap (qR leaf),uq f c=uq f b→c=b
theorem IX{f:aQ}{leaf lo:Int}{sq:bw→Int}{tg:bw→List Int}{ns ns':List hU}{rs rs':List bw}{out out':List Known}(hu:MY f leaf)
 (h:tD f leaf lo sq tg ns rs out) (h':tD f leaf lo sq tg ns' rs' out') (hns:∀x,x∈ns↔x∈ns') (hrs:∀x,x∈rs↔x∈rs'):out=out':=by
 obtain⟨mm,m,hmm,hm,rfl⟩:=h;obtain⟨mm',m',hmm',hm',rfl⟩:=h';have ha:=hmm.agree hmm' hu;refine IW hm.nd hm'.nd (hm.same hm' fun x=>?_)
 unfold sB;simp only[List.mem_append,List.mem_flatMap];have hr:iB mm lo sq tg=iB mm' lo sq tg:=funext fun r=>GG ha lo sq tg r
 rw[hr];simp only[hns,hrs]
theorem J8{f:aQ}{leaf lo:Int}{sq:bw→Int}{tg:bw→List Int}{ns:List hU}{rs:List bw}{out:List Known}(h:tD f leaf lo sq tg ns rs out):
 out.Pairwise (fun a b=>a.BD<b.BD∨a.BD=b.BD∧a.IP<b.IP):=by
 obtain⟨mm,m,hmm,hm,rfl⟩:=h;rw[List.pairwise_map];have h1:=(iH (m.map (·.1))).2;have h2:(eF (m.map (·.1))).Nodup:=(iH (m.map (·.1))).1.nodup_iff.2 hm.nd;refine(h1.and h2).imp fun {a b} ⟨hab,hne⟩=>?_
 show a.bd<b.bd∨a.bd=b.bd∧a.ip<b.ip;unfold vz at hab;by_cases e:a.bd=b.bd∧a.ip=b.ip
 ·exact absurd (by cases a;cases b;simp only at e;obtain⟨rfl,rfl⟩:=e;rfl) hne
 ·omega
def wO(f:aQ)(leaf:Int)(x:hU):Bool:=match fF f.ax x.aB with
 |none=>false
 |some s=>decide (leaf∈s.Leaves)&&decide (x.BD∈s.aW)
theorem DU{f:aQ}{leaf:Int}{x:hU}{p:aj}{b:ah}:(p,b)∈pF f leaf x↔x.iz=true∧wO f leaf x=true∧p=⟨x.BD,x.IP⟩∧b=Go.L.ah.mk x.MAC true x.Time (0:Int) false (0:Int):=by
 unfold pF wO;cases x.iz
 ·simp
 ·cases fF f.ax x.aB with
  |none=>simp
  |some s=>
   simp only[Bool.not_true,Bool.false_eq_true,if_false,true_and];split
   ·rename_i hc;simp[hc]
   ·rename_i hc;simp[hc]
theorem J9{mm:List (Int×Int)}{lo:Int}{sq:bw→Int}{tg:bw→List Int}{r:bw}{p:aj}{b:ah}(h:(p,b)∈iB mm lo sq tg r):
 r.N.Kind=2∧r.N.iz=true∧r.N.IP=p.ip∧b.ov=r.N.MAC∧b.gO=false:=by
 unfold iB at h;split at h
 ·cases h
 rename_i h1;split at h
 ·cases h
 rename_i h2;split at h
 ·cases h
 obtain⟨T,_,hT⟩:=List.mem_flatMap.1 h;unfold lD at hT;split at hT
 ·cases hT
 ·simp only[List.mem_singleton,Prod.mk.injEq]at hT;obtain⟨rfl,rfl⟩:=hT;refine⟨by simpa using h1,by simpa using h2,rfl,rfl,rfl⟩
theorem IY{f:aQ}{leaf lo:Int}{sq:bw→Int}{tg:bw→List Int}{ns:List hU}{rs:List bw}{out:List Known}(h:tD f leaf lo sq tg ns rs out)(k:Known)(hk:k∈out):
 (∃x∈ns,x.iz=true∧x.BD=k.BD∧x.IP=k.IP∧wO f leaf x=true∧x.MAC=k.MAC)∨
 ((∀x∈ns,¬(x.iz=true∧x.BD=k.BD∧x.IP=k.IP∧wO f leaf x=true))∧∃r∈rs,r.N.Kind=2∧r.N.iz=true∧r.N.IP=k.IP∧r.N.MAC=k.MAC):=by
 obtain⟨mm,m,hmm,hm,rfl⟩:=h;obtain⟨p,hp,rfl⟩:=List.mem_map.1 hk;have hp:=(iH (m.map (·.1))).1.mem_iff.1 hp;obtain⟨⟨q,b⟩,hb,rfl⟩:=List.mem_map.1 hp;have hmac:(pG m q).MAC=b.ov:=zY hm.nd hb;obtain⟨h1,h2⟩:=(hm.iff q b).1 hb;unfold sB at h1 h2;simp only[List.mem_append,List.mem_flatMap]at h1 h2;rcases h1 with⟨x,hx,hx2⟩ |⟨r,hr,hr2⟩
 ·obtain⟨e1,e2,rfl,rfl⟩:=DU.1 hx2;exact .inl ⟨x,hx,e1,rfl,rfl,e2,hmac.symm⟩
 ·obtain⟨e1,e2,e3,e4,e5⟩:=J9 hr2;refine .inr ⟨fun x hx ⟨g1,g2,g3,g4⟩=>?_,r,hr,e1,e2,e3,by rw[hmac];exact e4.symm⟩
  refine h2 (Go.L.ah.mk x.MAC true x.Time (0:Int) false (0:Int)) (.inl ⟨x,hx,DU.2 ⟨g1,g4,?_,rfl⟩⟩) ?_
  ·show q=_;cases q;have g2':x.BD=_:=g2;have g3':x.IP=_:=g3;simp only[pG]at g2' g3';rw[g2',g3']
  ·unfold vA;left;show gp true<gp b.gO;rw[e5];decide
end Go.L
end
section
namespace Go.L
open Go.AM
theorem FX(n:Nat)(hn:5000≤n)(f:aQ)(hv:Vf f):At (jm.S n f) (fun(r:Int×ByteArray×Int)=>r.1=0):=by
 refine(At.eq (r:=xK f) fun k=>FR n hn f (Lr hv) k).mono fun r hr=>?_
 rw[hr,Lq hv]
theorem Ls(n:Nat)(hn:5000≤n)(f:aQ)(hv:Vf f):At (xD.S n f) (fun(r:Bool)=>r=true):=by
 refine(?_ :er n (tA f) _);unfold tA;refine .skip (.call _ (FX n hn f hv) fun r hr=>.skip (.done rfl ?_))
 rw[hr];rfl
theorem J6(n:Nat)(x y:Int)(h0:0≤x)(h1:x<y):At (dM.S n (x,y)) (fun(r:Bool)=>r=true):=by
 refine(?_ :er n (lX x y) _);unfold lX;refine .skip (.br (fun _=>.skip (.done rfl (decide_eq_true h1))) fun h=>?_)
 simp only[decide_eq_false_iff_not]at h;omega
theorem Lt(n:Nat)(x:Int)(h0:0≤x)(h1:x<32):At (uz.S n x) (fun(r:Int)=>r=184483841+x):=by
 refine(?_ :er n (pZ x) _);unfold pZ;refine .skip (.call (fun(r:Int×Int)=>r.1=184483841+x) ?_ fun r hr=>.skip (.done rfl hr))
 refine(?_ :er n (sy x) _);unfold sy;refine .skip (.br (fun h=>?_) fun _=>.skip (.br (fun h=>?_) fun _=>.skip (.done rfl ?_)))
 ·simp only[decide_eq_true_eq]at h;omega
 ·simp only[decide_eq_true_eq]at h;omega
 ·simp only[IntKind.wrap_u32];omega
theorem Mj(n:Nat)(hn:5000≤n)(f:aQ)(hv:Vf f)(x:Int)(h0:0≤x)(h1:x<f.Leaves):At (mL.S n (f,x)) (fun(r:Int)=>r=184483841+x):=by
 have l1:=hv.leaves;have l2:=hv.CL;refine(?_ :er n (qb f x) _);unfold qb;refine .skip (.call _ (Ls n hn f hv) fun r hr=>.skip (.br (fun h=>?_) fun _=>.skip (.call _ (J6 n x _ h0 ?_) fun r2 hr2=>.skip (.br (fun h=>?_) fun _=>.skip (.call _ (Lt n x h0 (by omega)) fun r3 hr3=>.skip (.done rfl hr3))))))
 ·rw[hr]at h;cases h
 ·rw[wrap_i64 (by omega) (by omega)];omega
 ·rw[hr2]at h;cases h
theorem LU(n:Nat)(hn:5000≤n)(f:aQ)(hv:Vf f):It n f:=by
 have h1:=hv.segments;refine⟨by omega,by omega,fun s hs=>?_⟩
 obtain⟨⟨a1,a2,a3,a4⟩,b1,b2,b3,b4⟩:=hv.seg s hs;exact⟨by omega,by omega,by omega,by omega,b3⟩
theorem J7(f:aQ)(hv:Vf f)(c:Int)(h0:0≤c)(h1:c<(f.aW.length:Int)):uq f c=500+c:=by
 have hlt:c.toNat<f.aW.length:=by omega
 have hx:=bK f.aW c.toNat;rw[show((c.toNat:Nat):Int)=c by omega,List.getElem?_eq_getElem hlt]at hx
 have:=hv.bd c.toNat _ (List.getElem?_eq_getElem hlt);unfold uq;rw[hx];show(f.aW[c.toNat]'hlt).Target=_;rw[this.2.2.2.1];omega
end Go.L
end
section
namespace Go.L
open Go.AM
theorem Ml(n:Nat)(x m:Int)(h0:0<m)(h1:m≤1000000):At (CP.S n (x,m)) (fun(r:Int)=>0≤r∧r<m):=by
 refine(?_ :er n (yG x m) _);unfold yG;have e:(ym .i64 x m).run=some ():=by simp[ym,C1,show m≠0 by omega]
 have l1:=Int.tmod_lt_of_pos x h0;have l2:=Int.lt_tmod_of_pos x h0;refine .skip (.op () e (.skip (.br (fun h=>.skip (.done rfl ?_)) fun h=>.skip (.done rfl ?_))))
 ·simp only[decide_eq_true_eq]at h;rw[wrap_i64 (by omega) (by omega)];omega
 ·simp only[decide_eq_false_iff_not]at h;omega
theorem Nb(n:Nat)(c:V8 Int):At (oh.S n c) (fun(_:Int)=>True):=by
 refine(?_ :er n (qu c) _);unfold qu;refine .skip (.gu (.skip ?_))
 repeat' first
  |exact .skip (.done rfl trivial)
  |refine .br (fun _=>?_) fun _=>?_
  |refine .skip ?_
theorem NG(n:Nat)(l:List (V8 Int))(hl:l.length<100000)(hn:l.length<n):At (kI.S n l) (fun(_:Bool×Int×Bool)=>True):=by
 refine(?_ :er n (pU l) _);unfold pU;refine .skip (.inl (.skip (.op () rfl (.skip (.loop (fun a:Int=>gB l (fun _ (_:Unit)=>True) (a,())) (fun a=>l.length - a.toNat) (fun _=>True) rfl (gB.start trivial) (by simpa using hn) (fun a ha=>?_) (fun t _=>?_))))))
 ·refine .skip (.br (fun h=>?_) fun _=>.skip (.done rfl trivial))
  obtain⟨x,pre,h1,_,_,h5⟩:=ha.get h;refine .skip (.op x h1 (.skip (.call _ (Nb n x) fun _ _=>.skip (.br (fun _=>?_) fun _=>.skip (.done rfl (h5 hl () trivial))))))
  refine .skip (.inl (.skip (.inl (.skip (.gu (.skip (.tidy rfl (.inl (.skip (.tidy rfl (.inl (.skip ?_))))))))))));exact .done rfl trivial
 ·cases t with
  |inl t=>exact .tidy rfl (.inl (.skip (.done rfl trivial)))
  |inr t=>exact .skip (.tidy rfl (.inl (.skip (.done rfl trivial))))
def LR(rs:List bw):Prop:=rs.length≤30∧∀r∈rs,r.A.jW.length≤80
theorem Nc(n:Nat)(r:bw):At (vK.S n r) (fun(b:Bool)=>b=true→r.A.jW.length≤80):=by
 refine(?_ :er n (qU r) _);unfold qU;exact .skip (.op () rfl (.skip (.br (fun _=>.skip (.op () rfl (.skip (.br (fun _=>.skip (.op () rfl (.skip (.done rfl fun h=>by simp only[decide_eq_true_eq]at h;omega)))) fun _=>.skip (.done rfl fun h=>by cases h))))) fun _=>.skip (.done rfl fun h=>by cases h))))
theorem LA(n:Nat)(rs:List bw)(hl:rs.length≤9223372036854775807)(hn:rs.length<n):At (uB.S n (rs,30)) (fun(b:Bool)=>b=true→LR rs):=by
 refine(?_ :er n (qd rs 30) _);unfold qd;refine .skip (.loop (fun a:Int=>∃i:Nat,a=(i:Int)∧i≤rs.length∧∀r∈rs.take i,r.A.jW.length≤80) (fun a=>rs.length - a.toNat) (Sum.elim (fun _=>True) fun _=>∀r∈rs,r.A.jW.length≤80) rfl ⟨0,rfl,Nat.zero_le _,fun r h=>by simp at h⟩ (by simpa using hn) (fun a ha=>?_) (fun t ht=>?_))
 ·obtain⟨i,rfl,i1,i2⟩:=ha;refine .skip (.op () rfl (.skip (.br (fun h=>?_) fun h=>.skip (.done rfl ?_))))
  ·simp only[decide_eq_true_eq]at h;have hi:i<rs.length:=by omega
   have hx:fF rs (i:Int)=some rs[i]:=by rw[bK,List.getElem?_eq_getElem hi]
   refine .skip (.op _ hx (.skip (.call _ (Nc n _) fun(b:Bool) hb=>.skip (.br (fun _=>.skip (.done rfl trivial)) fun h2=>.skip (.done rfl ⟨⟨i+1,?_,by omega,?_⟩,?_⟩)))))
   ·rw[wrap_i64 (by omega) (by omega)];omega
   ·intro r hr;rw[List.take_add_one,List.getElem?_eq_getElem hi]at hr;rcases List.mem_append.1 hr with hr |hr
    ·exact i2 r hr
    ·simp only[Option.toList_some,List.mem_singleton]at hr;subst hr;exact hb (by simpa using h2)
   ·show rs.length - (IntKind.wrap .i64 ((i:Int)+1)).toNat<rs.length - (i:Int).toNat;rw[wrap_i64 (by omega) (by omega)];omega
  ·simp only[decide_eq_false_iff_not]at h;have:i=rs.length:=by omega
   subst this;rw[List.take_length]at i2;exact i2
 ·cases t with
  |inl t=>exact .done rfl fun h=>by cases h
  |inr t=>exact .skip (.op () rfl (.skip (.done rfl fun h=>by simp only[decide_eq_true_eq]at h;exact⟨by omega,ht⟩)))
theorem Kg(m:List Int):(uniq m).length≤m.length:=by
 unfold uniq Lib.compact Lib.compactUpTo;rw[List.length_map];refine Nat.le_trans (List.length_filter_le _ _) ?_;simp
noncomputable def LY(n:Nat)(r:bw):Int:=((kI.S n r.A.jW).getD (false,0,false)).2.1
def DX(r:bw):List Int:=uniq (r.A.jW.filterMap ou)
theorem Hs(r:bw):(DX r).length≤r.A.jW.length:=Nat.le_trans (Kg _) (List.length_filterMap_le _ _)
theorem yH{α β:Type}(g:α→List β)(b:Nat):∀(l:List α),(∀x∈l,(g x).length≤b)→(l.flatMap g).length≤l.length*b
 | [],_=>by simp
 |x::l,h=>by
  rw[List.flatMap_cons,List.length_append,List.length_cons,Nat.add_mul];have:=h x List.mem_cons_self;have:=yH g b l fun y hy=>h y (List.mem_cons_of_mem _ hy)
  omega
theorem DY(f:aQ)(leaf lo:Int)(sq:bw→Int)(ns:List hU)(rs:List bw)(mm:List (Int×Int))(hn:ns.length≤30)(hr:LR rs):(sB f leaf lo sq DX ns rs mm).length≤2430:=by
 unfold sB;rw[List.length_append];have h1:=yH (pF f leaf) 1 ns fun x _=>by
  unfold pF
  repeat' split
  all_goals simp
 have h2:=yH (iB mm lo sq DX) 80 rs fun r h=>by
  unfold iB;split
  ·simp
  split
  ·simp
  split
  ·simp
  have h3:=yH (lD mm r (sq r)) 1 (DX r) fun T _=>by unfold lD;split<;>simp
  have:=Hs r;have:=hr.2 r h;omega
 have:=hr.1;omega
theorem Kh(n:Nat)(hn:5000≤n)(f:aQ)(hv:Vf f)(leaf:Int)(h0:0≤leaf)(h1:leaf<f.Leaves)(ns:List hU)(rs:List bw)(hns:ns.length≤30)(hr:LR rs):
 At (uo.S n (f,leaf,ns,rs)) (tD f leaf (184483841+leaf) (LY n) DX ns rs):=by
 have:=hr.1;refine Lb n f leaf _ ns rs (LY n) DX (FX n hn f hv) h0 h1 (Mj n hn f hv leaf h0 h1) (LU n hn f hv) (by omega) (by omega) (by omega) (by omega) (fun r h=>?_) (fun mm=>?_)
 ·have h2:=hr.2 r h;have h3:=Hs r;refine⟨?_,⟨_,GJ n _ (by omega) (by omega),rfl⟩,by omega,by omega⟩
  obtain⟨q,e,_⟩:=NG n r.A.jW (by omega) (by omega)
  exact⟨q,e,by unfold LY;rw[e];rfl⟩
 ·have:=DY f leaf (184483841+leaf) (LY n) ns rs mm hns hr;omega
theorem Ki{f:aQ}{leaf lo:Int}{sq:bw→Int}{ns:List hU}{rs:List bw}{out:List Known}(h:tD f leaf lo sq DX ns rs out)(hn:ns.length≤30)(hr:LR rs):out.length≤2430:=by
 obtain⟨mm,m,_,hm,rfl⟩:=h;have h1:m.length≤(sB f leaf lo sq DX ns rs mm).length:=hm.len;have h2:=DY f leaf lo sq ns rs mm hn hr;rw[List.length_map,(iH (m.map (·.1))).1.length_eq,List.length_map];omega
theorem Nd(f:aQ)(hv:Vf f)(leaf:Int):MY f leaf:=by
 have hr:∀c∈f.ax.flatMap (qR leaf),0≤c∧c<(f.aW.length:Int):=fun c hc=>by
  obtain⟨t,ht,hc⟩:=List.mem_flatMap.1 hc;unfold qR at hc;split at hc
  ·exact(hv.seg t ht).2.2.2.1 c hc
  ·cases hc
 intro b hb c hc he;obtain⟨q1,q2⟩:=hr b hb;obtain⟨w1,w2⟩:=hr c hc;rw[J7 f hv c w1 w2,J7 f hv b q1 q2]at he;omega
theorem I5(n:Nat)(l:List Known)(hl:l.length<100000)(hn:l.length<n):At (vL.S n (l,l)) (fun(b:Bool)=>b=true):=by
 refine(?_ :er n (qV l l) _);unfold qV;refine .skip (.op () rfl (.skip (.op () rfl (.skip (.br (fun h=>by simp at h) fun _=>.skip (.loop (fun a:Int=>gB l (fun _ (_:Unit)=>True) (a,())) (fun a=>l.length - a.toNat) (Sum.elim (fun _=>False) fun _=>True) rfl (gB.start trivial) (by simpa using hn) (fun a ha=>?_) (fun t ht=>?_)))))))
 ·refine .skip (.op () rfl (.skip (.br (fun h=>?_) fun h=>.skip (.done rfl trivial))))
  obtain⟨x,pre,h1,_,_,h4⟩:=ha.get h;refine .skip (.op x h1 (.skip (.op x h1 (.skip (.br (fun h5=>by simp at h5) fun _=>.skip (.done rfl (h4 hl () trivial)))))))
 ·cases t with
  |inl t=>exact ht.elim
  |inr t=>exact .skip (.done rfl rfl)
theorem Kj(n:Nat)(l:List Int)(v:Int)(hl:l.length<100000)(hn:l.length<n):At (wS.S n (l,v)) (fun(b:Bool)=>b=decide (v∈l)):=by
 refine(?_ :er n (wR l v) _);unfold wR;refine .skip (.loop (fun a:Int=>gB l (fun pre (_:Unit)=>v∉pre) (a,())) (fun a=>l.length - a.toNat) (Sum.elim (fun _=>v∈l) fun _=>v∉l) rfl (gB.start (by simp)) (by simpa using hn) (fun a ha=>?_) (fun t ht=>?_))
 ·refine .skip (.op () rfl (.skip (.br (fun h=>?_) fun h=>.skip (.done rfl (ha.fin h)))))
  obtain⟨x,pre,h1,h2,h3,h4⟩:=ha.get h;refine .skip (.op x h1 (.skip (.br (fun he=>.skip (.done rfl ?_)) fun he=>.skip (.done rfl (h4 hl () ?_)))))
  ·rw[beq_iff_eq]at he;subst he;exact h2
  ·rw[beq_eq_false_iff_ne]at he;simp only[List.mem_append,List.mem_singleton,not_or];exact⟨h3,fun h=>he h.symm⟩
 ·cases t with
  |inl t=>exact .done rfl (decide_eq_true (show v∈l from ht)).symm
  |inr t=>exact .skip (.done rfl (decide_eq_false (show v∉l from ht)).symm)
theorem Nf(n:Nat)(hn:5000≤n)(f:aQ)(hv:Vf f)(leaf:Int)(x:hU):At (nM.S n (f,leaf,x.aB,x.BD)) (fun(b:Bool)=>b=wO f leaf x):=by
 have hs:=LU n hn f hv;refine(?_ :er n (qW f leaf x.aB x.BD) _);unfold qW;refine .skip (.br (fun h1=>.skip (.op () rfl (.skip (.br (fun h2=>?_) fun h2=>.skip (.done rfl ?_))))) fun h1=>.skip (.done rfl ?_))
 ·simp only[ge_iff_le,decide_eq_true_eq]at h1 h2;have hlt:x.aB.toNat<f.ax.length:=by omega
  have hat:fF f.ax x.aB=some (f.ax[x.aB.toNat]'hlt):=by
   have:=bK f.ax x.aB.toNat;rw[show((x.aB.toNat:Nat):Int)=x.aB by omega]at this
   rw[this];exact List.getElem?_eq_getElem hlt
  have hmem:=List.getElem_mem hlt;generalize f.ax[x.aB.toNat]'hlt=s at hat hmem;obtain⟨q1,q2,q3,q4,q5⟩:=hs.s s hmem;have ha:wO f leaf x=(decide (leaf∈s.Leaves)&&decide (x.BD∈s.aW)):=by unfold wO;rw[hat]
  refine .skip (.op s hat (.skip (.call _ (Kj n s.Leaves leaf q2 q1) fun(b:Bool) hb=>.skip (.br (fun h=>.skip (.op s hat (.skip (.call _ (Kj n s.aW x.BD q4 q3) fun(c:Bool) hc=>.skip (.done rfl ?_))))) fun h=>.skip (.done rfl ?_)))))
  ·rw[ha,← hb,← hc,h];rfl
  ·rw[ha,← hb,h];rfl
 ·simp only[ge_iff_le,decide_eq_true_eq,decide_eq_false_iff_not]at h1 h2;have:fF f.ax x.aB=none:=by
   have:=bK f.ax x.aB.toNat;rw[show((x.aB.toNat:Nat):Int)=x.aB by omega]at this
   rw[this];exact List.getElem?_eq_none (by omega)
  unfold wO;rw[this]
 ·simp only[ge_iff_le,decide_eq_false_iff_not]at h1;have:fF f.ax x.aB=none:=by unfold fF;exact if_neg (by omega)
  unfold wO;rw[this]
end Go.L
end
section
namespace Go.L
open Go.AM
theorem uT{α:Type}{P:α→Prop}{pre:List α}{x:α}:(∃z∈pre++[x],P z)↔(∃z∈pre,P z)∨P x:=by
 constructor
 ·rintro⟨z,hz,h⟩;rcases List.mem_append.1 hz with hz |hz
  ·exact .inl ⟨z,hz,h⟩
  ·simp only[List.mem_singleton]at hz;subst hz;exact .inr h
 ·rintro(⟨z,hz,h⟩ |h)
  ·exact⟨z,List.mem_append_left _ hz,h⟩
  ·exact⟨x,by simp,h⟩
def z6(f:aQ)(lf:Int)(k:Known)(x:hU):Prop:=x.iz=true∧x.BD=k.BD∧x.IP=k.IP∧wO f lf x=true
def F0(k:Known)(r:bw):Prop:=r.N.Kind=2∧r.N.iz=true∧r.N.IP=k.IP∧r.N.MAC=k.MAC
theorem GL(n:Nat)(hn:5000≤n)(nums:List Int)(self:Int)(ns:List hU)(rs:List bw)(hl:rs.length≤9223372036854775807)(hrn:rs.length<n):At (vM.S n (nums,self,ns,rs)) (fun(b:Bool)=>b=true):=by
 refine(?_ :er n (qX nums self ns rs) _);unfold qX;refine .skip (.call (fun _=>True) ⟨(),rfl,trivial⟩ fun _ _=>.skip (.op () rfl (.skip (.br (fun _=>.skip (.done rfl rfl)) fun _=>.skip (.op () rfl (.skip (.br (fun _=>.skip (.done rfl rfl)) fun h30=>.skip (.call _ (LA n rs hl hrn) fun(lb:Bool) hlb=>.skip (.br (fun _=>.skip (.done rfl rfl)) fun hlr=>?_)))))))))
 simp only[gt_iff_lt,decide_eq_false_iff_not]at h30;have hr:LR rs:=hlb (by simpa using hlr)
 have hns:ns.length≤30:=by omega
 have hrl:=hr.1;refine .skip (.call Vf (FW nums hn) fun f hv=>?_)
 have v1:=hv.leaves;refine .skip (.call _ (Ml n self f.Leaves (by omega) (by omega)) fun(lf:Int) hlf=>.skip (.eU _ (Kh n hn f hv lf hlf.1 hlf.2 ns rs hns hr) fun(K:List Known) hK=>.skip (.op () rfl (.skip ?_))))
 have lK:=Ki hK hns hr;have e1:IntKind.wrap .i64 (((ns.length:Nat):Int) - 1)=((ns.length:Nat):Int) - 1:=wrap_i64 (by omega) (by omega)
 refine .loop (fun a:Int×List hU=>∃j:Nat,a.1=(j:Int) - 1∧j≤ns.length∧a.2=(List.drop j ns).reverse) (fun a=>(a.1+1).toNat) (fun(t:List hU)=>t=ns.reverse) rfl ⟨ns.length,e1,Nat.le_refl _,by simp⟩ (by show(IntKind.wrap .i64 (((ns.length:Nat):Int) - 1)+1).toNat<n;rw[e1];omega) (fun a ha=>?_) (fun(tn:List hU) htn=>?_)
 ·obtain⟨j,j1,j2,j3⟩:=ha;refine .skip (.br (fun h=>?_) fun h=>.skip (.done rfl ?_))
  ·simp only[ge_iff_le,decide_eq_true_eq]at h;obtain⟨i,rfl⟩:∃i,j=i+1:=⟨j - 1,by omega⟩
   have hi:i<ns.length:=by omega
   have hx:fF ns a.1=some (ns[i]):=by
    rw[show a.1=((i:Nat):Int)by omega,bK,List.getElem?_eq_getElem hi]
   have hal:a.2.length≤30:=by rw[j3];simp;omega
   refine .skip (.op _ hx (.skip (.op () (if_pos ⟨rfl,by show roomy (a.2.length+1) 40=true;simp[roomy];omega⟩) (.skip (.done rfl ⟨⟨i,?_,by omega,?_⟩,?_⟩)))))
   ·show IntKind.wrap .i64 (a.1 - 1)=_;rw[wrap_i64 (by omega) (by omega)];omega
   ·show a.2++[ns[i]]=_;rw[j3,List.drop_eq_getElem_cons hi,List.reverse_cons]
   ·show(IntKind.wrap .i64 (a.1 - 1)+1).toNat<(a.1+1).toNat;rw[wrap_i64 (by omega) (by omega)];omega
  ·simp only[ge_iff_le,decide_eq_false_iff_not]at h;have:j=0:=by omega
   subst this;show a.2=_;rw[j3,List.drop_zero]
 have e2:IntKind.wrap .i64 (((rs.length:Nat):Int) - 1)=((rs.length:Nat):Int) - 1:=wrap_i64 (by omega) (by omega)
 refine .skip (.op () rfl (.skip (.loop (fun a:Int×List bw=>∃j:Nat,a.1=(j:Int) - 1∧j≤rs.length∧a.2=(List.drop j rs).reverse) (fun a=>(a.1+1).toNat) (fun(t:List bw)=>t=rs.reverse) rfl ⟨rs.length,e2,Nat.le_refl _,by simp⟩ (by show(IntKind.wrap .i64 (((rs.length:Nat):Int) - 1)+1).toNat<n;rw[e2];omega) (fun a ha=>?_) (fun(tr:List bw) htr=>?_))))
 ·obtain⟨j,j1,j2,j3⟩:=ha;refine .skip (.br (fun h=>?_) fun h=>.skip (.done rfl ?_))
  ·simp only[ge_iff_le,decide_eq_true_eq]at h;obtain⟨i,rfl⟩:∃i,j=i+1:=⟨j - 1,by omega⟩
   have hi:i<rs.length:=by omega
   have hx:fF rs a.1=some (rs[i]):=by
    rw[show a.1=((i:Nat):Int)by omega,bK,List.getElem?_eq_getElem hi]
   have hal:a.2.length≤30:=by rw[j3];simp;omega
   refine .skip (.op _ hx (.skip (.op () (if_pos ⟨rfl,by show roomy (a.2.length+1) 224=true;simp[roomy];omega⟩) (.skip (.done rfl ⟨⟨i,?_,by omega,?_⟩,?_⟩)))))
   ·show IntKind.wrap .i64 (a.1 - 1)=_;rw[wrap_i64 (by omega) (by omega)];omega
   ·show a.2++[rs[i]]=_;rw[j3,List.drop_eq_getElem_cons hi,List.reverse_cons]
   ·show(IntKind.wrap .i64 (a.1 - 1)+1).toNat<(a.1+1).toNat;rw[wrap_i64 (by omega) (by omega)];omega
  ·simp only[ge_iff_le,decide_eq_false_iff_not]at h;have:j=0:=by omega
   subst this;show a.2=_;rw[j3,List.drop_zero]
 have hrr:LR rs.reverse:=⟨by simpa using hrl,fun r h=>hr.2 r (List.mem_reverse.1 h)⟩
 have etn:tn=ns.reverse:=htn;have etr:tr=rs.reverse:=htr;subst etn;subst etr;refine .skip (.tidy (by simp[aK,ee]) (.eU _ (Kh n hn f hv lf hlf.1 hlf.2 ns.reverse rs.reverse (by simpa using hns) hrr) fun(K2:List Known) hK2=>?_))
 have eK:K2=K:=IX (Nd f hv lf) hK2 hK (fun x=>List.mem_reverse) fun x=>List.mem_reverse
 subst eK;refine .skip (.call _ (I5 n K2 (by omega) (by omega)) fun(b:Bool) hb=>.skip (.br (fun h=>by rw[hb]at h;cases h) fun _=>.skip ?_))
 refine .loop (fun a:Int=>gB K2 (fun _ (_:Unit)=>True) (a,())) (fun a=>K2.length - a.toNat) (Sum.elim (fun _=>False) fun _=>True) rfl (gB.start trivial) (by simp;omega) (fun a ha=>?_) (fun t ht=>?_)
 ·refine .skip (.op () rfl (.skip (.br (fun h=>?_) fun h=>.skip (.done rfl trivial))))
  have ha2:=ha;obtain⟨k,pre,h1,h2,_,h4⟩:=ha.get h;have hpv:decide (a>0)=true→∃x,fF K2 (IntKind.wrap .i64 (a - 1))=some x∧(x.BD<k.BD∨x.BD=k.BD∧x.IP<k.IP):=fun hp=>by
   obtain⟨i,hi,hil,_⟩:=ha2;have hi:a=(i:Int):=hi;simp only[gt_iff_lt,decide_eq_true_eq]at hp h;obtain⟨p,rfl⟩:∃p,i=p+1:=⟨i - 1,by omega⟩
   have hp1:p<K2.length:=by omega
   have hi1:p+1<K2.length:=by omega
   have h1:fF K2 a=some k:=h1;have hk:K2[p+1]=k:=by rw[hi,bK,List.getElem?_eq_getElem hi1]at h1;exact Option.some.inj h1
   refine⟨K2[p],?_,?_⟩
   ·rw[wrap_i64 (by omega) (by omega),show a - 1=((p:Nat):Int)by omega,bK,List.getElem?_eq_getElem hp1]
   ·rw[← hk];exact List.pairwise_iff_getElem.1 (J8 hK) p (p+1) hp1 hi1 (by omega)
  have hkf:(∃x∈ns,z6 f lf k x∧x.MAC=k.MAC)∨((∀x∈ns,¬z6 f lf k x)∧∃r∈rs,F0 k r):=by
   rcases IY hK k h2 with⟨x,q0,q1,q2,q3,q4,q5⟩ |⟨q0,r,q1,q2⟩
   ·exact .inl ⟨x,q0,⟨q1,q2,q3,q4⟩,q5⟩
   ·exact .inr ⟨q0,r,q1,q2⟩
  refine .skip (.br (fun hp=> ?pos) fun _=>.skip ?neg)
  case' pos=>
   obtain⟨x,x1,x2⟩:=hpv hp;refine .skip (.op x x1 (.skip (.op k h1 (.skip (.br (fun g=> ?c1) fun _=>.skip (.op x x1 (.skip (.op k h1 (.skip (.br (fun g2=>.skip (.op x x1 (.skip (.op k h1 (.skip (.br (fun g3=> ?c2) fun _=>.skip ?l1)))))) fun _=>.skip ?l2))))))))))
  case c1=>
   simp only[gt_iff_lt,decide_eq_true_eq]at g;omega
  case c2=>
   simp only[ge_iff_le,decide_eq_true_eq]at g3;simp only[beq_iff_eq]at g2;omega
  all_goals
   refine .loop (fun b:Bool×Bool×Int=>gB ns (fun pre (s:Bool×Bool)=>(s.1=true↔∃x∈pre,z6 f lf k x)∧(s.2=true↔∃x∈pre,z6 f lf k x∧x.MAC=k.MAC)) (b.2.2,(b.1,b.2.1))) (fun b=>ns.length - b.2.2.toNat) (fun(s:Bool×Bool)=>(s.1=true↔∃x∈ns,z6 f lf k x)∧(s.2=true↔∃x∈ns,z6 f lf k x∧x.MAC=k.MAC)) rfl (gB.start ⟨by simp,by simp⟩) (by simp;omega) (fun b hb=>?_) (fun s hs=>?_)
   ·refine .skip (.op () rfl (.skip (.br (fun h=>?_) fun h=>.skip (.done rfl (hb.fin h)))))
    obtain⟨x,pre,y1,y2,⟨y3,y3'⟩,y4⟩:=hb.get h;have y4:=y4 (by omega)
    have keep:¬z6 f lf k x→_:=fun hx=>y4 (b.1,b.2.1) ⟨by rw[uT];exact⟨fun h=>.inl (y3.1 h),fun h=>h.elim y3.2 fun h=>absurd h hx⟩,by rw[uT];exact⟨fun h=>.inl (y3'.1 h),fun h=>h.elim y3'.2 fun h=>absurd h.1 hx⟩⟩
    refine .skip (.op x y1 (.skip (.br (fun q1=>.skip (.op k h1 (.skip (.br (fun q2=>.skip (.op k h1 (.skip (.br (fun q3=>.skip (.call _ (Nf n hn f hv lf x) fun(t:Bool) ht=>.skip (.br (fun q4=>?_) fun q4=>.skip (.done rfl (keep ?_))))) fun q3=>.skip (.done rfl (keep ?_)))))) fun q2=>.skip (.done rfl (keep ?_)))))) fun q1=>.skip (.done rfl (keep ?_)))))
    ·have hx:z6 f lf k x:=⟨q1,by simpa using q2,by simpa using q3,by rw[← ht];exact q4⟩
     refine .skip (.br (fun q5=>.skip (.done rfl (y4 (true,true) ⟨?_,?_⟩))) fun q5=>.skip (.op k h1 (.skip (.done rfl (y4 (true,x.MAC==k.MAC) ⟨?_,?_⟩)))))
     ·rw[uT];exact⟨fun _=>.inr hx,fun _=>rfl⟩
     ·rw[uT];exact⟨fun _=>.inl (y3'.1 q5),fun _=>rfl⟩
     ·rw[uT];exact⟨fun _=>.inr hx,fun _=>rfl⟩
     ·rw[uT];refine⟨fun h=>.inr ⟨hx,by simpa using h⟩,fun h=>?_⟩
      rcases h with h |h
      ·have:b.2.1=true:=y3'.2 h;rw[q5]at this;cases this
      ·simpa using h.2
    ·intro hx;have:=hx.2.2.2;rw[← ht,q4]at this;cases this
    ·intro hx;have:=hx.2.2.1;rw[this]at q3;simp at q3
    ·intro hx;have:=hx.2.1;rw[this]at q2;simp at q2
    ·intro hx;have:=hx.1;rw[q1]at this;cases this
   ·have hsf:s.1=true→s.2=true:=fun h=>by
     rcases hkf with g |⟨g,_⟩
     ·exact hs.2.2 g
     ·obtain⟨x,x1,x2⟩:=hs.1.1 h;exact absurd x2 (g x x1)
    have hsn:s.2=true∨(s.1=false∧∃r∈rs,F0 k r):=by
     rcases hkf with g |⟨g,g2⟩
     ·exact .inl (hs.2.2 g)
     ·refine .inr ⟨?_,g2⟩;cases hq:s.1 with
      |false=>rfl
      |true=>
       obtain⟨x,x1,x2⟩:=hs.1.1 hq;exact absurd x2 (g x x1)
    refine .skip (.loop (fun b:Bool×Int=>gB rs (fun pre (c:Bool)=>(s.2=true→c=true)∧∀r∈pre,F0 k r→c=true) (b.2,b.1)) (fun b=>rs.length - b.2.toNat) (fun(t:Bool)=>t=true) rfl (gB.start ⟨id,fun _ h=>(by cases h)⟩) (by simp;omega) (fun b hb=>?_) (fun t ht=>.skip (.br (fun h5=>by rw[show t=true from ht]at h5;cases h5) fun _=>.skip (.done rfl (h4 (by omega) () trivial)))))
    refine .skip (.op () rfl (.skip (.br (fun h=>?_) fun h=>.skip (.done rfl ?_))))
    ·obtain⟨r,pre,y1,y2,⟨y3,y3'⟩,y4⟩:=hb.get h;have y4:=y4 (by omega)
     refine .skip (.br (fun z1=>?_) fun z1=>.skip (.done rfl (y3 (hsf (by simpa using z1)))))
     refine .skip (.br (fun z2=>.skip (.done rfl (y4 true ⟨fun _=>rfl,fun _ _ _=>rfl⟩))) fun z2=>?_)
     have n0:¬s.2=true:=fun h=>by have e:b.1=true:=y3 h;rw[e]at z2;cases z2
     have n1:∀q∈pre,¬F0 k q:=fun q hq hg=>by have e:b.1=true:=y3' q hq hg;rw[e]at z2;cases z2
     have fin:∀c:Bool,(F0 k r→c=true)→_:=fun c hc=>y4 c ⟨fun h=>absurd h n0,fun q hq hg=>by
      rcases List.mem_append.1 hq with hq |hq
      ·exact absurd hg (n1 q hq)
      ·simp only[List.mem_singleton]at hq;subst hq;exact hc hg⟩
     refine .skip (.op r y1 (.skip (.br (fun w1=>.skip (.op r y1 (.skip (.br (fun w2=>.skip (.op r y1 (.skip (.op k h1 (.skip (.br (fun w3=>.skip (.op r y1 (.skip (.op k h1 (.skip (.done rfl (fin _ fun hg=>?_))))))) fun w3=>.skip (.done rfl (fin false fun hg=>?_)))))))) fun w2=>.skip (.done rfl (fin false fun hg=>?_)))))) fun w1=>.skip (.done rfl (fin false fun hg=>?_)))))
     ·rw[hg.2.2.2];simp
     ·have:=hg.2.2.1;rw[this]at w3;simp at w3
     ·have:=hg.2.1;rw[w2]at this;cases this
     ·have:=hg.1;rw[this]at w1;simp at w1
    ·obtain⟨g1,g2⟩:=hb.fin h;rcases hsn with q |⟨_,r,q1,q2⟩
     ·exact g1 q
     ·exact g2 r q1 q2
 ·cases t with
  |inl t=>exact ht.elim
  |inr t=>exact .skip (.done rfl rfl)
end Go.L
end
