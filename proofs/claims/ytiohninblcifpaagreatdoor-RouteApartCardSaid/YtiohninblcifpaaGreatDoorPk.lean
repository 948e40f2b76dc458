/- Parts put together. No conditions. -/
import Derived.Test.YtiohninblcifpaaGreatDoorWh
import Derived.Test.YtiohninblcifpaaGreatDoorPa
import Derived.Test.YtiohninblcifpaaGreatDoorPb
set_option linter.unusedSimpArgs false
set_option linter.unusedVariables false
set_option maxRecDepth 100000
section
namespace Go.L
open Go.AM
theorem Gt(n:Nat)(a b:Int):At (qf.S n (a,b)) (fun(r:Int)=>r=cM a b):=by
 refine(?_ :cF n (qe a b) _);unfold qe;have e:∀x:Int,At (gH.S n x) (fun(r:Bool)=>r=false):=fun x=>⟨x != x,rfl,by simp⟩
 refine .skip (.call _ (e a) fun r3 h3=>.skip (.call _ (e b) fun r4 h4=>.skip (.br (fun h=>by rw[h3]at h;cases h) fun _=>.skip (.br (fun h=>by rw[h4]at h;cases h) fun _=>.skip (.br (fun h=>.skip (.done rfl ?_)) fun h=>.skip (.br (fun h2=>.skip (.done rfl ?_)) fun h2=>.skip (.done rfl ?_)))))))
 all_goals (simp only[decide_eq_true_eq,decide_eq_false_iff_not]at*;unfold cM)
 ·rw[if_pos h]
 ·rw[if_neg h,if_pos h2]
 ·rw[if_neg h,if_neg h2]
theorem Sm(n:Nat)(a b:Int):At (yJ.S n (a,b)) (fun(r:Int)=>r=cM a b):=by
 refine(?_ :cF n (tB a b) _);unfold tB;have e:∀x:Int,At (vE.S n x) (fun(r:Bool)=>r=false):=fun x=>⟨x != x,rfl,by simp⟩
 refine .skip (.call _ (e a) fun r3 h3=>.skip (.call _ (e b) fun r4 h4=>.skip (.br (fun h=>by rw[h3]at h;cases h) fun _=>.skip (.br (fun h=>by rw[h4]at h;cases h) fun _=>.skip (.br (fun h=>.skip (.done rfl ?_)) fun h=>.skip (.br (fun h2=>.skip (.done rfl ?_)) fun h2=>.skip (.done rfl ?_)))))))
 all_goals (simp only[decide_eq_true_eq,decide_eq_false_iff_not]at*;unfold cM)
 ·rw[if_pos h]
 ·rw[if_neg h,if_pos h2]
 ·rw[if_neg h,if_neg h2]
theorem Nv(n:Nat)(a b:Int):At (vD.S n (a,b)) (fun(r:Int)=>r=cM a b):=by
 refine(?_ :cF n (qd a b) _);unfold qd;have e:∀x:Int,At (rN.S n x) (fun(r:Bool)=>r=false):=fun x=>⟨x != x,rfl,by simp⟩
 refine .skip (.call _ (e a) fun r3 h3=>.skip (.call _ (e b) fun r4 h4=>.skip (.br (fun h=>by rw[h3]at h;cases h) fun _=>.skip (.br (fun h=>by rw[h4]at h;cases h) fun _=>.skip (.br (fun h=>.skip (.done rfl ?_)) fun h=>.skip (.br (fun h2=>.skip (.done rfl ?_)) fun h2=>.skip (.done rfl ?_)))))))
 all_goals (simp only[decide_eq_true_eq,decide_eq_false_iff_not]at*;unfold cM)
 ·rw[if_pos h]
 ·rw[if_neg h,if_pos h2]
 ·rw[if_neg h,if_neg h2]
theorem ow(n:Nat)(a b:Int):At (eu.S n (a,b)) (fun(r:Int)=>r=cM a b):=by
 refine(?_ :cF n (rO a b) _);unfold rO;have e:∀x:Int,At (uA.S n x) (fun(r:Bool)=>r=false):=fun x=>⟨x != x,rfl,by simp⟩
 refine .skip (.call _ (e a) fun r3 h3=>.skip (.call _ (e b) fun r4 h4=>.skip (.br (fun h=>by rw[h3]at h;cases h) fun _=>.skip (.br (fun h=>by rw[h4]at h;cases h) fun _=>.skip (.br (fun h=>.skip (.done rfl ?_)) fun h=>.skip (.br (fun h2=>.skip (.done rfl ?_)) fun h2=>.skip (.done rfl ?_)))))))
 all_goals (simp only[decide_eq_true_eq,decide_eq_false_iff_not]at*;unfold cM)
 ·rw[if_pos h]
 ·rw[if_neg h,if_pos h2]
 ·rw[if_neg h,if_neg h2]
def qP(x:cB Int):List Int:=[x.a0,x.a1,x.a2,x.a3,x.a4,x.a5,x.a6,x.a7,x.a8,x.a9]
theorem Tj(n:Nat)(x y:cB Int):At (yI.S n (x,y)) (fun(r:Int)=>r=eA (qP x) (qP y)):=by
 refine(?_ :cF n (tA x y) _);unfold tA;refine .skip (.call (fun r=>r=(x.a0,x.a1,x.a2,x.a3,x.a4,x.a5,x.a6,x.a7,x.a8,x.a9)) ⟨_,rfl,rfl⟩ fun r3 h3=>?_)
 subst h3;refine .inl (.skip (.gu (.skip ?_)));refine .inl (.skip (.call _ (ow n _ _) fun q0 hq0=>.skip (.br (fun h=>?_) fun h0=>?_)))
 ·refine .skip (.tidy rfl (.skip (.tidy rfl (.inl (.done rfl ?_)))));subst hq0;have hne:cM x.a0 y.a0≠0:=by simpa using h
  simp only[qP,eA,if_true,if_neg hne]
 have e0:cM x.a0 y.a0=0:=by subst hq0;simpa using h0
 refine .skip (.tidy rfl (.skip ?_));refine .inl (.skip (.call _ (ow n _ _) fun q1 hq1=>.skip (.br (fun h=>?_) fun h1=>?_)))
 ·refine .skip (.tidy rfl (.skip (.tidy rfl (.inl (.done rfl ?_)))));subst hq1;have hne:cM x.a1 y.a1≠0:=by simpa using h
  simp only[qP,eA,e0,if_true,if_neg hne]
 have e1:cM x.a1 y.a1=0:=by subst hq1;simpa using h1
 refine .skip (.tidy rfl (.skip ?_));refine .inl (.skip (.call _ (ow n _ _) fun q2 hq2=>.skip (.br (fun h=>?_) fun h2=>?_)))
 ·refine .skip (.tidy rfl (.skip (.tidy rfl (.inl (.done rfl ?_)))));subst hq2;have hne:cM x.a2 y.a2≠0:=by simpa using h
  simp only[qP,eA,e0,e1,if_true,if_neg hne]
 have e2:cM x.a2 y.a2=0:=by subst hq2;simpa using h2
 refine .skip (.tidy rfl (.skip ?_));refine .inl (.skip (.call _ (ow n _ _) fun q3 hq3=>.skip (.br (fun h=>?_) fun h3=>?_)))
 ·refine .skip (.tidy rfl (.skip (.tidy rfl (.inl (.done rfl ?_)))));subst hq3;have hne:cM x.a3 y.a3≠0:=by simpa using h
  simp only[qP,eA,e0,e1,e2,if_true,if_neg hne]
 have e3:cM x.a3 y.a3=0:=by subst hq3;simpa using h3
 refine .skip (.tidy rfl (.skip ?_));refine .inl (.skip (.call _ (ow n _ _) fun q4 hq4=>.skip (.br (fun h=>?_) fun h4=>?_)))
 ·refine .skip (.tidy rfl (.skip (.tidy rfl (.inl (.done rfl ?_)))));subst hq4;have hne:cM x.a4 y.a4≠0:=by simpa using h
  simp only[qP,eA,e0,e1,e2,e3,if_true,if_neg hne]
 have e4:cM x.a4 y.a4=0:=by subst hq4;simpa using h4
 refine .skip (.tidy rfl (.skip ?_));refine .inl (.skip (.call _ (ow n _ _) fun q5 hq5=>.skip (.br (fun h=>?_) fun h5=>?_)))
 ·refine .skip (.tidy rfl (.skip (.tidy rfl (.inl (.done rfl ?_)))));subst hq5;have hne:cM x.a5 y.a5≠0:=by simpa using h
  simp only[qP,eA,e0,e1,e2,e3,e4,if_true,if_neg hne]
 have e5:cM x.a5 y.a5=0:=by subst hq5;simpa using h5
 refine .skip (.tidy rfl (.skip ?_));refine .inl (.skip (.call _ (ow n _ _) fun q6 hq6=>.skip (.br (fun h=>?_) fun h6=>?_)))
 ·refine .skip (.tidy rfl (.skip (.tidy rfl (.inl (.done rfl ?_)))));subst hq6;have hne:cM x.a6 y.a6≠0:=by simpa using h
  simp only[qP,eA,e0,e1,e2,e3,e4,e5,if_true,if_neg hne]
 have e6:cM x.a6 y.a6=0:=by subst hq6;simpa using h6
 refine .skip (.tidy rfl (.skip ?_));refine .inl (.skip (.call _ (ow n _ _) fun q7 hq7=>.skip (.br (fun h=>?_) fun h7=>?_)))
 ·refine .skip (.tidy rfl (.skip (.tidy rfl (.inl (.done rfl ?_)))));subst hq7;have hne:cM x.a7 y.a7≠0:=by simpa using h
  simp only[qP,eA,e0,e1,e2,e3,e4,e5,e6,if_true,if_neg hne]
 have e7:cM x.a7 y.a7=0:=by subst hq7;simpa using h7
 refine .skip (.tidy rfl (.skip ?_));refine .inl (.skip (.call _ (ow n _ _) fun q8 hq8=>.skip (.br (fun h=>?_) fun h8=>?_)))
 ·refine .skip (.tidy rfl (.skip (.tidy rfl (.inl (.done rfl ?_)))));subst hq8;have hne:cM x.a8 y.a8≠0:=by simpa using h
  simp only[qP,eA,e0,e1,e2,e3,e4,e5,e6,e7,if_true,if_neg hne]
 have e8:cM x.a8 y.a8=0:=by subst hq8;simpa using h8
 refine .skip (.tidy rfl (.skip ?_));refine .inl (.skip (.call _ (ow n _ _) fun q9 hq9=>.skip (.br (fun h=>?_) fun h9=>?_)))
 ·refine .skip (.tidy rfl (.skip (.tidy rfl (.inl (.done rfl ?_)))));subst hq9;have hne:cM x.a9 y.a9≠0:=by simpa using h
  simp only[qP,eA,e0,e1,e2,e3,e4,e5,e6,e7,e8,if_true,if_neg hne]
 have e9:cM x.a9 y.a9=0:=by subst hq9;simpa using h9
 refine .skip (.tidy rfl (.skip (.tidy rfl (.inl (.skip (.done rfl ?_))))));simp only[qP,eA,e0,e1,e2,e3,e4,e5,e6,e7,e8,e9,if_true]
def Nw:cB Int:=⟨0,0,0,0,0,0,0,0,0,0⟩
def Fy(x:iO):iO:=
 if x.Kind=5 then Go.L.iO.mk x.Kind x.RD Nw x.Tag x.bq x.IP x.eH x.ah 0 0 0
 else if x.Kind=2 then Go.L.iO.mk x.Kind x.RD Nw x.Tag x.bq x.IP x.eH x.ah x.aL 0 0
 else Go.L.iO.mk x.Kind x.RD x.aC x.Tag x.bq x.IP x.eH x.ah x.aL 0 0
theorem O4(n:Nat)(x:iO):At (Ct.S n x) (fun(r:iO)=>r=Fy x):=by
 refine(?_ :cF n (Cs x) _);unfold Cs Fy;refine .skip (.br (fun h=>.skip (.done rfl ?_)) fun h=>.skip (.br (fun h2=>.skip (.done rfl ?_)) fun h2=>.skip (.done rfl ?_)))
 all_goals (simp only[beq_iff_eq,beq_eq_false_iff_ne]at*)
 ·rw[if_pos h];rfl
 ·rw[if_neg h,if_pos h2];rfl
 ·rw[if_neg h,if_neg h2]
theorem QT(n:Nat)(x y:Bool):At (DG.S n (x,y)) (fun(r:Int)=>r=cM (Ko x) (Ko y)):=by cases x<;>cases y<;>exact⟨_,rfl,rfl⟩
def AD(k:iO):List Int:=[k.Kind,k.RD]++(qP k.aC++[k.Tag,k.bq,Ko k.eH,k.IP,k.ah.IP,k.ah.Len,k.aL])
def Nx(x y:iO):Int:=eA (AD (Fy x)) (AD (Fy y))
theorem xz:∀{a a':List Int} (b b':List Int),a.length=a'.length→eA (a++b) (a'++b')=if eA a a'=0 then eA b b' else eA a a'
 | [],[],b,b',_=>by simp[eA]
 |x::a,y::a',b,b',h=>by
  simp only[List.cons_append,eA,xz b b' (Nat.succ.inj h)];split
  ·rfl
  ·rfl
theorem Sn(k k':iO):eA (AD k) (AD k')=qb [cM k.Kind k'.Kind,cM k.RD k'.RD,eA (qP k.aC) (qP k'.aC),cM k.Tag k'.Tag,cM k.bq k'.bq,cM (Ko k.eH) (Ko k'.eH),cM k.IP k'.IP,cM k.ah.IP k'.ah.IP,cM k.ah.Len k'.ah.Len,cM k.aL k'.aL]:=by
 unfold AD;rw[xz (a:=[k.Kind,k.RD]) (a':=[k'.Kind,k'.RD]) _ _ rfl,xz (a:=qP k.aC) (a':=qP k'.aC) _ _ rfl];simp only[qb,eA];by_cases h0:cM k.Kind k'.Kind=0
 ·by_cases h1:cM k.RD k'.RD=0
  ·simp[h0,h1]
  ·simp[h0,h1]
 ·simp[h0]
theorem Sq(n:Nat)(hn:11≤n)(x y:iO):At (BN.S n (x,y)) (fun(r:Int)=>r=Nx x y):=by
 refine(?_ :cF n (wS x y) _);unfold wS;refine .skip (.call _ (O4 n x) fun r3 h3=>.skip (.call _ (O4 n y) fun r4 h4=>?_))
 refine .skip (.call _ (wR n _ _) fun q0 e0=>.skip (.call _ (Nv n _ _) fun q1 e1=>.skip (.call _ (Tj n _ _) fun q2 e2=>.skip (.call _ (Gt n _ _) fun q3 e3=>.skip (.call _ (Sm n _ _) fun q4 e4=>.skip (.call _ (QT n _ _) fun q5 e5=>?_))))))
 refine .skip (.call _ (DE n _ _) fun q6 e6=>.skip (.call _ (DE n _ _) fun q7 e7=>.skip (.call _ (wR n _ _) fun q8 e8=>.skip (.call _ (DE n _ _) fun q9 e9=>.skip (.call _ (Jk n _ (by show 10<n;omega) (by show 10<100000;omega)) fun r hr=>.skip (.done rfl ?_))))))
 subst h3 h4 e0 e1 e2 e3 e4 e5 e6 e7 e8 e9;refine Eq.trans hr ?_;rw[Nx,Sn]
end Go.L
end
section
namespace Go.L
open Go.AM
def qh(r:cZ):List Int:=[r.level,r.zA,-r.seq,r.bare,r.next]++AD (Fy r.n)
def qS(r s:cZ):Bool:=decide (eA (qh r) (qh s)<0)
theorem O8(a b:Int):cM (-a) (-b)=cM b a:=by
 unfold cM
 repeat' split
 all_goals omega
theorem Sr(r s:cZ):eA (qh r) (qh s)=qb [cM r.level s.level,cM r.zA s.zA,cM s.seq r.seq,cM r.bare s.bare,cM r.next s.next,Nx r.n s.n]:=by
 unfold qh Nx;rw[xz (a:=[r.level,r.zA,-r.seq,r.bare,r.next]) (a':=[s.level,s.zA,-s.seq,s.bare,s.next]) _ _ rfl];generalize eA (AD (Fy r.n)) (AD (Fy s.n))=e;simp only[qb,eA,O8];by_cases h0:cM r.level s.level=0
 ·by_cases h1:cM r.zA s.zA=0
  ·by_cases h2:cM s.seq r.seq=0
   ·by_cases h3:cM r.bare s.bare=0
    ·by_cases h4:cM r.next s.next=0
     ·simp only[h0,h1,h2,h3,h4,if_true];split<;>omega
     ·simp[h0,h1,h2,h3,h4]
    ·simp[h0,h1,h2,h3]
   ·simp[h0,h1,h2]
  ·simp[h0,h1]
 ·simp[h0]
theorem Ss(n:Nat)(hn:11≤n)(r s:cZ):At (yK.S n (r,s)) (fun(b:Bool)=>b=qS r s):=by
 refine(?_ :cF n (tE r s) _);unfold tE;refine .skip (.call _ (wR n _ _) fun q0 e0=>.skip (.call _ (wR n _ _) fun q1 e1=>.skip (.call _ (Gt n _ _) fun q2 e2=>.skip (.call _ (wR n _ _) fun q3 e3=>.skip (.call _ (DE n _ _) fun q4 e4=>.skip (.call _ (Sq n hn _ _) fun q5 e5=>?_))))))
 refine .skip (.call _ (Jk n _ (by show 6<n;omega) (by show 6<100000;omega)) fun(q:Int) hq=>.skip (.done rfl ?_))
 subst e0 e1 e2 e3 e4 e5;show decide (q<0)=qS r s;unfold qS;rw[Sr];have:q=_:=hq;rw[this]
theorem vH(r:cZ):qS r r=false:=by
 unfold qS;rw[(rL rfl).2 rfl];rfl
theorem O9{r s t:cZ}(h1:qS r s=true)(h2:qS s t=true):qS r t=true:=by
 unfold qS at*;simp only[decide_eq_true_eq]at*;exact sQ h1 h2
theorem Bb(a b:aa):aY a b=true↔a=b:=by
 unfold aY;simp only[Bool.and_eq_true,beq_iff_eq,and_true];constructor
 ·rintro⟨h1,h2,h3⟩;obtain⟨a1,⟨a2,a3⟩⟩:=a;obtain⟨b1,⟨b2,b3⟩⟩:=b;simp only at h1 h2 h3;subst h1;subst h2;subst h3;rfl
 ·rintro rfl;exact⟨rfl,rfl,rfl⟩
def tT(x:aj):aa:=⟨x.aG.av,x.aG.ah⟩
def fP(hm:List (aa×aj))(x:aj):List (aa×aj):=
 match getM aY (tT x) hm with
 |none=>cm aY (tT x) x hm
 |some y=>if qS x.cG y.cG then cm aY (tT x) x hm else hm
theorem vI(n:Nat)(hn:11≤n)(f:au)(own:Int)(k:Nat)(cr:List Bool)(us:List (cB Int×List Int))(dm tn:List (Int×Int))(sb:List (aa×Bool))(hm:List (aa×aj))(x:aj):
 At (eD.c.S n (f,own,k,cr,us,dm,tn,sb,hm,x)) (fun r=>r=fP hm x):=by
 refine(?_ :cF n (qQ f own k cr us dm tn sb hm x) _);unfold qQ;refine .skip (.op () rfl (.skip ?_));cases hf:bt aY (Go.L.aa.mk x.aG.av x.aG.ah) hm 0 with
 |none=>
  have hp:fP hm x=cm aY (tT x) x hm:=by unfold fP getM tT;rw[hf];rfl
  refine .br (fun h=>.skip (.op () rfl (.tidy rfl (.inl (.done rfl hp.symm))))) fun h=>?_
  simp at h
 |some y=>
  have hp:fP hm x=if qS x.cG y.2.cG then cm aY (tT x) x hm else hm:=by unfold fP getM tT;rw[hf];rfl
  refine .br (fun h=>?_) fun h=>.skip (.call _ (Ss n hn _ _) fun b hb=>.skip (.br (fun h2=>.skip (.op () rfl (.tidy rfl (.inl (.done rfl ?_))))) fun h2=>.skip (.tidy rfl (.inl (.done rfl ?_)))))
  ·simp at h
  ·subst h2;simp only[Option.map_some,Option.getD_some]at hb;rw[hp,← hb];rfl
  ·subst h2;simp only[Option.map_some,Option.getD_some]at hb;rw[hp,← hb];rfl
def xA(o:Option aj)(x:aj):Option aj:=match o with
 |none=>some x
 |some y=>if qS x.cG y.cG then some x else some y
instance :DecidableEq aa:=fun a b=>decidable_of_iff (aY a b=true) (Bb a b)
theorem Pa(hm:List (aa×aj))(x:aj)(p:aa):getM aY p (fP hm x)=if p=tT x then xA (getM aY p hm) x else getM aY p hm:=by
 unfold fP;by_cases h:p=tT x
 ·subst h;rw[if_pos rfl];cases hg:getM aY (tT x) hm with
  |none=>simp only[xA];rw[wT Bb,if_pos rfl]
  |some y=>
   simp only[xA];split
   ·rw[wT Bb,if_pos rfl]
   ·exact hg
 ·rw[if_neg h];cases hg:getM aY (tT x) hm with
  |none=>simp only;rw[wT Bb,if_neg h]
  |some y=>
   simp only
   split
   ·rw[wT Bb,if_neg h]
   ·rfl
theorem Gv{hm:List (aa×aj)}(h:(hm.map (·.1)).Nodup)(x:aj):((fP hm x).map (·.1)).Nodup∧(fP hm x).length≤hm.length+1:=by
 unfold fP;cases getM aY (tT x) hm with
 |none=>exact Ks Bb hm _ _ h
 |some y=>
  simp only
  split
  ·exact Ks Bb hm _ _ h
  ·exact⟨h,Nat.le_succ _⟩
theorem Gw(p:aa):∀(cs:List aj) (hm:List (aa×aj)),getM aY p (cs.foldl fP hm)=(cs.filter fun x=>decide (p=tT x)).foldl xA (getM aY p hm)
 | [],hm=>rfl
 |x::cs,hm=>by
  simp only[List.foldl_cons,Gw p cs,Pa,List.filter_cons];split
  ·rename_i h;simp[h]
  ·rename_i h;simp[h]
end Go.L
end
section
namespace Go.L
open Go.AM
def zR(leaf:Int)(s:bf):List Int:=if decide (leaf∈s.Leaves)then s.aI else[]
structure Gx(n:Nat)(f:au):Prop where
 l:f.az.length<100000
 nn:f.az.length<n
 s:∀s∈f.az,s.Leaves.length<n∧s.Leaves.length<100000∧s.aI.length<n∧s.aI.length<100000∧∀b∈s.aI,0≤b∧b<f.aI.length
 b:f.aI.length<100000
 bn:f.aI.length<n
 t:f.aA.length<100000
 tn:f.aA.length<n
def gQ{α β:Type}(g:Nat→α→List β)(l:List α):List β:=l.zipIdx.flatMap fun p=>g p.2 p.1
theorem qi{α β:Type}(g:Nat→α→List β)(pre:List α)(x:α):gQ g (pre++[x])=gQ g pre++g pre.length x:=by
 unfold gQ;rw[List.zipIdx_append,List.flatMap_append];simp
def xU(self:Int)(up:List Bool)(es:Int→cB Int)(i:Nat)(s:bf):List (cB Int×List Int):=
 if decide (self∈s.Leaves)&&decide (1<s.Leaves.length)&&(up[i]? ==some true)then[(es i,s.aI)]else[]
def jH{K V:Type}(eq:K→K→Bool)(l:List (K×V)):List (K×V):=l.foldl (fun m p=>cm eq p.1 p.2 m) []
theorem Bd{K V:Type}(eq:K→K→Bool)(l:List (K×V))(p:K×V):jH eq (l++[p])=cm eq p.1 p.2 (jH eq l):=by simp[jH]
structure Ny(f:au)(leaf:Int)(up:List Bool)(es:Int→cB Int)(lo:Int)(r:List Bool×List (cB Int×List Int)×List (Int×Int)×List (Int×Int)×List (aa×Bool)×List (aa×aj)×au×Int×Nat):Prop where
 UQ:r.1.length=f.aI.length
 cr:∀b:Nat,b<f.aI.length→r.1[b]? =some (decide ((b:Int)∈f.az.flatMap (zR leaf)))
 us:r.2.1=jH gE (gQ (xU leaf up es) f.az)
 dm:r.2.2.1=jH cq (gQ (fun i d=>[(d.Target,(i:Int))]) f.aI)
 tn:r.2.2.2.1=jH cq (gQ (fun i t=>[(t.Target,(i:Int))]) f.aA)
 sb:r.2.2.2.2.1=[]
 hm:r.2.2.2.2.2.1=[]
 fb:r.2.2.2.2.2.2.1=f
 own:r.2.2.2.2.2.2.2.1=lo
 len:r.2.2.2.2.2.2.2.2=f.aI.length
def Ik(f:au)(pre:List Int)(c:List Bool):Prop:=c.length=f.aI.length∧∀b:Nat,b<f.aI.length→c[b]? =some (decide ((b:Int)∈pre))
theorem Ik.set{f:au}{pre:List Int}{c:List Bool}(h:Ik f pre c){x:Int}(h0:0≤x)(h1:x<f.aI.length):Ik f (pre++[x]) (c.set x.toNat true):=by
 refine⟨by simpa using h.1,fun b hb=>?_⟩
 rw[List.getElem?_set];by_cases he:x.toNat=b
 ·rw[if_pos he,if_pos (by rw[h.1];omega)]
  have:(b:Int)=x:=by omega
  simp[this]
 ·rw[if_neg he,h.2 b hb];have:(b:Int)≠x:=by omega
  simp[this]
theorem I3(n:Nat)(f:au)(self lo:Int)(up:List Bool)(es:Int→cB Int)(hlo:At (iS.S n (f,self)) (fun r=>r=lo))(hf:Gx n f)
 (hes:∀i:Nat,i<f.az.length→At (ko.S n (i:Int)) (fun(r:cB Int×Int)=>r.1=es i)):
 At (rQ.c.S n (f,self,up)) (Ny f self up es lo):=by
 refine(?_ :cF n (rP f self up) _);unfold rP;have hrep:(List.replicate (Int.toNat (((List.length f.aI):Nat):Int)) false).length=f.aI.length:=by simp
 have hroom:roomy (Int.toNat (((List.length f.aI):Nat):Int)) 1=true:=by
  have:=hf.b;simp only[roomy,Bool.and_eq_true,decide_eq_true_eq,Int.toNat_natCast];omega
 refine .skip (.call _ hlo fun r4 h4=>.skip (.op () rfl (.op () (if_pos ⟨by omega,hroom⟩) (.skip (.op () rfl (.skip ?_))))))
 refine .loop (dI f.az fun pre (s:List Bool×List (cB Int×List Int))=>Ik f (pre.flatMap (zR self)) s.1∧s.2=jH gE (gQ (xU self up es) pre)) (fun a=>f.az.length - a.1.toNat)
  (fun t=>Ik f (f.az.flatMap (zR self)) t.1∧t.2=jH gE (gQ (xU self up es) f.az)) rfl (dI.start ⟨⟨hrep,fun b hb=>?_⟩,rfl⟩) (by simpa using hf.nn) (fun a ha=>?_) (fun t67 ht67=>?_)
 ·rw[List.getElem?_replicate,if_pos (by simpa using hb)];simp
 ·refine .skip (.br (fun h=>?_) fun h=>.skip (.done rfl (ha.fin h)))
  obtain⟨s,pre,h1,h2,⟨h3,h3u⟩,⟨hidx,hpost⟩,h5⟩:=ha.get h;obtain⟨q1,q2,q3,q4,q5⟩:=hf.s s h2;have hlt:pre.length<f.az.length:=by
   obtain⟨post,hp⟩:=hpost;have:=congrArg List.length hp;simp only[List.length_append,List.length_cons]at this;omega
  refine .skip (.op s h1 (.skip (.call _ (Bc n s.Leaves self q1 q2) fun r50 h50=>.skip (.br (fun hc=>.skip (.done rfl ?_)) fun hc=>?_))))
  ·have hn:¬self∈s.Leaves:=by rw[h50]at hc;simpa using hc
   refine h5 hf.l _ ⟨?_,?_⟩
   ·rw[List.flatMap_append,List.flatMap_cons,List.flatMap_nil,List.append_nil];have:zR self s=[]:=by unfold zR;simp[hn]
    rw[this,List.append_nil];exact h3
   ·rw[qi];have:xU self up es pre.length s=[]:=by unfold xU;simp[hn]
    rw[this,List.append_nil];exact h3u
  ·have hin:self∈s.Leaves:=by rw[h50]at hc;simpa using hc
   have hcar:zR self s=s.aI:=by unfold zR;simp[hin]
   refine .skip (.op () rfl (.skip (.loop (dI s.aI fun p c=>Ik f (pre.flatMap (zR self)++p) c) (fun a=>s.aI.length - a.1.toNat) (fun t=>Ik f (pre.flatMap (zR self)++s.aI) t) rfl (dI.start (by rw[List.append_nil];exact h3)) (by simpa using q3) (fun a2 ha2=>?_) (fun t57 ht57=>?_))))
   ·refine .skip (.br (fun g=>?_) fun g=>.skip (.done rfl (ha2.fin g)))
    obtain⟨x,p2,g1,g2,g3,_,g5⟩:=ha2.get g;obtain⟨b0,b1⟩:=q5 x g2;have hx:x.toNat<a2.2.length:=by rw[g3.1];omega
    refine .skip (.op x g1 (.skip (.op () (if_pos ⟨b0,by rw[hrep];exact b1⟩) (.op (a2.2[x.toNat]'hx) (List.getElem?_eq_getElem hx) (.skip (.done rfl (g5 q4 _ ?_)))))))
    rw[← List.append_assoc];exact g3.set b0 b1
   ·have fin:∀us,us=jH gE (gQ (xU self up es) (pre++[s]))→(dI f.az (fun pre (s:List Bool×List (cB Int×List Int))=>Ik f (pre.flatMap (zR self)) s.1∧s.2=jH gE (gQ (xU self up es) pre)) (IntKind.wrap .i64 (a.1+1),(t57,us))∧f.az.length - (IntKind.wrap .i64 (a.1+1)).toNat<f.az.length - a.1.toNat):=fun us hus=>h5 hf.l (t57,us) ⟨by
     rw[List.flatMap_append,List.flatMap_cons,List.flatMap_nil,List.append_nil,hcar];exact ht57,hus⟩
    have none_:xU self up es pre.length s=[]→a.2.2=jH gE (gQ (xU self up es) (pre++[s])):=fun e=>by rw[qi,e,List.append_nil];exact h3u
    refine .skip (.op () rfl (.skip (.br (fun g=>?_) fun g=>.skip (.done rfl (fin _ (none_ ?_))))))
    ·have g1:1<s.Leaves.length:=by simp only[gt_iff_lt,decide_eq_true_eq]at g;omega
     refine .skip (.op () rfl (.skip (.br (fun g2=>?_) fun g2=>.skip (.done rfl (fin _ (none_ ?_))))))
     ·simp only[decide_eq_true_eq]at g2;have hu:pre.length<up.length:=by rw[hidx]at g2;omega
      have hat:gv up a.1=some (up[pre.length]'hu):=by rw[hidx,bN,List.getElem?_eq_getElem hu]
      refine .skip (.op _ hat (.skip (.join (fun us=>us=jH gE (gQ (xU self up es) (pre++[s]))) ?_ fun us hus=>.skip (.done rfl (fin us hus)))))
      refine .br (fun g3=>?_) fun g3=>.skip (.done rfl (none_ ?_))
      ·have hes':=hes pre.length hlt;rw[← hidx]at hes';refine .skip (.call _ hes' fun r59 h59=>.skip (.op () rfl (.done rfl ?_)))
       have:xU self up es pre.length s=[(es a.1,s.aI)]:=by
        unfold xU;rw[hidx];simp[hin,g1,List.getElem?_eq_getElem hu,g3]
       rw[qi,this,Bd,← h3u,h59]
      ·unfold xU;simp[List.getElem?_eq_getElem hu,g3]
     ·simp only[decide_eq_false_iff_not]at g2;have hu:¬pre.length<up.length:=by rw[hidx]at g2;omega
      unfold xU;simp[List.getElem?_eq_none (Nat.le_of_not_lt hu)]
    ·have g1:¬1<s.Leaves.length:=by simp only[gt_iff_lt,decide_eq_false_iff_not]at g;omega
     unfold xU;simp[g1]
 ·refine .skip (.op () rfl (.skip (.loop (dI f.aI fun pre m=>m=jH cq (gQ (fun i (d:BD)=>[(d.Target,(i:Int))]) pre)) (fun a=>f.aI.length - a.1.toNat) (fun t=>t=jH cq (gQ (fun i (d:BD)=>[(d.Target,(i:Int))]) f.aI)) rfl (dI.start rfl) (by simpa using hf.bn) (fun a ha=>?_) (fun t80 ht80=>?_))))
  ·refine .skip (.br (fun h=>?_) fun h=>.skip (.done rfl (ha.fin h)))
   obtain⟨x,pre,h1,h2,h3,⟨hidx,_⟩,h5⟩:=ha.get h;refine .skip (.op x h1 (.skip (.op () rfl (.skip (.done rfl (h5 hf.b _ ?_))))));rw[qi,Bd,← h3,hidx]
  ·refine .skip (.op () rfl (.skip (.loop (dI f.aA fun pre m=>m=jH cq (gQ (fun i (d:av)=>[(d.Target,(i:Int))]) pre)) (fun a=>f.aA.length - a.1.toNat) (fun t=>t=jH cq (gQ (fun i (d:av)=>[(d.Target,(i:Int))]) f.aA)) rfl (dI.start rfl) (by simpa using hf.tn) (fun a ha=>?_) (fun t93 ht93=>?_))))
   ·refine .skip (.br (fun h=>?_) fun h=>.skip (.done rfl (ha.fin h)))
    obtain⟨x,pre,h1,h2,h3,⟨hidx,_⟩,h5⟩:=ha.get h;refine .skip (.op x h1 (.skip (.op () rfl (.skip (.done rfl (h5 hf.t _ ?_))))));rw[qi,Bd,← h3,hidx]
   ·exact .skip (.tidy rfl (.inl (.done rfl ⟨ht67.1.1,ht67.1.2,ht67.2,ht80,ht93,rfl,rfl,rfl,h4,hrep⟩)))
end Go.L
end
section
namespace Go.L
open Go.AM
def T5:iO:=Go.L.iO.mk 0 0 Nw 0 0 0 false (Go.L.ah.mk 0 0) 0 0 0
def Jm(i:Nat)(d:BD):aj:=⟨Go.L.aG.mk d.av d.aJ (i:Int) 0 0 0 0,Go.L.cZ.mk 0 0 0 0 0 T5⟩
def ql(cr:List Bool)(i:Nat)(d:BD):List aj:=if(d.aL != 0)&&(cr[i]? ==some true)then[Jm i d]else[]
def xB(f:au)(cr:List Bool):List aj:=gQ (ql cr) f.aI
def Er(sb:List (aa×Bool))(x:aj):List (aa×Bool):=cm aY (tT x) true sb
theorem Kx(n:Nat)(hn:11≤n)(f:au)(own:Int)(k:Nat)(cr:List Bool)(us:List (cB Int×List Int))(dm tn:List (Int×Int))(sb:List (aa×Bool))(hm:List (aa×aj))
 (hb:f.aI.length<100000) (hbn:f.aI.length<n) (hk:k=f.aI.length) (hcr:cr.length=f.aI.length):
 At (qR.c.S n (f,own,k,cr,us,dm,tn,sb,hm)) (fun r=>r=((xB f cr).foldl Er sb,(xB f cr).foldl fP hm)):=by
 refine(?_ :cF n (mH f own k cr us dm tn sb hm) _);unfold mH;refine .skip (.op () rfl (.skip (.loop (dI f.aI fun pre s=>s=((gQ (ql cr) pre).foldl Er sb,(gQ (ql cr) pre).foldl fP hm)) (fun a=>f.aI.length - a.1.toNat) (fun t=>t=((xB f cr).foldl Er sb,(xB f cr).foldl fP hm)) rfl (dI.start rfl) (by simpa using hbn) (fun a ha=>?_) (fun t ht=>?_))))
 ·refine .skip (.br (fun h=>?_) fun h=>.skip (.done rfl (ha.fin h)))
  obtain⟨d,pre,h1,h2,h3,⟨hidx,post,hpost⟩,h5⟩:=ha.get h;have hlt:pre.length<f.aI.length:=by
   have:=congrArg List.length hpost;simp only[List.length_append,List.length_cons]at this;omega
  have e1:a.2.1=(gQ (ql cr) pre).foldl Er sb:=by rw[h3]
  have e2:a.2.2=(gQ (ql cr) pre).foldl fP hm:=by rw[h3]
  have none_:ql cr pre.length d=[]→(a.2.1,a.2.2)=((gQ (ql cr) (pre++[d])).foldl Er sb,(gQ (ql cr) (pre++[d])).foldl fP hm):=fun e=>by
   rw[qi,e,List.append_nil,← e1,← e2]
  refine .skip (.op d h1 (.skip (.br (fun g=>?_) fun g=>.skip (.done rfl (h5 hb _ (none_ ?_))))))
  ·have hc:pre.length<cr.length:=by omega
   refine .skip (.op () (if_pos ⟨by omega,by rw[hidx,hk];omega⟩) (.op (cr[pre.length]'hc) (by rw[show a.1.toNat=pre.length by omega];exact List.getElem?_eq_getElem hc) (.skip (.br (fun g2=>?_) fun g2=>.skip (.done rfl (h5 hb _ (none_ ?_)))))))
   ·refine .skip (.op () rfl (.skip (.inl (.cV _ (vI n hn f own k cr us dm tn _ a.2.2 _) fun r29 h29=>.skip (.done rfl (h5 hb _ ?_))))))
    have:ql cr pre.length d=[Jm pre.length d]:=by unfold ql;simp only[g,List.getElem?_eq_getElem hc,g2];rfl
    rw[qi,this,List.foldl_append,List.foldl_append,← e1,← e2,h29,hidx];rfl
   ·unfold ql;simp only[List.getElem?_eq_getElem hc,g2];simp
  ·unfold ql;simp only[g];rfl
 ·exact .tidy rfl (.inl (.done rfl ht))
def Nz(o:Option Int)(bd:Int):Bool:=match o with
 |some h=>decide (bd>h)
 |none=>false
def uk(f:au)(dm:List (Int×Int))(t ip:Int)(dQ:ah→Bool)(o:Option Int)(T:Int):Option Int:=
 match getM cq T dm with
 |none=>o
 |some bd=>if Nz o bd then o else
  match gv f.aI bd with
  |none=>o
  |some d=>if(d.av==t)&&(d.aL != 0)&&dQ d.aJ then some bd else o
def nU(f:au)(dm:List (Int×Int))(t ip:Int)(dQ:ah→Bool)(ts:List Int):Option Int:=ts.foldl (uk f dm t ip dQ) none
theorem Su(n:Nat)(f:au)(own:Int)(k:Nat)(cr:List Bool)(us:List (cB Int×List Int))(dm tn:List (Int×Int))(sb:List (aa×Bool))(hm:List (aa×aj))(t ip:Int)(ts:List Int)(dQ:ah→Bool)
 (hts:ts.length<100000) (htn:ts.length<n) (hdm:∀T bd,getM cq T dm=some bd→∃d,gv f.aI bd=some d) (hcon:∀d∈f.aI,At (dL.S n (d.aJ,ip)) (fun(b:Bool)=>b=dQ d.aJ)):
 At (vG.c.S n (f,own,k,cr,us,dm,tn,sb,hm,t,ts,ip)) (fun r=>r=((nU f dm t ip dQ ts).getD 0,(nU f dm t ip dQ ts).isSome)):=by
 refine(?_ :cF n (qg f own k cr us dm tn sb hm t ts ip) _);unfold qg;have atmem:∀{bd:Int} {d:BD},gv f.aI bd=some d→d∈f.aI:=fun {bd d} h=>by
  unfold gv at h;split at h
  ·exact List.mem_of_getElem? h
  ·cases h
 let st:Int×Bool×Int→Int×Option Int:=fun a=>(a.2.2,if a.2.1 then some a.1 else none)
 refine .skip (.op () rfl (.skip (.loop (fun a=>dI ts (fun pre o=>o=nU f dm t ip dQ pre) (st a)∧(a.2.1=false→a.1=0)) (fun a=>ts.length - a.2.2.toNat) (fun r=>r=((nU f dm t ip dQ ts).getD 0,(nU f dm t ip dQ ts).isSome)) rfl ⟨dI.start rfl,fun _=>rfl⟩ (by simpa using htn) (fun a ha=>?_) (fun r hr=>?_))))
 ·obtain⟨ha,ha0⟩:=ha;obtain⟨a1,a2,a3⟩:=a;have ha0:a2=false→a1=0:=ha0;have hval:∀o,(if a2=true then some a1 else none)=o→(a1,a2)=(o.getD 0,o.isSome):=fun o ho=>by
   cases a2 with
   |true=>subst ho;rfl
   |false=>subst ho;rw[ha0 rfl];rfl
  refine .skip (.br (fun h=>?_) fun h=>.skip (.done rfl (hval _ (ha.fin h))))
  obtain⟨T,pre,h1,h2,h3,_,h5⟩:=ha.get h;have h3:(if a2=true then some a1 else none)=nU f dm t ip dQ pre:=h3
  have step:∀o',o'=uk f dm t ip dQ (if a2=true then some a1 else none) T→o'=nU f dm t ip dQ (pre++[T]):=fun o' ho=>by
   rw[ho,h3];unfold nU;rw[List.foldl_append];rfl
  have keep:uk f dm t ip dQ (if a2=true then some a1 else none) T=(if a2=true then some a1 else none)→o6 (fun a=>dI ts (fun pre o=>o=nU f dm t ip dQ pre) (st a)∧(a.2.1=false→a.1=0)) (fun a=>ts.length - a.2.2.toNat) (fun r=>r=((nU f dm t ip dQ ts).getD 0,(nU f dm t ip dQ ts).isSome)) (a1,a2,a3) (.inl (a1,a2,IntKind.wrap .i64 (a3+1))):=fun e=>by
   obtain⟨q1,q2⟩:=h5 hts _ (step _ e.symm);exact⟨⟨q1,ha0⟩,q2⟩
  have put:∀bd,uk f dm t ip dQ (if a2=true then some a1 else none) T=some bd→o6 (fun a=>dI ts (fun pre o=>o=nU f dm t ip dQ pre) (st a)∧(a.2.1=false→a.1=0)) (fun a=>ts.length - a.2.2.toNat) (fun r=>r=((nU f dm t ip dQ ts).getD 0,(nU f dm t ip dQ ts).isSome)) (a1,a2,a3) (.inl (bd,true,IntKind.wrap .i64 (a3+1))):=fun bd e=>by
   obtain⟨q1,q2⟩:=h5 hts _ (step _ e.symm);exact⟨⟨q1,fun h=>by cases h⟩,q2⟩
  refine .skip (.op T h1 (.skip (.op () rfl (.skip ?_))));cases hf:bt cq T dm 0 with
  |none=>
   have hg:getM cq T dm=none:=by unfold getM;rw[hf];rfl
   exact .br (fun g=>.skip (.done rfl (keep (by unfold uk;rw[hg])))) fun g=>by simp at g
  |some x=>
   have hg:getM cq T dm=some x.2:=by unfold getM;rw[hf];rfl
   obtain⟨d,hd⟩:=hdm T x.2 hg;refine .br (fun g=>by simp at g) fun g=>.skip ?_
   have hat:gv f.aI ((Option.map (fun x:Nat×Int=>x.2) (some x)).getD 0)=some d:=hd
   have rest:Nz (if a2=true then some a1 else none) x.2=false→
    uk f dm t ip dQ (if a2=true then some a1 else none) T=if(d.av==t)&&(d.aL != 0)&&dQ d.aJ then some x.2 else(if a2=true then some a1 else none):=fun e=>by
    unfold uk;rw[hg];simp only[e,hd];rw[if_neg (by simp)]
   refine .br (fun g1=>.skip (.br (fun g2=>.skip (.done rfl (keep ?_))) fun g2=>?_)) fun g1=>?_
   ·have g1:a2=true:=g1;have e:Nz (if a2=true then some a1 else none) x.2=true:=by rw[if_pos g1];exact g2
    unfold uk;rw[hg];simp only[e,if_true]
   ·have hr:=rest (by rw[if_pos (show a2=true from g1)];exact g2)
    refine .skip (.op d hat (.skip (.br (fun c1=>.skip (.br (fun c2=>.skip (.call _ (hcon d (atmem hd)) fun r35 h35=>.skip (.br (fun c3=>.skip (.done rfl (put _ ?_))) fun c3=>.skip (.done rfl (keep ?_))))) fun c2=>.skip (.done rfl (keep ?_)))) fun c1=>.skip (.done rfl (keep ?_)))))
    ·rw[hr,if_pos (by rw[c1,c2,← h35,c3];rfl)];rfl
    ·rw[hr,if_neg (by rw[← h35,c3];simp)]
    ·rw[hr,if_neg (by rw[c2];simp)]
    ·rw[hr,if_neg (by rw[c1];simp)]
   ·have hr:=rest (by rw[if_neg (by rw[show a2=false from g1];simp)];rfl)
    refine .skip (.op d hat (.skip (.br (fun c1=>.skip (.br (fun c2=>.skip (.call _ (hcon d (atmem hd)) fun r35 h35=>.skip (.br (fun c3=>.skip (.done rfl (put _ ?_))) fun c3=>.skip (.done rfl (keep ?_))))) fun c2=>.skip (.done rfl (keep ?_)))) fun c1=>.skip (.done rfl (keep ?_)))))
    ·rw[hr,if_pos (by rw[c1,c2,← h35,c3];rfl)];rfl
    ·rw[hr,if_neg (by rw[← h35,c3];simp)]
    ·rw[hr,if_neg (by rw[c2];simp)]
    ·rw[hr,if_neg (by rw[c1];simp)]
 ·subst hr;exact .skip (.tidy rfl (.inl (.done rfl rfl)))
end Go.L
end
section
namespace Go.L
open Go.AM
def yq(own:Int)(t:Int)(sb:List (aa×Bool))(rt:Int×Bool)(r:bF):Option aj:=
 if(r.A.Next==own)||(r.N.Label==0)|| !rt.2||((getM aY ⟨t,r.N.ah⟩ sb).getD false)then none
 else some ⟨Go.L.aG.mk t r.N.ah (-1) r.A.Next r.N.Label 0 rt.1,Go.L.cZ.mk 2 0 0 0 r.A.Next r.N⟩
def oA(hm:List (aa×aj))(o:Option aj):List (aa×aj):=match o with
 |none=>hm
 |some x=>fP hm x
theorem Pb(n:Nat)(hn:11≤n)(f:au)(own:Int)(k:Nat)(cr:List Bool)(us:List (cB Int×List Int))(dm tn:List (Int×Int))(sb:List (aa×Bool))(hm:List (aa×aj))(t:Int)(r:bF)(rt:Int×Bool)
 (hrt:At (dZ.S n r.A.bT) (fun(q:Int×Bool)=>q=rt)):
 At (lq.c.S n (f,own,k,cr,us,dm,tn,sb,hm,t,r)) (fun m=>m=oA hm (yq own t sb rt r)):=by
 refine(?_ :cF n (oz f own k cr us dm tn sb hm t r) _);unfold oz;refine .skip (.call _ hrt fun(q:Int×Bool) hq=>.skip ?_)
 subst hq;refine .br (fun h1=>.skip (.tidy rfl (.inl (.done rfl ?_)))) fun h1=>.skip (.br (fun h2=>.skip (.tidy rfl (.inl (.done rfl ?_)))) fun h2=>.skip (.br (fun h3=>.skip (.tidy rfl (.inl (.done rfl ?_)))) fun h3=>.skip (.op () rfl (.skip (.br (fun h4=>.skip (.tidy rfl (.inl (.done rfl ?_)))) fun h4=>.skip (.inl (.cV _ (vI n hn f own k cr us dm tn sb hm _) fun m hm2=>.tidy rfl (.inl (.done rfl ?_)))))))))
 ·unfold yq;rw[if_pos (by rw[h1];rfl)];rfl
 ·unfold yq;rw[if_pos (by rw[h2];simp)];rfl
 ·unfold yq;rw[if_pos (by rw[show(!q.2)=true from h3];simp)];rfl
 ·have h4:(getM aY ⟨t,r.N.ah⟩ sb).getD false=true:=h4;unfold yq;rw[if_pos (by rw[h4];simp)];rfl
 ·have h4:(getM aY ⟨t,r.N.ah⟩ sb).getD false=false:=h4;unfold yq;rw[if_neg (by rw[h1,h2,show(!q.2)=false from h3,h4];simp)];exact hm2
def uC(e:cB Int):Bool:=((e.a0==(0:Int))&&((e.a1==(0:Int))&&((e.a2==(0:Int))&&((e.a3==(0:Int))&&((e.a4==(0:Int))&&((e.a5==(0:Int))&&((e.a6==(0:Int))&&((e.a7==(0:Int))&&((e.a8==(0:Int))&&((e.a9==(0:Int))&&true))))))))))
def kI(r:bF)(own:Int):Int:=if r.A.Next=own then 0 else 1
def kJ(r:bF):Int:=if uC r.N.aC=true then 1 else 0
def sR(r:bF)(own sq:Int)(h:aG):aj:=⟨h,Go.L.cZ.mk 1 (kI r own) sq (kJ r) r.A.Next r.N⟩
def NA(us:List (cB Int×List Int))(e:cB Int)(bd:Int):Bool:=decide (bd∈(getM gE e us).getD [])
def sU(f:au)(own:Int)(cr:List Bool)(us:List (cB Int×List Int))(dm:List (Int×Int))(t:Int)(dQ:ah→Bool)(sq:Int)(rt:Int×Bool)(ts:List Int)(r:bF):Option aj:=
 match nU f dm t r.N.IP dQ ts with
 |none=>none
 |some bd=>
  if !((cr[bd.toNat]?).getD false)||(!((r.A.Next==own)||NA us r.N.aC bd)&&(f.cW != 1))then
   if(r.A.Next==own)||(r.N.dg==0)|| !rt.2 then none
   else some (sR r own sq (Go.L.aG.mk t (Go.L.ah.mk r.N.IP 32) (-1) r.A.Next r.N.dg 0 rt.1))
  else some (sR r own sq (Go.L.aG.mk t (Go.L.ah.mk r.N.IP 32) bd 0 0 r.N.bq 0))
theorem Sv(n:Nat)(hn:11≤n)(f:au)(own:Int)(k:Nat)(cr:List Bool)(us:List (cB Int×List Int))(dm tn:List (Int×Int))(sb:List (aa×Bool))(hm:List (aa×aj))(t:Int)(ts:List Int)(r:bF)(dQ:ah→Bool)(sq:Int)(rt:Int×Bool)
 (hrt:At (dZ.S n r.A.bT) (fun(q:Int×Bool)=>q=rt)) (hmob:At (dP.S n r.A.bT) (fun(q:Bool×Int×Bool)=>q.2.1=sq))
 (hts:ts.length<100000) (htn:ts.length<n) (hdm:∀T bd,getM cq T dm=some bd→0≤bd∧bd<f.aI.length) (hcon:∀d∈f.aI,At (dL.S n (d.aJ,r.N.IP)) (fun(b:Bool)=>b=dQ d.aJ))
 (hk:k=f.aI.length) (hcr:cr.length=f.aI.length) (hus:∀e l,getM gE e us=some l→l.length<n∧l.length<100000):
 At (qk.c.S n (f,own,k,cr,us,dm,tn,sb,hm,t,ts,r)) (fun m=>m=oA hm (sU f own cr us dm t dQ sq rt ts r)):=by
 refine(?_ :cF n (qj f own k cr us dm tn sb hm t ts r) _);unfold qj;have hdm2:∀T bd,getM cq T dm=some bd→∃d,gv f.aI bd=some d:=fun T bd h=>by
  obtain⟨h0,h1⟩:=hdm T bd h;refine⟨f.aI[bd.toNat]'(by omega),?_⟩
  have:=bN f.aI bd.toNat;rw[show((bd.toNat:Nat):Int)=bd by omega]at this
  rw[this,List.getElem?_eq_getElem]
 have hrange:∀l:List Int,∀o:Option Int,(∀h:Int,o=some h→0≤h∧h<f.aI.length)→∀h:Int,l.foldl (uk f dm t r.N.IP dQ) o=some h→0≤h∧h<f.aI.length:=by
  intro l;induction l with
  |nil=>exact fun o ho=>ho
  |cons T l ih=>
   intro o ho;refine ih _ fun h hh=>?_
   unfold uk at hh;cases hg:getM cq T dm with
   |none=>rw[hg]at hh;exact ho h hh
   |some bd=>
    rw[hg]at hh;simp only at hh;split at hh
    ·exact ho h hh
    ·split at hh
     ·exact ho h hh
     ·split at hh
      ·cases hh;exact hdm T _ hg
      ·exact ho h hh
 refine .skip (.inl (.cV _ (Su n f own k cr us dm tn sb hm t r.N.IP ts dQ hts htn hdm2 hcon) fun r13 h13=>.skip ?_))
 subst h13;cases hh:nU f dm t r.N.IP dQ ts with
 |none=>
  have hs:sU f own cr us dm t dQ sq rt ts r=none:=by unfold sU;rw[hh]
  rw[hs];exact .br (fun _=>.skip (.tidy rfl (.inl (.done rfl rfl)))) fun h=>by cases h
 |some bd=>
  obtain⟨hb0,hb1⟩:0≤bd∧bd<f.aI.length:=hrange ts none (fun h e=>by cases e) bd hh
  have hc:bd.toNat<cr.length:=by omega
  have hcb:cr[bd.toNat]? =some (cr[bd.toNat]'hc):=List.getElem?_eq_getElem hc;have hsp:sU f own cr us dm t dQ sq rt ts r=if !(cr[bd.toNat]'hc)||(!((r.A.Next==own)||NA us r.N.aC bd)&&(f.cW != 1))then
   if(r.A.Next==own)||(r.N.dg==0)|| !rt.2 then none
   else some (sR r own sq (Go.L.aG.mk t (Go.L.ah.mk r.N.IP 32) (-1) r.A.Next r.N.dg 0 rt.1))
   else some (sR r own sq (Go.L.aG.mk t (Go.L.ah.mk r.N.IP 32) bd 0 0 r.N.bq 0)):=by
   unfold sU;rw[hh];simp only[hcb,Option.getD_some]
  generalize sU f own cr us dm t dQ sq rt ts r=S at hsp;generalize cr[bd.toNat]'hc=cb at hsp hcb;refine .br (fun h=>by cases h) fun _=>.skip (.br (fun hmine=>.skip (.op () (if_pos ⟨hb0,by rw[hk];exact hb1⟩) (.op cb hcb (.skip ?_)))) fun hmine=>.skip ?_)
  ·rw[hmine]at hsp;refine .br (fun g=>.skip (.call _ hrt fun(q:Int×Bool) hq=>.skip (.br (fun _=>.skip (.tidy rfl (.inl (.done rfl ?_)))) fun h=>?_))) fun g=>.skip ?_
   ·rw[hsp,if_pos (by rw[show(!cb)=true from g];rfl)];rfl
   ·rw[hmine]at h;cases h
   ·have hspec:∀h:aG,h=Go.L.aG.mk t (Go.L.ah.mk r.N.IP 32) bd 0 0 r.N.bq 0→oA hm S=fP hm (sR r own sq h):=fun h e=>by
     subst e;rw[hsp,if_neg (by rw[show(!cb)=false from g];simp)];rfl
    refine .call _ hmob fun q hq=>.skip (.join (fun(x:Int)=>x=kI r own) ?_ fun x hx=>.skip (.join (fun(y:Int)=>y=kJ r) ?_ fun y hy=>.skip (.inl (.cV _ (vI n hn f own k cr us dm tn sb hm _) fun m hm2=>.tidy rfl (.inl (.done rfl ?_))))))
    ·refine .br (fun h=>.skip (.done rfl ?_)) fun h=>.skip (.done rfl ?_)
     ·unfold kI;rw[if_neg (by simpa using h)]
     ·unfold kI;rw[if_pos (by simpa using h)]
    ·refine .br (fun h=>.skip (.done rfl ?_)) fun h=>.skip (.done rfl ?_)
     ·unfold kJ;rw[if_pos (show uC r.N.aC=true from h)]
     ·unfold kJ;rw[if_neg (by rw[show uC r.N.aC=false from h];simp)]
    ·subst hx hy;rw[hm2,hq];exact(hspec _ rfl).symm
  ·have usd:∀(l:List Int),(getM gE r.N.aC us).getD []=l→NA us r.N.aC bd=decide (bd∈l):=fun l e=>by unfold NA;rw[e]
   refine .sp (fun hsome=>?_) fun hnone=>?_
   ·cases hf:bt uU r.N.aC us 0 with
    |none=>rw[hf]at hsome;cases hsome
    |some z=>
    have hgl:getM gE r.N.aC us=some z.2:=by unfold getM;rw[show bt gE r.N.aC us 0=some z from hf];rfl
    obtain⟨l1,l2⟩:=hus _ _ hgl;have hin:=usd z.2 (by rw[hgl];rfl)
    refine .op z.2 (by show(bt uU r.N.aC us 0).map (·.2)=_;rw[hf];rfl) (.skip (.call _ (Bc n z.2 bd l1 l2) fun(b:Bool) hb=>.skip (.op () (if_pos ⟨hb0,by rw[hk];exact hb1⟩) (.op cb hcb (.skip ?_)))))
    rw[← hb]at hin;simp only[hmine,hin,Bool.false_or]at hsp;refine .br (fun g=>.skip (.call _ hrt fun(q:Int×Bool) hq=>.skip (.br (fun h=>by rw[hmine]at h;cases h) fun _=>.skip (.br (fun h2=>.skip (.tidy rfl (.inl (.done rfl ?_)))) fun h2=>.skip (.br (fun h3=>.skip (.tidy rfl (.inl (.done rfl ?_)))) fun h3=>.skip ?_))))) fun g=>.skip ?_
    ·rw[hsp,if_pos (by rw[show(!cb)=true from g];rfl),if_pos (by rw[h2];simp)];rfl
    ·subst hq;rw[hsp,if_pos (by rw[show(!cb)=true from g];rfl),if_pos (by rw[show(!q.2)=true from h3];simp)];rfl
    ·subst hq;have hspec:∀h:aG,h=Go.L.aG.mk t (Go.L.ah.mk r.N.IP 32) (-1) r.A.Next r.N.dg 0 q.1→oA hm S=fP hm (sR r own sq h):=fun h e=>by
      subst e;rw[hsp,if_pos (by rw[show(!cb)=true from g];rfl),if_neg (by rw[h2,show(!q.2)=false from h3];simp)];rfl
     refine .call _ hmob fun q hq=>.skip (.join (fun(x:Int)=>x=kI r own) ?_ fun x hx=>.skip (.join (fun(y:Int)=>y=kJ r) ?_ fun y hy=>.skip (.inl (.cV _ (vI n hn f own k cr us dm tn sb hm _) fun m hm2=>.tidy rfl (.inl (.done rfl ?_))))))
     ·refine .br (fun h=>.skip (.done rfl ?_)) fun h=>.skip (.done rfl ?_)
      ·unfold kI;rw[if_neg (by simpa using h)]
      ·unfold kI;rw[if_pos (by simpa using h)]
     ·refine .br (fun h=>.skip (.done rfl ?_)) fun h=>.skip (.done rfl ?_)
      ·unfold kJ;rw[if_pos (show uC r.N.aC=true from h)]
      ·unfold kJ;rw[if_neg (by rw[show uC r.N.aC=false from h];simp)]
     ·subst hx hy;rw[hm2,hq];exact(hspec _ rfl).symm
    ·rw[show(!cb)=false from g,Bool.false_or]at hsp;refine .br (fun g2=>.skip (.join (fun(x:Unit⊕(Int×Int×Int×Int×Int))=>match x with
      | .inl _=>oA hm S=hm
      | .inr h=>∀m2,m2=fP hm (sR r own sq (Go.L.aG.mk t (Go.L.ah.mk r.N.IP 32) h.1 h.2.1 h.2.2.1 h.2.2.2.1 h.2.2.2.2))→oA hm S=m2) ?_ fun x hx=>?_)) fun g2=>.skip ?_
     ·rw[show(!b)=true from g2,Bool.true_and]at hsp;refine .br (fun g3=>.skip (.call _ hrt fun(q:Int×Bool) hq=>.skip (.br (fun h=>by rw[hmine]at h;cases h) fun _=>.skip (.br (fun h2=>.skip (.done rfl ?_)) fun h2=>.skip (.br (fun h3=>.skip (.done rfl ?_)) fun h3=>.skip (.done rfl ?_)))))) fun g3=>.skip (.done rfl ?_)
      ·show oA hm S=hm;rw[hsp,if_pos g3,if_pos (by rw[h2];simp)];rfl
      ·show oA hm S=hm;subst hq;rw[hsp,if_pos g3,if_pos (by rw[show(!q.2)=true from h3];simp)];rfl
      ·subst hq;intro m2 e;rw[e,hsp,if_pos g3,if_neg (by rw[h2,show(!q.2)=false from h3];simp)];rfl
      ·intro m2 e;rw[e,hsp,if_neg (by rw[g3];simp)];rfl
     ·cases x with
      |inl u=>exact .tidy rfl (.inl (.done rfl (show hm=oA hm S from hx.symm)))
      |inr h=>
       refine .skip ?_;have hspec:∀h2:aG,h2=Go.L.aG.mk t (Go.L.ah.mk r.N.IP 32) h.1 h.2.1 h.2.2.1 h.2.2.2.1 h.2.2.2.2→oA hm S=fP hm (sR r own sq h2):=fun h2 e=>by
        subst e;exact hx _ rfl
       refine .call _ hmob fun q hq=>.skip (.join (fun(x:Int)=>x=kI r own) ?_ fun x hx=>.skip (.join (fun(y:Int)=>y=kJ r) ?_ fun y hy=>.skip (.inl (.cV _ (vI n hn f own k cr us dm tn sb hm _) fun m hm2=>.tidy rfl (.inl (.done rfl ?_))))))
       ·refine .br (fun h=>.skip (.done rfl ?_)) fun h=>.skip (.done rfl ?_)
        ·unfold kI;rw[if_neg (by simpa using h)]
        ·unfold kI;rw[if_pos (by simpa using h)]
       ·refine .br (fun h=>.skip (.done rfl ?_)) fun h=>.skip (.done rfl ?_)
        ·unfold kJ;rw[if_pos (show uC r.N.aC=true from h)]
        ·unfold kJ;rw[if_neg (by rw[show uC r.N.aC=false from h];simp)]
       ·subst hx hy;rw[hm2,hq];exact(hspec _ rfl).symm
     ·have hspec:∀h2:aG,h2=Go.L.aG.mk t (Go.L.ah.mk r.N.IP 32) bd 0 0 r.N.bq 0→oA hm S=fP hm (sR r own sq h2):=fun h2 e=>by
       subst e;rw[hsp,if_neg (by rw[show(!b)=false from g2];simp)];rfl
      refine .call _ hmob fun q hq=>.skip (.join (fun(x:Int)=>x=kI r own) ?_ fun x hx=>.skip (.join (fun(y:Int)=>y=kJ r) ?_ fun y hy=>.skip (.inl (.cV _ (vI n hn f own k cr us dm tn sb hm _) fun m hm2=>.tidy rfl (.inl (.done rfl ?_))))))
      ·refine .br (fun h=>.skip (.done rfl ?_)) fun h=>.skip (.done rfl ?_)
       ·unfold kI;rw[if_neg (by simpa using h)]
       ·unfold kI;rw[if_pos (by simpa using h)]
      ·refine .br (fun h=>.skip (.done rfl ?_)) fun h=>.skip (.done rfl ?_)
       ·unfold kJ;rw[if_pos (show uC r.N.aC=true from h)]
       ·unfold kJ;rw[if_neg (by rw[show uC r.N.aC=false from h];simp)]
      ·subst hx hy;rw[hm2,hq];exact(hspec _ rfl).symm
   ·have hf:bt uU r.N.aC us 0=none:=by
     cases hf:bt uU r.N.aC us 0 with
     |none=>rfl
     |some z=>rw[hf]at hnone;cases hnone
    have hgl:getM gE r.N.aC us=none:=by unfold getM;rw[show bt gE r.N.aC us 0=none from hf];rfl
    have hin:=usd [] (by rw[hgl];rfl)
    refine .op () (by show(if(bt uU r.N.aC us 0).isSome then none else some ())=_;rw[hf];rfl) (.skip (.call _ (Bc n [] bd (by show 0<n;omega) (by decide)) fun(b:Bool) hb=>.skip (.op () (if_pos ⟨hb0,by rw[hk];exact hb1⟩) (.op cb hcb (.skip ?_)))))
    rw[← hb]at hin;simp only[hmine,hin,Bool.false_or]at hsp;refine .br (fun g=>.skip (.call _ hrt fun(q:Int×Bool) hq=>.skip (.br (fun h=>by rw[hmine]at h;cases h) fun _=>.skip (.br (fun h2=>.skip (.tidy rfl (.inl (.done rfl ?_)))) fun h2=>.skip (.br (fun h3=>.skip (.tidy rfl (.inl (.done rfl ?_)))) fun h3=>.skip ?_))))) fun g=>.skip ?_
    ·rw[hsp,if_pos (by rw[show(!cb)=true from g];rfl),if_pos (by rw[h2];simp)];rfl
    ·subst hq;rw[hsp,if_pos (by rw[show(!cb)=true from g];rfl),if_pos (by rw[show(!q.2)=true from h3];simp)];rfl
    ·subst hq;have hspec:∀h:aG,h=Go.L.aG.mk t (Go.L.ah.mk r.N.IP 32) (-1) r.A.Next r.N.dg 0 q.1→oA hm S=fP hm (sR r own sq h):=fun h e=>by
      subst e;rw[hsp,if_pos (by rw[show(!cb)=true from g];rfl),if_neg (by rw[h2,show(!q.2)=false from h3];simp)];rfl
     refine .call _ hmob fun q hq=>.skip (.join (fun(x:Int)=>x=kI r own) ?_ fun x hx=>.skip (.join (fun(y:Int)=>y=kJ r) ?_ fun y hy=>.skip (.inl (.cV _ (vI n hn f own k cr us dm tn sb hm _) fun m hm2=>.tidy rfl (.inl (.done rfl ?_))))))
     ·refine .br (fun h=>.skip (.done rfl ?_)) fun h=>.skip (.done rfl ?_)
      ·unfold kI;rw[if_neg (by simpa using h)]
      ·unfold kI;rw[if_pos (by simpa using h)]
     ·refine .br (fun h=>.skip (.done rfl ?_)) fun h=>.skip (.done rfl ?_)
      ·unfold kJ;rw[if_pos (show uC r.N.aC=true from h)]
      ·unfold kJ;rw[if_neg (by rw[show uC r.N.aC=false from h];simp)]
     ·subst hx hy;rw[hm2,hq];exact(hspec _ rfl).symm
    ·rw[show(!cb)=false from g,Bool.false_or]at hsp;refine .br (fun g2=>.skip (.join (fun(x:Unit⊕(Int×Int×Int×Int×Int))=>match x with
      | .inl _=>oA hm S=hm
      | .inr h=>∀m2,m2=fP hm (sR r own sq (Go.L.aG.mk t (Go.L.ah.mk r.N.IP 32) h.1 h.2.1 h.2.2.1 h.2.2.2.1 h.2.2.2.2))→oA hm S=m2) ?_ fun x hx=>?_)) fun g2=>.skip ?_
     ·rw[show(!b)=true from g2,Bool.true_and]at hsp;refine .br (fun g3=>.skip (.call _ hrt fun(q:Int×Bool) hq=>.skip (.br (fun h=>by rw[hmine]at h;cases h) fun _=>.skip (.br (fun h2=>.skip (.done rfl ?_)) fun h2=>.skip (.br (fun h3=>.skip (.done rfl ?_)) fun h3=>.skip (.done rfl ?_)))))) fun g3=>.skip (.done rfl ?_)
      ·show oA hm S=hm;rw[hsp,if_pos g3,if_pos (by rw[h2];simp)];rfl
      ·show oA hm S=hm;subst hq;rw[hsp,if_pos g3,if_pos (by rw[show(!q.2)=true from h3];simp)];rfl
      ·subst hq;intro m2 e;rw[e,hsp,if_pos g3,if_neg (by rw[h2,show(!q.2)=false from h3];simp)];rfl
      ·intro m2 e;rw[e,hsp,if_neg (by rw[g3];simp)];rfl
     ·cases x with
      |inl u=>exact .tidy rfl (.inl (.done rfl (show hm=oA hm S from hx.symm)))
      |inr h=>
       refine .skip ?_;have hspec:∀h2:aG,h2=Go.L.aG.mk t (Go.L.ah.mk r.N.IP 32) h.1 h.2.1 h.2.2.1 h.2.2.2.1 h.2.2.2.2→oA hm S=fP hm (sR r own sq h2):=fun h2 e=>by
        subst e;exact hx _ rfl
       refine .call _ hmob fun q hq=>.skip (.join (fun(x:Int)=>x=kI r own) ?_ fun x hx=>.skip (.join (fun(y:Int)=>y=kJ r) ?_ fun y hy=>.skip (.inl (.cV _ (vI n hn f own k cr us dm tn sb hm _) fun m hm2=>.tidy rfl (.inl (.done rfl ?_))))))
       ·refine .br (fun h=>.skip (.done rfl ?_)) fun h=>.skip (.done rfl ?_)
        ·unfold kI;rw[if_neg (by simpa using h)]
        ·unfold kI;rw[if_pos (by simpa using h)]
       ·refine .br (fun h=>.skip (.done rfl ?_)) fun h=>.skip (.done rfl ?_)
        ·unfold kJ;rw[if_pos (show uC r.N.aC=true from h)]
        ·unfold kJ;rw[if_neg (by rw[show uC r.N.aC=false from h];simp)]
       ·subst hx hy;rw[hm2,hq];exact(hspec _ rfl).symm
     ·have hspec:∀h2:aG,h2=Go.L.aG.mk t (Go.L.ah.mk r.N.IP 32) bd 0 0 r.N.bq 0→oA hm S=fP hm (sR r own sq h2):=fun h2 e=>by
       subst e;rw[hsp,if_neg (by rw[show(!b)=false from g2];simp)];rfl
      refine .call _ hmob fun q hq=>.skip (.join (fun(x:Int)=>x=kI r own) ?_ fun x hx=>.skip (.join (fun(y:Int)=>y=kJ r) ?_ fun y hy=>.skip (.inl (.cV _ (vI n hn f own k cr us dm tn sb hm _) fun m hm2=>.tidy rfl (.inl (.done rfl ?_))))))
      ·refine .br (fun h=>.skip (.done rfl ?_)) fun h=>.skip (.done rfl ?_)
       ·unfold kI;rw[if_neg (by simpa using h)]
       ·unfold kI;rw[if_pos (by simpa using h)]
      ·refine .br (fun h=>.skip (.done rfl ?_)) fun h=>.skip (.done rfl ?_)
       ·unfold kJ;rw[if_pos (show uC r.N.aC=true from h)]
       ·unfold kJ;rw[if_neg (by rw[show uC r.N.aC=false from h];simp)]
      ·subst hx hy;rw[hm2,hq];exact(hspec _ rfl).symm
end Go.L
end
section
namespace Go.L
open Go.AM
def rR(r:bF):Bool:=(r.N.Kind==2)&&r.N.eH
def iJ(f:au)(own:Int)(cr:List Bool)(us:List (cB Int×List Int))(dm tn:List (Int×Int))(sb:List (aa×Bool))(dQ:ah→Bool)(sq:Int)(rt:Int×Bool)(ts:List Int)(r:bF)(T:Int):List aj:=
 match getM cq T tn with
 |none=>[]
 |some t=>if rR r then(sU f own cr us dm t dQ sq rt ts r).toList else(yq own t sb rt r).toList
def pe(f:au)(own:Int)(cr:List Bool)(us:List (cB Int×List Int))(dm tn:List (Int×Int))(sb:List (aa×Bool))(dQ:ah→Bool)(sq:Int)(rt:Int×Bool)(ts:List Int)(r:bF):List aj:=
 if rR r||(r.N.Kind==5)then ts.flatMap (iJ f own cr us dm tn sb dQ sq rt ts r)else[]
theorem Il(hm:List (aa×aj))(o:Option aj):oA hm o=o.toList.foldl fP hm:=by cases o<;>rfl
theorem QX(n:Nat)(hn:11≤n)(f:au)(own:Int)(k:Nat)(cr:List Bool)(us:List (cB Int×List Int))(dm tn:List (Int×Int))(sb:List (aa×Bool))(hm:List (aa×aj))(ts:List Int)(r:bF)(dQ:ah→Bool)(sq:Int)(rt:Int×Bool)
 (htg:At (dB.S n r.A.bT) (fun(q:List Int)=>q=ts)) (hrt:At (dZ.S n r.A.bT) (fun(q:Int×Bool)=>q=rt)) (hmob:At (dP.S n r.A.bT) (fun(q:Bool×Int×Bool)=>q.2.1=sq))
 (hts:ts.length<100000) (htn:ts.length<n) (hdm:∀T bd,getM cq T dm=some bd→0≤bd∧bd<f.aI.length) (hcon:∀d∈f.aI,At (dL.S n (d.aJ,r.N.IP)) (fun(b:Bool)=>b=dQ d.aJ))
 (hk:k=f.aI.length) (hcr:cr.length=f.aI.length) (hus:∀e l,getM gE e us=some l→l.length<n∧l.length<100000):
 At (uV.c.S n (f,own,k,cr,us,dm,tn,sb,hm,r)) (fun m=>m=(pe f own cr us dm tn sb dQ sq rt ts r).foldl fP hm):=by
 refine(?_ :cF n (o9 f own k cr us dm tn sb hm r) _);unfold o9;have found:∀(T:Int) (x:Nat×Int),bt kT T tn 0=some x→getM cq T tn=some x.2:=fun T x h=>by unfold getM;rw[show bt cq T tn 0=some x from h];rfl
 have lost:∀(T:Int),bt kT T tn 0=none→getM cq T tn=none:=fun T h=>by unfold getM;rw[show bt cq T tn 0=none from h];rfl
 refine .skip (.br (fun k2=>.skip (.br (fun nip=>.skip (.br (fun k5=>.skip (.tidy rfl (.inl (.done rfl ?_)))) fun k5=>?_)) fun nip=>?_)) fun k2=>.skip (.br (fun k5=>.skip (.tidy rfl (.inl (.done rfl ?_)))) fun k5=>?_))
 ·have:pe f own cr us dm tn sb dQ sq rt ts r=[]:=by
   unfold pe rR;rw[show r.N.eH=false by simpa using nip]
   rw[if_neg];simp only[bne_iff_ne]at k5;simp[k5]
  rw[this];rfl
 ·simp only[beq_iff_eq]at k2;rw[k2]at k5;exact absurd k5 (by decide)
 ·have hip:r.N.eH=true:=by simpa using nip
  have hh:rR r=true:=by unfold rR;rw[k2,hip];rfl
  have hR:pe f own cr us dm tn sb dQ sq rt ts r=ts.flatMap (iJ f own cr us dm tn sb dQ sq rt ts r):=by unfold pe;rw[hh];rfl
  rw[hR];refine .skip (.call _ htg fun(q:List Int) hq=>?_)
  subst hq;refine .skip (.op () rfl (.skip (.loop (dI q fun pre m=>m=(pre.flatMap (iJ f own cr us dm tn sb dQ sq rt q r)).foldl fP hm) (fun a=>q.length - a.1.toNat) (fun m=>m=(q.flatMap (iJ f own cr us dm tn sb dQ sq rt q r)).foldl fP hm) rfl (dI.start rfl) (by simpa using htn) (fun a ha=>?_) (fun m hm2=>.tidy rfl (.inl (.done rfl hm2))))))
  refine .skip (.br (fun g=>?_) fun g=>.skip (.done rfl (ha.fin g)))
  obtain⟨T,pre,h1,h2,h3,_,h5⟩:=ha.get g;have next:∀m,m=(iJ f own cr us dm tn sb dQ sq rt q r T).foldl fP a.2→m=((pre++[T]).flatMap (iJ f own cr us dm tn sb dQ sq rt q r)).foldl fP hm:=fun m e=>by
   rw[e,List.flatMap_append,List.foldl_append,← h3];simp
  refine .skip (.op T h1 (.skip (.op () rfl (.skip ?_))));cases hf:bt kT T tn 0 with
  |none=>exact .br (fun _=>.skip (.done rfl (h5 hts _ (next _ (by unfold iJ;rw[lost T hf];rfl))))) fun e=>by cases e
  |some x=>
   refine .br (fun e=>by cases e) fun _=>.skip (.join (fun m=>m=oA a.2 (sU f own cr us dm x.2 dQ sq rt q r)) ?_ fun m e=>.skip (.done rfl (h5 hts _ (next _ ?_))))
   ·exact .br (fun _=>.skip (.inl (.cV _ (Sv n hn f own k cr us dm tn sb a.2 x.2 q r dQ sq rt hrt hmob hts htn hdm hcon hk hcr hus) fun m e=>.done rfl e))) fun e=>by rw[hip]at e;cases e
   ·rw[e,Il];unfold iJ;rw[found T x hf];simp only[hh,if_true]
 ·have:pe f own cr us dm tn sb dQ sq rt ts r=[]:=by
   unfold pe rR;rw[k2,if_neg];simp only[bne_iff_ne]at k5;simp[k5]
  rw[this];rfl
 ·have hk5:r.N.Kind=5:=by simpa using k5
  have hh:rR r=false:=by unfold rR;rw[k2];rfl
  have hR:pe f own cr us dm tn sb dQ sq rt ts r=ts.flatMap (iJ f own cr us dm tn sb dQ sq rt ts r):=by unfold pe;rw[hh,hk5];rfl
  rw[hR];refine .skip (.call _ htg fun(q:List Int) hq=>?_)
  subst hq;refine .skip (.op () rfl (.skip (.loop (dI q fun pre m=>m=(pre.flatMap (iJ f own cr us dm tn sb dQ sq rt q r)).foldl fP hm) (fun a=>q.length - a.1.toNat) (fun m=>m=(q.flatMap (iJ f own cr us dm tn sb dQ sq rt q r)).foldl fP hm) rfl (dI.start rfl) (by simpa using htn) (fun a ha=>?_) (fun m hm2=>.tidy rfl (.inl (.done rfl hm2))))))
  refine .skip (.br (fun g=>?_) fun g=>.skip (.done rfl (ha.fin g)))
  obtain⟨T,pre,h1,h2,h3,_,h5⟩:=ha.get g;have next:∀m,m=(iJ f own cr us dm tn sb dQ sq rt q r T).foldl fP a.2→m=((pre++[T]).flatMap (iJ f own cr us dm tn sb dQ sq rt q r)).foldl fP hm:=fun m e=>by
   rw[e,List.flatMap_append,List.foldl_append,← h3];simp
  refine .skip (.op T h1 (.skip (.op () rfl (.skip ?_))));cases hf:bt kT T tn 0 with
  |none=>exact .br (fun _=>.skip (.done rfl (h5 hts _ (next _ (by unfold iJ;rw[lost T hf];rfl))))) fun e=>by cases e
  |some x=>
   refine .br (fun e=>by cases e) fun _=>.skip (.inl (.cV _ (Pb n hn f own k cr us dm tn sb a.2 x.2 r rt hrt) fun m e=>.skip (.done rfl (h5 hts _ (next _ ?_)))))
   rw[e,Il];unfold iJ;rw[found T x hf];simp only[hh,Bool.false_eq_true,if_false]
end Go.L
end
section
namespace Go.L
open Go.AM
def kA(x:aG):aa:=⟨x.av,x.ah⟩
def nr(k:dH)(x:aG):aG:=Go.L.aG.mk k.To x.ah x.BD x.Next x.bL x.bq x.cW
theorem Fz(k:dH)(x:aG):kA (nr k x)=⟨k.To,x.ah⟩:=rfl
def bQ(aT:ah→ah→Bool)(k:dH)(s:List aG×List (aa×Bool))(x:aG):List aG×List (aa×Bool):=
 if x.av != k.From then s
 else if(getM aY ⟨k.To,x.ah⟩ s.2).getD false then s
 else if !aT k.ah x.ah then s
 else(s.1++[nr k x],cm aY ⟨k.To,x.ah⟩ true s.2)
def kU(own:List aG):List (aa×Bool):=own.foldl (fun m x=>cm aY (kA x) true m) []
def Gy(aT:ah→ah→Bool)(leaks:List dH)(own:List aG):List aG×List (aa×Bool):=leaks.foldl (fun s k=>own.foldl (bQ aT k) s) (own,kU own)
def lR(aT:ah→ah→Bool)(k:dH)(all:List aG)(x:aG):Bool:=(x.av==k.From)&& !(decide ((⟨k.To,x.ah⟩:aa)∈all.map kA))&&aT k.ah x.ah
def kK(aT:ah→ah→Bool)(own:List aG)(all:List aG)(k:dH):List aG:=all++(own.filter (lR aT k all)).map (nr k)
def Cu(aT:ah→ah→Bool)(leaks:List dH)(own:List aG):List aG:=leaks.foldl (kK aT own) own
def Tk(s:List aG×List (aa×Bool)):Prop:=∀p,(getM aY p s.2).getD false=decide (p∈s.1.map kA)
theorem Tk.add{s:List aG×List (aa×Bool)}(h:Tk s)(x:aG):Tk (s.1++[x],cm aY (kA x) true s.2):=by
 intro p;rw[wT Bb];by_cases hp:p=kA x
 ·rw[if_pos hp];simp[hp]
 ·rw[if_neg hp,h p];simp only[List.map_append,List.map_cons,List.map_nil,List.mem_append,List.mem_singleton,hp,or_false]
theorem QY(own:List aG):Tk (own,kU own):=by
 have:∀(l:List aG) (s:List aG×List (aa×Bool)),Tk s→Tk (s.1++l,l.foldl (fun m x=>cm aY (kA x) true m) s.2):=by
  intro l;induction l with
  |nil=>intro s h;simpa using h
  |cons x l ih=>
   intro s h;have:=ih _ (h.add x);simpa using this
 have h:=this own ([],[]) (fun p=>by simp[QU])
 simpa[kU]using h
theorem round_eq(aT:ah→ah→Bool)(k:dH):∀(own:List aG) (s:List aG×List (aa×Bool)),(own.map kA).Nodup→Tk s→(own.foldl (bQ aT k) s).1=kK aT own s.1 k∧Tk (own.foldl (bQ aT k) s)
 | [],s,_,h=>⟨by simp[kK],h⟩
 |x::xs,s,hn,h=>by
  simp only[List.map_cons,List.nodup_cons]at hn;simp only[List.foldl_cons];have hc:lR aT k s.1 x=true∨lR aT k s.1 x=false:=by cases lR aT k s.1 x<;>simp
  rcases hc with hc |hc
  ·have hx:bQ aT k s x=(s.1++[nr k x],cm aY ⟨k.To,x.ah⟩ true s.2):=by
    unfold lR at hc;simp only[Bool.and_eq_true,beq_iff_eq,Bool.not_eq_true',decide_eq_false_iff_not]at hc;unfold bQ;rw[if_neg (by simp[hc.1.1]),if_neg (by rw[h];simpa using hc.1.2),if_neg (by simp[hc.2])]
   rw[hx];obtain⟨i1,i2⟩:=round_eq aT k xs (s.1++[nr k x],cm aY ⟨k.To,x.ah⟩ true s.2) hn.2 (h.add (nr k x));refine⟨?_,i2⟩;rw[i1];unfold kK;have hfr:x.av=k.From:=by
    unfold lR at hc;simp only[Bool.and_eq_true,beq_iff_eq]at hc;exact hc.1.1
   have:xs.filter (lR aT k (s.1++[nr k x]))=xs.filter (lR aT k s.1):=by
    apply List.filter_congr;intro y hy;unfold lR;by_cases hyt:y.av=k.From
    ·have hne:(⟨k.To,y.ah⟩:aa)≠kA (nr k x):=by
      rw[Fz];intro e;have e2:y.ah=x.ah:=by injection e
      exact hn.1 (List.mem_map.2 ⟨y,hy,by unfold kA;rw[hyt,hfr,e2]⟩)
     simp only[List.map_append,List.map_cons,List.map_nil,List.mem_append,List.mem_singleton,hne,or_false]
    ·have hb:(y.av==k.From)=false:=by simpa using hyt
     simp only[hb,Bool.false_and]
   simp only[List.filter_cons,hc,if_true,List.map_cons,List.append_assoc,this,List.cons_append,List.nil_append]
  ·have hx:bQ aT k s x=s:=by
    unfold lR at hc;unfold bQ;by_cases h1:x.av=k.From
    ·rw[if_neg (by simp[h1])]
     by_cases h2:(⟨k.To,x.ah⟩:aa)∈s.1.map kA
     ·rw[if_pos (by rw[h];simpa using h2)]
     ·rw[if_neg (by rw[h];simpa using h2)]
      have h3:aT k.ah x.ah=false:=by simpa[h1,h2]using hc
      rw[if_pos (by rw[h3];rfl)]
    ·rw[if_pos (by simpa using h1)]
   rw[hx];obtain⟨i1,i2⟩:=round_eq aT k xs s hn.2 h;refine⟨?_,i2⟩;rw[i1];unfold kK;simp only[List.filter_cons,hc,Bool.false_eq_true,if_false]
theorem Ky(aT:ah→ah→Bool)(leaks:List dH)(own:List aG)(hn:(own.map kA).Nodup):(Gy aT leaks own).1=Cu aT leaks own:=by
 have:∀(ls:List dH) (s:List aG×List (aa×Bool)),Tk s→(ls.foldl (fun s k=>own.foldl (bQ aT k) s) s).1=ls.foldl (kK aT own) s.1:=by
  intro ls;induction ls with
  |nil=>intro s _;rfl
  |cons k ls ih=>
   intro s h;obtain⟨h1,h2⟩:=round_eq aT k own s hn h;simp only[List.foldl_cons];rw[ih _ h2,h1]
 exact this leaks _ (QY own)
theorem NB(aT:ah→ah→Bool){own own' all all':List aG}(h1:own.Perm own')(h2:all.Perm all')(k:dH):(kK aT own all k).Perm (kK aT own' all' k):=by
 unfold kK;have:lR aT k all=lR aT k all':=funext fun x=>by
  unfold lR;have:(⟨k.To,x.ah⟩:aa)∈all.map kA↔(⟨k.To,x.ah⟩:aa)∈all'.map kA:=(h2.map kA).mem_iff;simp only[this]
 rw[this];exact h2.append ((h1.filter _).map _)
theorem NC(aT:ah→ah→Bool)(leaks:List dH){own own':List aG}(h:own.Perm own'):(Cu aT leaks own).Perm (Cu aT leaks own'):=by
 have:∀(ls:List dH) (a a':List aG),a.Perm a'→(ls.foldl (kK aT own) a).Perm (ls.foldl (kK aT own') a'):=by
  intro ls;induction ls with
  |nil=>intro a a' h;exact h
  |cons k ls ih=>intro a a' ha;exact ih _ _ (NB aT h ha k)
 exact this leaks own own' h
theorem LB(aT:ah→ah→Bool){own all:List aG}(h1:(own.map kA).Nodup)(h2:(all.map kA).Nodup)(k:dH):((kK aT own all k).map kA).Nodup:=by
 unfold kK;rw[List.map_append,List.nodup_append];refine⟨h2,?_,fun p hp q hq=>?_⟩
 ·have hsub:((own.filter (lR aT k all)).map kA).Nodup:=(List.filter_sublist.map kA).nodup h1;have hfrom:∀x∈own.filter (lR aT k all),x.av=k.From:=fun x hx=>by
   have:=(List.mem_filter.1 hx).2;unfold lR at this;simp only[Bool.and_eq_true,beq_iff_eq]at this;exact this.1.1
  generalize own.filter (lR aT k all)=l at hsub hfrom;induction l with
  |nil=>exact List.nodup_nil
  |cons x l ih=>
   simp only[List.map_cons,List.nodup_cons]at hsub ⊢;refine⟨fun hx=>?_,ih hsub.2 fun y hy=>hfrom y (List.mem_cons_of_mem _ hy)⟩
   obtain⟨y',hy',he⟩:=List.mem_map.1 hx;obtain⟨y,hy,rfl⟩:=List.mem_map.1 hy';rw[Fz,Fz]at he;have e2:y.ah=x.ah:=by injection he
   exact hsub.1 (List.mem_map.2 ⟨y,hy,by unfold kA;rw[hfrom y (List.mem_cons_of_mem _ hy),hfrom x List.mem_cons_self,e2]⟩)
 ·rintro rfl;obtain⟨y',hy',rfl⟩:=List.mem_map.1 hq;obtain⟨y,hy,rfl⟩:=List.mem_map.1 hy';have:=(List.mem_filter.1 hy).2;unfold lR at this;simp only[Bool.and_eq_true,Bool.not_eq_true',decide_eq_false_iff_not]at this;exact this.1.2 hp
theorem LC(aT:ah→ah→Bool)(leaks:List dH){own:List aG}(h:(own.map kA).Nodup):((Cu aT leaks own).map kA).Nodup:=by
 have:∀(ls:List dH) (a:List aG),(a.map kA).Nodup→((ls.foldl (kK aT own) a).map kA).Nodup:=by
  intro ls;induction ls with
  |nil=>intro a h;exact h
  |cons k ls ih=>intro a ha;exact ih _ (LB aT h ha k)
 exact this leaks own h
end Go.L
end
section
namespace Go.L
open Go.AM
theorem Be{K V:Type}{eq:K→K→Bool}(heq:∀a b,eq a b=true↔a=b)(l:List (K×V))(k:K)(v:V)(h:getM eq k (jH eq l)=some v):(k,v)∈l:=by
 have hd:∀(a b:K),Decidable (a=b):=fun a b=>decidable_of_iff _ (heq a b)
 have:∀(l:List (K×V)) (m:List (K×V)),getM eq k (l.foldl (fun m p=>cm eq p.1 p.2 m) m)=some v→(k,v)∈l∨getM eq k m=some v:=by
  intro l;induction l with
  |nil=>exact fun m h=>.inr h
  |cons p l ih=>
   intro m h;rcases ih _ h with h |h
   ·exact .inl (List.mem_cons_of_mem _ h)
   ·rw[wT heq]at h;split at h
    ·rename_i he;cases h;exact .inl (by rw[he];exact List.mem_cons_self)
    ·exact .inr h
 rcases this l [] h with h |h
 ·exact h
 ·cases h
theorem AE{α β:Type}{g:Nat→α→List β}{l:List α}{y:β}(h:y∈gQ g l):∃i x,l[i]? =some x∧y∈g i x:=by
 unfold gQ at h;obtain⟨p,hp,hy⟩:=List.mem_flatMap.1 h;exact⟨p.2,p.1,List.mem_zipIdx_iff_getElem?.1 hp,hy⟩
theorem Uq(a b:Int):cq a b=true↔a=b:=by unfold cq;simp
theorem UR(a b:cB Int):gE a b=true↔a=b:=by
 unfold gE;simp only[Bool.and_eq_true,beq_iff_eq,and_true];constructor
 ·rintro⟨h0,h1,h2,h3,h4,h5,h6,h7,h8,h9⟩;cases a;cases b;simp only at h0 h1 h2 h3 h4 h5 h6 h7 h8 h9;subst h0 h1 h2 h3 h4 h5 h6 h7 h8 h9;rfl
 ·rintro rfl;exact⟨rfl,rfl,rfl,rfl,rfl,rfl,rfl,rfl,rfl,rfl⟩
def zV(f:au)(self:Int):List Bool:=(List.range f.aI.length).map fun b=>decide (((b:Nat):Int)∈f.az.flatMap (zR self))
def KA(f:au)(self:Int)(up:List Bool)(es:Int→cB Int):List (cB Int×List Int):=jH gE (gQ (xU self up es) f.az)
def Mk(f:au):List (Int×Int):=jH cq (gQ (fun i d=>[(d.Target,(i:Int))]) f.aI)
def Pd(f:au):List (Int×Int):=jH cq (gQ (fun i t=>[(t.Target,(i:Int))]) f.aA)
def RP(f:au)(self:Int):List (aa×Bool):=(xB f (zV f self)).foldl Er []
structure mR where
 lo:Int
 es:Int→cB Int
 dQ:ah→Int→Bool
 aT:ah→ah→Bool
 tg:bF→List Int
 rt:bF→Int×Bool
 sq:bF→Int
def Es(f:au)(self:Int)(up:List Bool)(K:mR)(r:bF):List aj:=
 pe f K.lo (zV f self) (KA f self up K.es) (Mk f) (Pd f) (RP f self) (fun p=>K.dQ p r.N.IP) (K.sq r) (K.rt r) (K.tg r) r
def jI(f:au)(self:Int)(up:List Bool)(K:mR)(rs:List bF):List aj:=xB f (zV f self)++rs.flatMap (Es f self up K)
def vK(f:au)(self:Int)(up:List Bool)(K:mR)(rs:List bF):List (aa×aj):=(jI f self up K rs).foldl fP []
def oB(hm:List (aa×aj)):List aG:=hm.map fun e=>e.2.aG
theorem Tm(f:au)(T bd:Int)(h:getM cq T (Mk f)=some bd):0≤bd∧bd<f.aI.length:=by
 obtain⟨i,x,h1,h2⟩:=AE (Be Uq _ _ _ h);simp only[List.mem_singleton,Prod.mk.injEq]at h2;have:=(List.getElem?_eq_some_iff.1 h1).1;omega
theorem Tn(f:au)(self:Int)(up:List Bool)(es:Int→cB Int)(e:cB Int)(l:List Int)(h:getM gE e (KA f self up es)=some l):∃s∈f.az,l=s.aI:=by
 obtain⟨i,x,h1,h2⟩:=AE (Be UR _ _ _ h);unfold xU at h2;split at h2
 ·simp only[List.mem_singleton,Prod.mk.injEq]at h2;exact⟨x,List.mem_of_getElem? h1,h2.2⟩
 ·cases h2
theorem Ny.T6{f:au}{self:Int}{up:List Bool}{es:Int→cB Int}{lo:Int}{r:List Bool×List (cB Int×List Int)×List (Int×Int)×List (Int×Int)×List (aa×Bool)×List (aa×aj)×au×Int×Nat}(h:Ny f self up es lo r):r.1=zV f self:=by
 apply List.ext_getElem?;intro b;unfold zV;by_cases hb:b<f.aI.length
 ·rw[h.cr b hb];simp[hb]
 ·rw[List.getElem?_eq_none (by rw[h.UQ];omega),List.getElem?_eq_none (by simp;omega)]
def xC(hm:List (aa×aj)):Prop:=(hm.map (·.1)).Nodup∧∀e∈hm,e.1=tT e.2
theorem xC.put{hm:List (aa×aj)}(h:xC hm)(x:aj):xC (fP hm x):=by
 refine⟨(Gv h.1 x).1,fun e he=>?_⟩
 unfold fP at he;have key:∀e∈cm aY (tT x) x hm,e.1=tT e.2:=fun e he=>by
  obtain⟨p,y⟩:=e;rcases(Tl Bb hm (tT x) x h.1 p y).1 he with⟨rfl,rfl⟩ |⟨_,h2⟩
  ·rfl
  ·exact h.2 _ h2
 split at he
 ·exact key e he
 ·split at he
  ·exact key e he
  ·exact h.2 e he
theorem xC.fold{hm:List (aa×aj)}(h:xC hm):∀(cs:List aj),xC (cs.foldl fP hm)
 | []=>h
 |x::cs=>(h.put x).fold cs
theorem DI:∀(cs:List aj) (hm:List (aa×aj)),(hm.map (·.1)).Nodup→(cs.foldl fP hm).length≤hm.length+cs.length
 | [],hm,_=>Nat.le_refl _
 |x::cs,hm,h=>by
  have h1:=Gv h x;have h2:=DI cs (fP hm x) h1.1;simp only[List.foldl_cons,List.length_cons];omega
theorem Et(f:au)(self:Int)(up:List Bool)(K:mR)(rs:List bF):xC (vK f self up K rs):=xC.fold (hm:=[]) ⟨List.nodup_nil,fun _ h=>by cases h⟩ _
theorem GA{hm:List (aa×aj)}(h:xC hm):((oB hm).map kA).Nodup:=by
 have:(oB hm).map kA=hm.map (·.1):=by
  unfold oB;rw[List.map_map];apply List.map_congr_left;intro e he;exact(h.2 e he).symm
 rw[this];exact h.1
def UB:aG:=Go.L.aG.mk 0 (Go.L.ah.mk 0 0) 0 0 0 0 0
def KB(hm:List (aa×aj))(i:Nat):aG:=((hm[i]?).map fun e=>e.2.aG).getD UB
theorem ND(hm:List (aa×aj)):(List.range hm.length).map (KB hm)=oB hm:=by
 apply List.ext_getElem
 ·simp[oB]
 ·intro i h1 h2;have h:i<hm.length:=by simpa using h1
  simp[KB,oB,h]
end Go.L
end
section
namespace Go.L
open Go.AM
structure DJ(n:Nat)(f:au)(leaf:Int)(up:List Bool)(rs:List bF)(K:mR)(srt:List aG→List aG):Prop where
 hn:11≤n
 ck:At (fB.S n f) (fun(r:Int×ByteArray×Int)=>r.1=0)
 h0:0≤leaf
 h1:leaf<f.Leaves
 lo:At (iS.S n (f,leaf)) (fun r=>r=K.lo)
 seg:Gx n f
 es:∀i:Nat,i<f.az.length→At (ko.S n (i:Int)) (fun(r:cB Int×Int)=>r.1=K.es i)
 rl:rs.length<100000
 rn:rs.length<n
 tg:∀r∈rs,At (dB.S n r.A.bT) (fun(q:List Int)=>q=K.tg r)
 rt:∀r∈rs,At (dZ.S n r.A.bT) (fun(q:Int×Bool)=>q=K.rt r)
 sq:∀r∈rs,At (dP.S n r.A.bT) (fun(q:Bool×Int×Bool)=>q.2.1=K.sq r)
 tl:∀r∈rs,(K.tg r).length<100000∧(K.tg r).length<n
 dQ:∀r∈rs,∀d∈f.aI,At (dL.S n (d.aJ,r.N.IP)) (fun(b:Bool)=>b=K.dQ d.aJ r.N.IP)
 aT:∀k∈f.Leaks,∀p,At (l8.S n (k.ah,p)) (fun(b:Bool)=>b=K.aT k.ah p)
 kl:f.Leaks.length<100000
 kn:f.Leaks.length<n
 cs:(jI f leaf up K rs).length<90000
 sz:((jI f leaf up K rs).length+1)*(f.Leaks.length+2)<1000000000
 cn:(jI f leaf up K rs).length+1<n
 so:∀l:List aG,l.length<1000000000→At (lH.S n l) (fun r=>r=srt l)
 sl:∀l:List aG,(srt l).length=l.length
theorem Pe(aT:ah→ah→Bool)(k:dH)(s:List aG×List (aa×Bool))(x:aG):(bQ aT k s x).1.length≤s.1.length+1∧∃e,(bQ aT k s x).1=s.1++e:=by
 unfold bQ;split
 ·exact⟨Nat.le_succ _,[],by simp⟩
 split
 ·exact⟨Nat.le_succ _,[],by simp⟩
 split
 ·exact⟨Nat.le_succ _,[],by simp⟩
 ·exact⟨by simp,[nr k x],rfl⟩
theorem mS(aT:ah→ah→Bool)(k:dH):∀(p:List aG) (s:List aG×List (aa×Bool)),(p.foldl (bQ aT k) s).1.length≤s.1.length+p.length∧∃e,(p.foldl (bQ aT k) s).1=s.1++e
 | [],s=>⟨Nat.le_refl _,[],by simp⟩
 |x::p,s=>by
  obtain⟨h1,e1,h2⟩:=Pe aT k s x;obtain⟨h3,e3,h4⟩:=mS aT k p (bQ aT k s x);simp only[List.foldl_cons,List.length_cons];exact⟨by omega,e1++e3,by rw[h4,h2,List.append_assoc]⟩
def fK(aT:ah→ah→Bool)(own:List aG)(pre:List dH):List aG×List (aa×Bool):=pre.foldl (fun s k=>own.foldl (bQ aT k) s) (own,kU own)
theorem rT(aT:ah→ah→Bool)(own:List aG):∀(pre:List dH) (s:List aG×List (aa×Bool)),(pre.foldl (fun s k=>own.foldl (bQ aT k) s) s).1.length≤s.1.length+pre.length*own.length∧∃e,(pre.foldl (fun s k=>own.foldl (bQ aT k) s) s).1=s.1++e
 | [],s=>⟨by simp,[],by simp⟩
 |k::pre,s=>by
  obtain⟨h1,e1,h2⟩:=mS aT k own s;obtain⟨h3,e3,h4⟩:=rT aT own pre (own.foldl (bQ aT k) s);simp only[List.foldl_cons,List.length_cons];refine⟨?_,e1++e3,by rw[h4,h2,List.append_assoc]⟩
  rw[Nat.add_mul];omega
abbrev E0:=List (aa×Bool)
def qT:(Int×List aG×E0)⊕(Int×List aG×List aG×E0)→Int×(List aG×E0)
 | .inl a=>(a.1,a.2.1,a.2.2)
 | .inr a=>(a.1,a.2.2.1,a.2.2.2)
def Cz:(Int×List aG×E0)⊕(Int×List aG×List aG×E0)→List aG
 | .inl a=>a.2.1
 | .inr a=>a.2.1
def Eu:(List aG×E0)⊕(List aG×List aG×E0)→List aG×E0
 | .inl a=>a
 | .inr a=>a.2
def Ew:(List aG×E0)⊕(List aG×List aG×E0)→List aG
 | .inl a=>a.1
 | .inr a=>a.1
def Pre(own l:List aG):Prop:=∃e,l=own++e
theorem Pre.get{own l:List aG}(h:Pre own l){i:Nat}{x:aG}(hx:own[i]? =some x):l[i]? =some x:=by
 obtain⟨e,rfl⟩:=h;rw[List.getElem?_append_left (List.getElem?_eq_some_iff.1 hx).1];exact hx
theorem Pre.snoc{own l:List aG}(h:Pre own l)(x:aG):Pre own (l++[x]):=by
 obtain⟨e,rfl⟩:=h;exact⟨e++[x],by rw[List.append_assoc]⟩
theorem QZ(n:Nat)(f:au)(leaf:Int)(up:List Bool)(rs:List bF)(K:mR)(srt:List aG→List aG)(H:DJ n f leaf up rs K srt):
 dG n (pn f leaf up rs) (fun r=>∃own:List aG,own.Perm (oB (vK f leaf up K rs))∧r=srt (Gy K.aT f.Leaks own).1):=by
 unfold pn;have hn0:0<n:=by have:=H.hn;omega
 have hnew:At (rQ.c.S n (f,leaf,up)) (fun r=>r=(zV f leaf,KA f leaf up K.es,Mk f,Pd f,[],[],f,K.lo,f.aI.length)):=
  (I3 n f leaf K.lo up K.es H.lo H.seg H.es).mono fun r h=>by
   have h1:=h.T6;obtain⟨a1,a2,a3,a4,a5,a6,a7,a8,a9⟩:=r;have:=h.us;have:=h.dm;have:=h.tn;have:=h.sb;have:=h.hm;have:=h.fb;have:=h.own;have:=h.len;simp only at*
   subst_vars;rfl
 have hcrl:(zV f leaf).length=f.aI.length:=by simp[zV]
 refine .skip (.call _ H.ck fun r5 h5=>.skip (.br (fun h=>by rw[h5]at h;cases h) fun _=>.skip (.br (fun h=>absurd H.h0 (by simpa using h)) fun _=>.skip (.br (fun h=>absurd H.h1 (by simpa using h)) fun _=>.skip (.inl (.cV _ hnew fun r9 h9=>?_))))))
 subst h9;refine .skip (.inl (.cV _ (Kx n H.hn f K.lo _ _ _ _ _ _ _ H.seg.b H.seg.bn rfl hcrl) fun r10 h10=>?_))
 subst h10;have hdm:=Tm f;have hus:∀e l,getM gE e (KA f leaf up K.es)=some l→l.length<n∧l.length<100000:=fun e l h=>by
  obtain⟨s,hs,rfl⟩:=Tn f leaf up K.es e l h;obtain⟨_,_,q3,q4,_⟩:=H.seg.s s hs;exact⟨q3,q4⟩
 refine .skip (.op () rfl (.skip (.loop (dI rs fun pre m=>m=(pre.flatMap (Es f leaf up K)).foldl fP ((xB f (zV f leaf)).foldl fP [])) (fun a=>rs.length - a.1.toNat) (fun m=>m=vK f leaf up K rs) rfl (dI.start rfl) (by simpa using H.rn) (fun a ha=>?_) (fun t26 h26=>?_))))
 ·refine .skip (.br (fun g=>?_) fun g=>.skip (.done rfl ?_))
  ·obtain⟨r,pre,g1,g2,g3,_,g5⟩:=ha.get g;obtain⟨l1,l2⟩:=H.tl r g2;refine .skip (.op r g1 (.skip (.inl (.cV _ (QX n H.hn f K.lo _ _ _ _ _ _ a.2 (K.tg r) r (fun p=>K.dQ p r.N.IP) (K.sq r) (K.rt r) (H.tg r g2) (H.rt r g2) (H.sq r g2) l1 l2 hdm (H.dQ r g2) rfl hcrl hus) fun m hm=>.skip (.done rfl (g5 H.rl _ ?_))))))
   rw[hm,g3,List.flatMap_append,List.foldl_append,List.flatMap_cons,List.flatMap_nil,List.append_nil];rfl
  ·have:=ha.fin g;show a.2=vK f leaf up K rs;rw[this];unfold vK jI;rw[List.foldl_append]
 subst h26;generalize hhm:vK f leaf up K rs=hm;have hkey:xC hm:=hhm▸Et f leaf up K rs;have hlen:hm.length≤(jI f leaf up K rs).length:=by
  rw[← hhm];unfold vK;simpa using DI (jI f leaf up K rs) [] (by simp)
 have hsz:=H.sz;have hcn:=H.cn;have hcs:=H.cs;have hsm:hm.length<90000:=by omega
 have hroom:roomy (Int.toNat (((List.length hm):Nat):Int)) 56=true:=by
  simp only[roomy,Bool.and_eq_true,decide_eq_true_eq,Int.toNat_natCast];omega
 refine .skip (.inl (.skip (.op () rfl (.op () (if_pos ⟨Int.natCast_nonneg _,hroom⟩) (.skip (.op () rfl (.skip ?_)))))));refine .loop (fun a=>a.2.2.Nodup∧(∀i∈a.2.2,i<hm.length)∧a.1=a.2.2.map (KB hm)∧a.2.1=kU a.1) (fun a=>hm.length - a.2.2.length) (fun t=>t.1.Perm (oB hm)∧t.2.1=kU t.1) rfl ⟨List.nodup_nil,(fun i (h:i∈([]:List Nat))=>(List.not_mem_nil h).elim),rfl,rfl⟩ (by show hm.length - 0<n;omega) (fun a ha=>?_) (fun t42 h42=>?_)
 ·obtain⟨hnd,hlt,hk,htk⟩:=ha;refine .pick (fun hall=>.skip (.done rfl ⟨?_,htk⟩)) (fun i hi hns=>?_)
  ·show a.1.Perm _;rw[hk,← ND];exact(Pc hnd hlt hall).map _
  ·have hi':i<hm.length:=hi;have hl2:a.2.2.length<hm.length:=by
    have h1:(a.2.2++[i]).Nodup:=by
     rw[List.nodup_append];exact⟨hnd,by simp,fun x hx y hy=>by simp only[List.mem_singleton]at hy;subst hy;rintro rfl;exact hns hx⟩
    have h2:(a.2.2++[i]).length≤hm.length:=by
     have:=List.Nodup.length_le_of_subset h1 (l₂:=List.range hm.length) (fun x hx=>by
      rcases List.mem_append.1 hx with h |h
      ·exact List.mem_range.2 (hlt x h)
      ·simp only[List.mem_singleton]at h;subst h;exact List.mem_range.2 hi')
     simpa using this
    simp at h2;omega
   have hal:a.1.length=a.2.2.length:=by rw[hk];simp
   have r1:roomy (a.1.length+[(hm[i]'hi').2.aG].length) 56=true:=by
    simp only[roomy,Bool.and_eq_true,decide_eq_true_eq,List.length_singleton];omega
   have r2:(a.2.2++[i]).Nodup:=by
    rw[List.nodup_append];exact⟨hnd,by simp,fun x hx y hy=>by simp only[List.mem_singleton]at hy;subst hy;rintro rfl;exact hns hx⟩
   have r3:∀x∈a.2.2++[i],x<hm.length:=fun x hx=>by
    rcases List.mem_append.1 hx with h |h
    ·exact hlt x h
    ·simp only[List.mem_singleton]at h;subst h;exact hi'
   have r4:a.1++[(hm[i]'hi').2.aG]=(a.2.2++[i]).map (KB hm):=by
    rw[List.map_append,← hk];simp[KB,hi']
   have r5:cm aY (hm[i]'hi').1 true a.2.1=kU (a.1++[(hm[i]'hi').2.aG]):=by
    rw[htk,hkey.2 _ (List.getElem_mem hi')];simp[kU,kA,tT]
   have r6:hm.length - (a.2.2++[i]).length<hm.length - a.2.2.length:=by simp;omega
   exact .skip (.op (hm[i]'hi') (List.getElem?_eq_getElem hi') (.skip (.op () (if_pos ⟨rfl,r1⟩) (.skip (.op () rfl (.done rfl ⟨⟨r2,r3,r4,r5⟩,r6⟩))))))
 obtain⟨own,tk,seen⟩:=t42;obtain⟨hperm,htk⟩:=h42;simp only at hperm htk;subst htk;have hol:own.length=hm.length:=by rw[hperm.length_eq];simp[oB]
 have hkl:=H.kl;have bound:∀(a b:Nat),a≤f.Leaks.length→b≤own.length→own.length+a*own.length+b<1000000000:=fun a b h1 h2=>by
  have h3:a*own.length≤f.Leaks.length*own.length:=Nat.mul_le_mul_right _ h1;have h4:((jI f leaf up K rs).length+1)*(f.Leaks.length+2)=f.Leaks.length*((jI f leaf up K rs).length+1)+2*((jI f leaf up K rs).length+1):=by rw[Nat.mul_comm,Nat.add_mul]
  have h5:f.Leaks.length*own.length≤f.Leaks.length*((jI f leaf up K rs).length+1):=Nat.mul_le_mul_left _ (by omega)
  omega
 refine .skip (.op () rfl (.skip (.nq (fun a=>dI f.Leaks (fun pre s=>s=fK K.aT own pre) (qT a)∧Pre own (Cz a)) (fun a=>f.Leaks.length - (qT a).1.toNat) (fun l=>l=(Gy K.aT f.Leaks own).1) rfl ⟨dI.start rfl,[],(List.append_nil _).symm⟩ (by have:=H.kn;show f.Leaks.length - 0<n;omega) (fun a ha=>?_) (fun t80 h80=>?_))))
 ·have hol9:own.length<100000:=by omega
  cases a with
  |inl a=>
   obtain⟨ha,hbase⟩:=ha;refine .skip (.br (fun g=>?_) fun g=>.skip (.done rfl (congrArg Prod.fst (ha.fin g))))
   obtain⟨k,pre,g1,g2,g3,⟨gi,gpost,hgp⟩,g5⟩:=ha.get g;have g3:(a.2.1,a.2.2)=fK K.aT own pre:=g3;have hprl:pre.length≤f.Leaks.length:=by
    have:=congrArg List.length hgp;simp only[List.length_append,List.length_cons]at this;omega
   refine .skip (.op k g1 (.skip (.nq (fun a2=>dI own (fun p s=>s=p.foldl (bQ K.aT k) (fK K.aT own pre)) (qT a2)∧Pre own (Cz a2)) (fun a2=>own.length - (qT a2).1.toNat) (fun e=>Eu e=own.foldl (bQ K.aT k) (fK K.aT own pre)∧Pre own (Ew e)) rfl ⟨dI.start g3,hbase⟩ (by show own.length - 0<n;omega) (fun a2 ha2=>?_) (fun e he=>?_))))
   ·cases a2 with
    |inl b=>
     refine .skip (.br (fun c=>?_) fun c=>.skip (.done rfl ⟨ha2.1.fin c,ha2.2⟩))
     obtain⟨x,p,c1,c2,c3,⟨ci,cpost,hcp⟩,c5⟩:=ha2.1.get c;have ci:b.1=((p.length:Nat):Int):=ci;have hpl:p.length<own.length:=by
      have:=congrArg List.length hcp;simp only[List.length_append,List.length_cons]at this;omega
     have hxi:own[b.1.toNat]? =some x:=by
      have c1:gv own b.1=some x:=c1;rw[ci,bN]at c1;rw[ci];exact c1
     have hx1:=ha2.2.get hxi;have c3:(b.2.1,b.2.2)=p.foldl (bQ K.aT k) (fK K.aT own pre):=c3;have hbound:(b.2.1).length<1000000000:=by
      have b1:=(mS K.aT k p (fK K.aT own pre)).1;have b2:=(rT K.aT own pre (own,kU own)).1;have b3:=bound pre.length p.length hprl (by omega)
      rw[← c3]at b1;have b2:(fK K.aT own pre).1.length≤own.length+pre.length*own.length:=b2;simp only at b1;omega
     have hroom1:roomy ((b.2.1).length+1) 56=true:=by
      simp only[roomy,Bool.and_eq_true,decide_eq_true_eq];omega
     have step:∀s',s'=bQ K.aT k (b.2.1,b.2.2) x→s'=(p++[x]).foldl (bQ K.aT k) (fK K.aT own pre):=fun s' e=>by
      rw[e,c3,List.foldl_append];rfl
     have hi0:0≤b.1∧b.1<((own.length:Nat):Int):=by omega
     have keep:bQ K.aT k (b.2.1,b.2.2) x=(b.2.1,b.2.2)→_:=fun e=>(⟨⟨(c5 hol9 _ (step _ e.symm)).1,ha2.2⟩,(c5 hol9 _ (step _ e.symm)).2⟩:o6 (fun a2=>dI own (fun p s=>s=p.foldl (bQ K.aT k) (fK K.aT own pre)) (qT a2)∧Pre own (Cz a2)) (fun a2=>own.length - (qT a2).1.toNat) (fun e=>Eu e=own.foldl (bQ K.aT k) (fK K.aT own pre)∧Pre own (Ew e)) (.inl b) (.inl (.inl (IntKind.wrap .i64 (b.1+1),b.2.1,b.2.2))))
     refine .skip (.op () (if_pos hi0) (.op x hx1 (.skip (.br (fun d1=>.skip (.done rfl (keep (by unfold bQ;rw[if_pos d1])))) fun d1=>.skip (.op () rfl (.skip (.br (fun d2=>.skip (.done rfl (keep ?_))) fun d2=>.skip (.call _ (H.aT k g2 x.ah) fun(r68:Bool) h68=>.skip (.br (fun d3=>.skip (.done rfl (keep ?_))) fun d3=>.skip (.op () rfl (.skip ?_)))))))))))
     ·have d2:(getM aY ⟨k.To,x.ah⟩ b.2.2).getD false=true:=d2;unfold bQ;rw[if_neg (by rw[d1];simp),if_pos d2]
     ·have d2:(getM aY ⟨k.To,x.ah⟩ b.2.2).getD false=false:=d2;unfold bQ;rw[if_neg (by rw[d1];simp),if_neg (by rw[d2];simp),if_pos (by rw[← h68];exact d3)]
     have d2:(getM aY ⟨k.To,x.ah⟩ b.2.2).getD false=false:=d2;have e:bQ K.aT k (b.2.1,b.2.2) x=(b.2.1++[nr k x],cm aY ⟨k.To,x.ah⟩ true b.2.2):=by
      unfold bQ;rw[if_neg (by rw[d1];simp),if_neg (by rw[d2];simp),if_neg (by rw[← h68,d3];simp)]
     have hok:GK.ok {l:=b.2.1,m:=[nr k x],enc:=cO,n:=8,bytes:=56,b:=7,ak:=0,len:=List.length b.2.1}=true:=by
      show(decide ((b.2.1).length=(b.2.1).length)&&roomy ((b.2.1).length+1) 56)=true;rw[hroom1];simp
     refine .grow hok (.skip (.done rfl ⟨⟨(c5 hol9 _ (step _ e.symm)).1,ha2.2.snoc _⟩,(c5 hol9 _ (step _ e.symm)).2⟩)) (.skip (.done rfl ⟨⟨(c5 hol9 _ (step _ e.symm)).1,ha2.2⟩,(c5 hol9 _ (step _ e.symm)).2⟩))
    |inr b=>
     refine .skip (.br (fun c=>?_) fun c=>.skip (.done rfl ⟨ha2.1.fin c,ha2.2⟩))
     obtain⟨x,p,c1,c2,c3,⟨ci,cpost,hcp⟩,c5⟩:=ha2.1.get c;have ci:b.1=((p.length:Nat):Int):=ci;have hpl:p.length<own.length:=by
      have:=congrArg List.length hcp;simp only[List.length_append,List.length_cons]at this;omega
     have hxi:own[b.1.toNat]? =some x:=by
      have c1:gv own b.1=some x:=c1;rw[ci,bN]at c1;rw[ci];exact c1
     have hx1:=ha2.2.get hxi;have c3:(b.2.2.1,b.2.2.2)=p.foldl (bQ K.aT k) (fK K.aT own pre):=c3;have hbound:(b.2.2.1).length<1000000000:=by
      have b1:=(mS K.aT k p (fK K.aT own pre)).1;have b2:=(rT K.aT own pre (own,kU own)).1;have b3:=bound pre.length p.length hprl (by omega)
      rw[← c3]at b1;have b2:(fK K.aT own pre).1.length≤own.length+pre.length*own.length:=b2;simp only at b1;omega
     have hroom1:roomy ((b.2.2.1).length+1) 56=true:=by
      simp only[roomy,Bool.and_eq_true,decide_eq_true_eq];omega
     have step:∀s',s'=bQ K.aT k (b.2.2.1,b.2.2.2) x→s'=(p++[x]).foldl (bQ K.aT k) (fK K.aT own pre):=fun s' e=>by
      rw[e,c3,List.foldl_append];rfl
     have hi0:0≤b.1∧b.1<((own.length:Nat):Int):=by omega
     have keep:bQ K.aT k (b.2.2.1,b.2.2.2) x=(b.2.2.1,b.2.2.2)→_:=fun e=>(⟨⟨(c5 hol9 _ (step _ e.symm)).1,ha2.2⟩,(c5 hol9 _ (step _ e.symm)).2⟩:o6 (fun a2=>dI own (fun p s=>s=p.foldl (bQ K.aT k) (fK K.aT own pre)) (qT a2)∧Pre own (Cz a2)) (fun a2=>own.length - (qT a2).1.toNat) (fun e=>Eu e=own.foldl (bQ K.aT k) (fK K.aT own pre)∧Pre own (Ew e)) (.inr b) (.inl (.inr (IntKind.wrap .i64 (b.1+1),b.2.1,b.2.2.1,b.2.2.2))))
     refine .skip (.op () (if_pos hi0) (.op x hx1 (.skip (.br (fun d1=>.skip (.done rfl (keep (by unfold bQ;rw[if_pos d1])))) fun d1=>.skip (.op () rfl (.skip (.br (fun d2=>.skip (.done rfl (keep ?_))) fun d2=>.skip (.call _ (H.aT k g2 x.ah) fun(r68:Bool) h68=>.skip (.br (fun d3=>.skip (.done rfl (keep ?_))) fun d3=>.skip (.op () rfl (.skip ?_)))))))))))
     ·have d2:(getM aY ⟨k.To,x.ah⟩ b.2.2.2).getD false=true:=d2;unfold bQ;rw[if_neg (by rw[d1];simp),if_pos d2]
     ·have d2:(getM aY ⟨k.To,x.ah⟩ b.2.2.2).getD false=false:=d2;unfold bQ;rw[if_neg (by rw[d1];simp),if_neg (by rw[d2];simp),if_pos (by rw[← h68];exact d3)]
     have d2:(getM aY ⟨k.To,x.ah⟩ b.2.2.2).getD false=false:=d2;have e:bQ K.aT k (b.2.2.1,b.2.2.2) x=(b.2.2.1++[nr k x],cm aY ⟨k.To,x.ah⟩ true b.2.2.2):=by
      unfold bQ;rw[if_neg (by rw[d1];simp),if_neg (by rw[d2];simp),if_neg (by rw[← h68,d3];simp)]
     refine .op () (if_pos ⟨rfl,hroom1⟩) (.skip (.done rfl ⟨⟨(c5 hol9 _ (step _ e.symm)).1,ha2.2⟩,(c5 hol9 _ (step _ e.symm)).2⟩))
   ·have hP:∀s',s'=own.foldl (bQ K.aT k) (fK K.aT own pre)→s'=fK K.aT own (pre++[k]):=fun s' e=>by rw[e];unfold fK;rw[List.foldl_append];rfl
    cases e with
    |inl t=>exact .skip (.done rfl ⟨⟨(g5 hkl _ (hP _ he.1)).1,he.2⟩,(g5 hkl _ (hP _ he.1)).2⟩)
    |inr t=>exact .skip (.done rfl ⟨⟨(g5 hkl _ (hP _ he.1)).1,he.2⟩,(g5 hkl _ (hP _ he.1)).2⟩)
  |inr a=>
   obtain⟨ha,hbase⟩:=ha;refine .skip (.br (fun g=>?_) fun g=>.skip (.done rfl (congrArg Prod.fst (ha.fin g))))
   obtain⟨k,pre,g1,g2,g3,⟨gi,gpost,hgp⟩,g5⟩:=ha.get g;have g3:(a.2.2.1,a.2.2.2)=fK K.aT own pre:=g3;have hprl:pre.length≤f.Leaks.length:=by
    have:=congrArg List.length hgp;simp only[List.length_append,List.length_cons]at this;omega
   refine .skip (.op k g1 (.skip (.nq (fun a2=>dI own (fun p s=>s=p.foldl (bQ K.aT k) (fK K.aT own pre)) (qT a2)∧Pre own (Cz a2)) (fun a2=>own.length - (qT a2).1.toNat) (fun e=>Eu e=own.foldl (bQ K.aT k) (fK K.aT own pre)∧Pre own (Ew e)) rfl ⟨dI.start g3,hbase⟩ (by show own.length - 0<n;omega) (fun a2 ha2=>?_) (fun e he=>?_))))
   ·cases a2 with
    |inl b=>
     refine .skip (.br (fun c=>?_) fun c=>.skip (.done rfl ⟨ha2.1.fin c,ha2.2⟩))
     obtain⟨x,p,c1,c2,c3,⟨ci,cpost,hcp⟩,c5⟩:=ha2.1.get c;have ci:b.1=((p.length:Nat):Int):=ci;have hpl:p.length<own.length:=by
      have:=congrArg List.length hcp;simp only[List.length_append,List.length_cons]at this;omega
     have hxi:own[b.1.toNat]? =some x:=by
      have c1:gv own b.1=some x:=c1;rw[ci,bN]at c1;rw[ci];exact c1
     have hx1:=ha2.2.get hxi;have c3:(b.2.1,b.2.2)=p.foldl (bQ K.aT k) (fK K.aT own pre):=c3;have hbound:(b.2.1).length<1000000000:=by
      have b1:=(mS K.aT k p (fK K.aT own pre)).1;have b2:=(rT K.aT own pre (own,kU own)).1;have b3:=bound pre.length p.length hprl (by omega)
      rw[← c3]at b1;have b2:(fK K.aT own pre).1.length≤own.length+pre.length*own.length:=b2;simp only at b1;omega
     have hroom1:roomy ((b.2.1).length+1) 56=true:=by
      simp only[roomy,Bool.and_eq_true,decide_eq_true_eq];omega
     have step:∀s',s'=bQ K.aT k (b.2.1,b.2.2) x→s'=(p++[x]).foldl (bQ K.aT k) (fK K.aT own pre):=fun s' e=>by
      rw[e,c3,List.foldl_append];rfl
     have hi0:0≤b.1∧b.1<((own.length:Nat):Int):=by omega
     have keep:bQ K.aT k (b.2.1,b.2.2) x=(b.2.1,b.2.2)→_:=fun e=>(⟨⟨(c5 hol9 _ (step _ e.symm)).1,ha2.2⟩,(c5 hol9 _ (step _ e.symm)).2⟩:o6 (fun a2=>dI own (fun p s=>s=p.foldl (bQ K.aT k) (fK K.aT own pre)) (qT a2)∧Pre own (Cz a2)) (fun a2=>own.length - (qT a2).1.toNat) (fun e=>Eu e=own.foldl (bQ K.aT k) (fK K.aT own pre)∧Pre own (Ew e)) (.inl b) (.inl (.inl (IntKind.wrap .i64 (b.1+1),b.2.1,b.2.2))))
     refine .skip (.op () (if_pos hi0) (.op x hx1 (.skip (.br (fun d1=>.skip (.done rfl (keep (by unfold bQ;rw[if_pos d1])))) fun d1=>.skip (.op () rfl (.skip (.br (fun d2=>.skip (.done rfl (keep ?_))) fun d2=>.skip (.call _ (H.aT k g2 x.ah) fun(r68:Bool) h68=>.skip (.br (fun d3=>.skip (.done rfl (keep ?_))) fun d3=>.skip (.op () rfl (.skip ?_)))))))))))
     ·have d2:(getM aY ⟨k.To,x.ah⟩ b.2.2).getD false=true:=d2;unfold bQ;rw[if_neg (by rw[d1];simp),if_pos d2]
     ·have d2:(getM aY ⟨k.To,x.ah⟩ b.2.2).getD false=false:=d2;unfold bQ;rw[if_neg (by rw[d1];simp),if_neg (by rw[d2];simp),if_pos (by rw[← h68];exact d3)]
     have d2:(getM aY ⟨k.To,x.ah⟩ b.2.2).getD false=false:=d2;have e:bQ K.aT k (b.2.1,b.2.2) x=(b.2.1++[nr k x],cm aY ⟨k.To,x.ah⟩ true b.2.2):=by
      unfold bQ;rw[if_neg (by rw[d1];simp),if_neg (by rw[d2];simp),if_neg (by rw[← h68,d3];simp)]
     have hok:GK.ok {l:=b.2.1,m:=[nr k x],enc:=cO,n:=8,bytes:=56,b:=7,ak:=0,len:=List.length b.2.1}=true:=by
      show(decide ((b.2.1).length=(b.2.1).length)&&roomy ((b.2.1).length+1) 56)=true;rw[hroom1];simp
     refine .grow hok (.skip (.done rfl ⟨⟨(c5 hol9 _ (step _ e.symm)).1,ha2.2.snoc _⟩,(c5 hol9 _ (step _ e.symm)).2⟩)) (.skip (.done rfl ⟨⟨(c5 hol9 _ (step _ e.symm)).1,ha2.2⟩,(c5 hol9 _ (step _ e.symm)).2⟩))
    |inr b=>
     refine .skip (.br (fun c=>?_) fun c=>.skip (.done rfl ⟨ha2.1.fin c,ha2.2⟩))
     obtain⟨x,p,c1,c2,c3,⟨ci,cpost,hcp⟩,c5⟩:=ha2.1.get c;have ci:b.1=((p.length:Nat):Int):=ci;have hpl:p.length<own.length:=by
      have:=congrArg List.length hcp;simp only[List.length_append,List.length_cons]at this;omega
     have hxi:own[b.1.toNat]? =some x:=by
      have c1:gv own b.1=some x:=c1;rw[ci,bN]at c1;rw[ci];exact c1
     have hx1:=ha2.2.get hxi;have c3:(b.2.2.1,b.2.2.2)=p.foldl (bQ K.aT k) (fK K.aT own pre):=c3;have hbound:(b.2.2.1).length<1000000000:=by
      have b1:=(mS K.aT k p (fK K.aT own pre)).1;have b2:=(rT K.aT own pre (own,kU own)).1;have b3:=bound pre.length p.length hprl (by omega)
      rw[← c3]at b1;have b2:(fK K.aT own pre).1.length≤own.length+pre.length*own.length:=b2;simp only at b1;omega
     have hroom1:roomy ((b.2.2.1).length+1) 56=true:=by
      simp only[roomy,Bool.and_eq_true,decide_eq_true_eq];omega
     have step:∀s',s'=bQ K.aT k (b.2.2.1,b.2.2.2) x→s'=(p++[x]).foldl (bQ K.aT k) (fK K.aT own pre):=fun s' e=>by
      rw[e,c3,List.foldl_append];rfl
     have hi0:0≤b.1∧b.1<((own.length:Nat):Int):=by omega
     have keep:bQ K.aT k (b.2.2.1,b.2.2.2) x=(b.2.2.1,b.2.2.2)→_:=fun e=>(⟨⟨(c5 hol9 _ (step _ e.symm)).1,ha2.2⟩,(c5 hol9 _ (step _ e.symm)).2⟩:o6 (fun a2=>dI own (fun p s=>s=p.foldl (bQ K.aT k) (fK K.aT own pre)) (qT a2)∧Pre own (Cz a2)) (fun a2=>own.length - (qT a2).1.toNat) (fun e=>Eu e=own.foldl (bQ K.aT k) (fK K.aT own pre)∧Pre own (Ew e)) (.inr b) (.inl (.inr (IntKind.wrap .i64 (b.1+1),b.2.1,b.2.2.1,b.2.2.2))))
     refine .skip (.op () (if_pos hi0) (.op x hx1 (.skip (.br (fun d1=>.skip (.done rfl (keep (by unfold bQ;rw[if_pos d1])))) fun d1=>.skip (.op () rfl (.skip (.br (fun d2=>.skip (.done rfl (keep ?_))) fun d2=>.skip (.call _ (H.aT k g2 x.ah) fun(r68:Bool) h68=>.skip (.br (fun d3=>.skip (.done rfl (keep ?_))) fun d3=>.skip (.op () rfl (.skip ?_)))))))))))
     ·have d2:(getM aY ⟨k.To,x.ah⟩ b.2.2.2).getD false=true:=d2;unfold bQ;rw[if_neg (by rw[d1];simp),if_pos d2]
     ·have d2:(getM aY ⟨k.To,x.ah⟩ b.2.2.2).getD false=false:=d2;unfold bQ;rw[if_neg (by rw[d1];simp),if_neg (by rw[d2];simp),if_pos (by rw[← h68];exact d3)]
     have d2:(getM aY ⟨k.To,x.ah⟩ b.2.2.2).getD false=false:=d2;have e:bQ K.aT k (b.2.2.1,b.2.2.2) x=(b.2.2.1++[nr k x],cm aY ⟨k.To,x.ah⟩ true b.2.2.2):=by
      unfold bQ;rw[if_neg (by rw[d1];simp),if_neg (by rw[d2];simp),if_neg (by rw[← h68,d3];simp)]
     refine .op () (if_pos ⟨rfl,hroom1⟩) (.skip (.done rfl ⟨⟨(c5 hol9 _ (step _ e.symm)).1,ha2.2⟩,(c5 hol9 _ (step _ e.symm)).2⟩))
   ·have hP:∀s',s'=own.foldl (bQ K.aT k) (fK K.aT own pre)→s'=fK K.aT own (pre++[k]):=fun s' e=>by rw[e];unfold fK;rw[List.foldl_append];rfl
    cases e with
    |inl t=>exact .skip (.done rfl ⟨⟨(g5 hkl _ (hP _ he.1)).1,he.2⟩,(g5 hkl _ (hP _ he.1)).2⟩)
    |inr t=>exact .skip (.done rfl ⟨⟨(g5 hkl _ (hP _ he.1)).1,he.2⟩,(g5 hkl _ (hP _ he.1)).2⟩)
 ·subst h80;have hll:(Gy K.aT f.Leaks own).1.length<1000000000:=by
   have h1:=(rT K.aT own f.Leaks (own,kU own)).1;have h2:=bound f.Leaks.length 0 (Nat.le_refl _) (Nat.zero_le _);show(f.Leaks.foldl (fun s k=>own.foldl (bQ K.aT k) s) (own,kU own)).1.length<1000000000
   simp only at h1;omega
  refine .skip (.tidy rfl (.inl (.skip (.bw _ (H.so _ hll) fun r75 h75=>.skip (.done ?_ ⟨own,hperm,h75⟩)))))
  simp only[aO,k6,Bool.and_true];subst h75;exact decide_eq_true (by rw[List.length_map];exact(H.sl _).symm)
end Go.L
end
section
namespace Go.L
open Go.AM
theorem LD{a b:aG}(h:iY a=iY b):kA a=kA b:=by
 unfold iY at h;simp only[List.cons.injEq,and_true]at h;obtain⟨h1,h2,h3⟩:=h;unfold kA;have:a.ah=b.ah:=by
  cases ha:a.ah;cases hb:b.ah;rw[ha,hb]at h2 h3;simp only at h2 h3;rw[h2,h3]
 rw[h1,this]
theorem Im{α β:Type}{g:α→β}:∀{l:List α},(l.map g).Nodup→∀{a b:α},a∈l→b∈l→g a=g b→a=b
 |x::l,hn,a,b,ha,hb,h=>by
  simp only[List.map_cons,List.nodup_cons]at hn;rcases List.mem_cons.1 ha with e1 |ha2<;>rcases List.mem_cons.1 hb with e2 |hb2
  ·rw[e1,e2]
  ·exact absurd (List.mem_map.2 ⟨b,hb2,by rw[← h,e1]⟩) hn.1
  ·exact absurd (List.mem_map.2 ⟨a,ha2,by rw[h,e2]⟩) hn.1
  ·exact Im hn.2 ha2 hb2 h
theorem NF{l l':List aG}(h:l.Perm l')(hn:(l.map kA).Nodup):iu l=iu l':=by
 refine List.Perm.eq_of_pairwise (le:=fun a b=>¬Ba b a) (fun a b ha hb h1 h2=>?_) (jO l).2 (jO l').2 ((jO l).1.trans (h.trans (jO l').1.symm))
 have ha:=(jO l).1.mem_iff.1 ha;have hb:=h.mem_iff.2 ((jO l').1.mem_iff.1 hb);refine Im hn ha hb (LD ?_);unfold Ba tw at h1 h2;rw[rM]at h1;exact(rL (show(iY a).length=(iY b).length from rfl)).1 (by omega)
noncomputable def Kc(n:Nat)(f:au)(leaf:Int):mR where
 lo:=(iS.S n (f,leaf)).getD (0:Int)
 es:=fun i=>((ko.S n i).getD ((Nw,(0:Int)):cB Int×Int)).1
 dQ:=fun p ip=>(dL.S n (p,ip)).getD false
 aT:=fun p q=>(l8.S n (p,q)).getD false
 tg:=fun r=>(dB.S n r.A.bT).getD ([]:List Int)
 rt:=fun r=>(dZ.S n r.A.bT).getD ((0,false):Int×Bool)
 sq:=fun r=>((dP.S n r.A.bT).getD ((false,0,false):Bool×Int×Bool)).2.1
noncomputable def yU(f:au)(leaf:Int)(up:List Bool)(rs:List bF)(K:mR):List aG:=iu (Cu K.aT f.Leaks (oB (vK f leaf up K rs)))
def KC(n:Nat)(f:au)(leaf:Int):Prop:=At (fB.S n f) (fun(r:Int×ByteArray×Int)=>r.1≠0∨leaf<0∨f.Leaves≤leaf)
open Classical in
noncomputable def Jn(n:Nat)(x:au×Int×List Bool×List bF):Option (List aG):=
 if DJ n x.1 x.2.1 x.2.2.1 x.2.2.2 (Kc n x.1 x.2.1) iu then some (yU x.1 x.2.1 x.2.2.1 x.2.2.2 (Kc n x.1 x.2.1))
 else if KC n x.1 x.2.1 then some []else none
theorem Q0(n:Nat)(f:au)(leaf:Int)(up:List Bool)(rs:List bF)(K:mR)(H:DJ n f leaf up rs K iu):dG n (pn f leaf up rs) (fun r=>r=yU f leaf up rs K):=
 G.dy n _ (fun r ⟨own,h1,h2⟩=>by
  have hn:=GA (Et f leaf up K rs);have hn2:(own.map kA).Nodup:=(h1.map kA).nodup_iff.2 hn;rw[h2,Ky _ _ _ hn2];exact NF (NC _ _ h1) (LC _ _ hn2)) (QZ n f leaf up rs K iu H)
theorem Pf(n:Nat)(f:au)(leaf:Int)(up:List Bool)(rs:List bF)(H:KC n f leaf):dG n (pn f leaf up rs) (fun(r:List aG)=>r=[]):=by
 unfold pn;refine .skip (.call _ H fun r5 h5=>.skip (.br (fun h=>.skip (.done rfl rfl)) fun g0=>.skip (.br (fun h=>.skip (.done rfl rfl)) fun g1=>.skip (.br (fun h=>.skip (.done rfl rfl)) fun g2=>?_))))
 simp only[bne_eq_false_iff_eq]at g0;simp only[decide_eq_false_iff_not]at g1 g2;rcases h5 with h5 |h5 |h5
 ·exact absurd g0 h5
 ·exact absurd h5 g1
 ·exact absurd h5 g2
noncomputable def pq:aD prog:=Kz.all Jn fun n x r h=>by
 unfold Jn at h;split at h
 ·rename_i H;cases h;exact⟨n,G.dy n _ (fun y hy=>by rw[hy]) (Q0 n x.1 x.2.1 x.2.2.1 x.2.2.2 _ H)⟩
 ·split at h
  ·rename_i H;cases h;exact⟨n,G.dy n _ (fun y hy=>by rw[hy]) (Pf n x.1 x.2.1 x.2.2.1 x.2.2.2 H)⟩
  ·cases h
theorem Ml(n:Nat)(f:au)(leaf:Int)(up:List Bool)(rs:List bF)(H:DJ n f leaf up rs (Kc n f leaf) iu):At (pq.S n (f,leaf,up,rs)) (fun(r:List aG)=>r=yU f leaf up rs (Kc n f leaf)):=
 ⟨_,if_pos H,rfl⟩
end Go.L
end
