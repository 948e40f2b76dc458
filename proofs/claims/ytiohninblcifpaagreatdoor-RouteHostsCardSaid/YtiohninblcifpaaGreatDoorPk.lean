/- Parts put together. No conditions. -/
import Derived.Test.YtiohninblcifpaaGreatDoorWh
import Derived.Test.YtiohninblcifpaaGreatDoorPa
import Derived.Test.YtiohninblcifpaaGreatDoorPb
set_option linter.unusedSimpArgs false
set_option linter.unusedVariables false
set_option maxRecDepth 100000
section
namespace Go.L
open Go.AM
theorem FF(n:Nat)(a b:Int):At (qf.S n (a,b)) (fun(r:Int)=>r=cT a b):=by
 refine(?_ :cD n (qe a b) _);unfold qe;have e:∀x:Int,At (kZ.S n x) (fun(r:Bool)=>r=false):=fun x=>⟨x != x,rfl,by simp⟩
 refine .skip (.call _ (e a) fun r3 h3=>.skip (.call _ (e b) fun r4 h4=>.skip (.br (fun h=>by rw[h3]at h;cases h) fun _=>.skip (.br (fun h=>by rw[h4]at h;cases h) fun _=>.skip (.br (fun h=>.skip (.done rfl ?_)) fun h=>.skip (.br (fun h2=>.skip (.done rfl ?_)) fun h2=>.skip (.done rfl ?_)))))))
 all_goals (simp only[decide_eq_true_eq,decide_eq_false_iff_not]at*;unfold cT)
 ·rw[if_pos h]
 ·rw[if_neg h,if_pos h2]
 ·rw[if_neg h,if_neg h2]
theorem Qr(n:Nat)(a b:Int):At (yp.S n (a,b)) (fun(r:Int)=>r=cT a b):=by
 refine(?_ :cD n (tv a b) _);unfold tv;have e:∀x:Int,At (vu.S n x) (fun(r:Bool)=>r=false):=fun x=>⟨x != x,rfl,by simp⟩
 refine .skip (.call _ (e a) fun r3 h3=>.skip (.call _ (e b) fun r4 h4=>.skip (.br (fun h=>by rw[h3]at h;cases h) fun _=>.skip (.br (fun h=>by rw[h4]at h;cases h) fun _=>.skip (.br (fun h=>.skip (.done rfl ?_)) fun h=>.skip (.br (fun h2=>.skip (.done rfl ?_)) fun h2=>.skip (.done rfl ?_)))))))
 all_goals (simp only[decide_eq_true_eq,decide_eq_false_iff_not]at*;unfold cT)
 ·rw[if_pos h]
 ·rw[if_neg h,if_pos h2]
 ·rw[if_neg h,if_neg h2]
theorem Me(n:Nat)(a b:Int):At (vt.S n (a,b)) (fun(r:Int)=>r=cT a b):=by
 refine(?_ :cD n (qd a b) _);unfold qd;have e:∀x:Int,At (rS.S n x) (fun(r:Bool)=>r=false):=fun x=>⟨x != x,rfl,by simp⟩
 refine .skip (.call _ (e a) fun r3 h3=>.skip (.call _ (e b) fun r4 h4=>.skip (.br (fun h=>by rw[h3]at h;cases h) fun _=>.skip (.br (fun h=>by rw[h4]at h;cases h) fun _=>.skip (.br (fun h=>.skip (.done rfl ?_)) fun h=>.skip (.br (fun h2=>.skip (.done rfl ?_)) fun h2=>.skip (.done rfl ?_)))))))
 all_goals (simp only[decide_eq_true_eq,decide_eq_false_iff_not]at*;unfold cT)
 ·rw[if_pos h]
 ·rw[if_neg h,if_pos h2]
 ·rw[if_neg h,if_neg h2]
theorem oy(n:Nat)(a b:Int):At (ep.S n (a,b)) (fun(r:Int)=>r=cT a b):=by
 refine(?_ :cD n (rT a b) _);unfold rT;have e:∀x:Int,At (uw.S n x) (fun(r:Bool)=>r=false):=fun x=>⟨x != x,rfl,by simp⟩
 refine .skip (.call _ (e a) fun r3 h3=>.skip (.call _ (e b) fun r4 h4=>.skip (.br (fun h=>by rw[h3]at h;cases h) fun _=>.skip (.br (fun h=>by rw[h4]at h;cases h) fun _=>.skip (.br (fun h=>.skip (.done rfl ?_)) fun h=>.skip (.br (fun h2=>.skip (.done rfl ?_)) fun h2=>.skip (.done rfl ?_)))))))
 all_goals (simp only[decide_eq_true_eq,decide_eq_false_iff_not]at*;unfold cT)
 ·rw[if_pos h]
 ·rw[if_neg h,if_pos h2]
 ·rw[if_neg h,if_neg h2]
def qS(x:cF Int):List Int:=[x.a0,x.a1,x.a2,x.a3,x.a4,x.a5,x.a6,x.a7,x.a8,x.a9]
theorem Ri(n:Nat)(x y:cF Int):At (yo.S n (x,y)) (fun(r:Int)=>r=ey (qS x) (qS y)):=by
 refine(?_ :cD n (tu x y) _);unfold tu;refine .skip (.call (fun r=>r=(x.a0,x.a1,x.a2,x.a3,x.a4,x.a5,x.a6,x.a7,x.a8,x.a9)) ⟨_,rfl,rfl⟩ fun r3 h3=>?_)
 subst h3;refine .inl (.skip (.gm (.skip ?_)));refine .inl (.skip (.call _ (oy n _ _) fun q0 hq0=>.skip (.br (fun h=>?_) fun h0=>?_)))
 ·refine .skip (.tidy rfl (.skip (.tidy rfl (.inl (.done rfl ?_)))));subst hq0;have hne:cT x.a0 y.a0≠0:=by simpa using h
  simp only[qS,ey,if_true,if_neg hne]
 have e0:cT x.a0 y.a0=0:=by subst hq0;simpa using h0
 refine .skip (.tidy rfl (.skip ?_));refine .inl (.skip (.call _ (oy n _ _) fun q1 hq1=>.skip (.br (fun h=>?_) fun h1=>?_)))
 ·refine .skip (.tidy rfl (.skip (.tidy rfl (.inl (.done rfl ?_)))));subst hq1;have hne:cT x.a1 y.a1≠0:=by simpa using h
  simp only[qS,ey,e0,if_true,if_neg hne]
 have e1:cT x.a1 y.a1=0:=by subst hq1;simpa using h1
 refine .skip (.tidy rfl (.skip ?_));refine .inl (.skip (.call _ (oy n _ _) fun q2 hq2=>.skip (.br (fun h=>?_) fun h2=>?_)))
 ·refine .skip (.tidy rfl (.skip (.tidy rfl (.inl (.done rfl ?_)))));subst hq2;have hne:cT x.a2 y.a2≠0:=by simpa using h
  simp only[qS,ey,e0,e1,if_true,if_neg hne]
 have e2:cT x.a2 y.a2=0:=by subst hq2;simpa using h2
 refine .skip (.tidy rfl (.skip ?_));refine .inl (.skip (.call _ (oy n _ _) fun q3 hq3=>.skip (.br (fun h=>?_) fun h3=>?_)))
 ·refine .skip (.tidy rfl (.skip (.tidy rfl (.inl (.done rfl ?_)))));subst hq3;have hne:cT x.a3 y.a3≠0:=by simpa using h
  simp only[qS,ey,e0,e1,e2,if_true,if_neg hne]
 have e3:cT x.a3 y.a3=0:=by subst hq3;simpa using h3
 refine .skip (.tidy rfl (.skip ?_));refine .inl (.skip (.call _ (oy n _ _) fun q4 hq4=>.skip (.br (fun h=>?_) fun h4=>?_)))
 ·refine .skip (.tidy rfl (.skip (.tidy rfl (.inl (.done rfl ?_)))));subst hq4;have hne:cT x.a4 y.a4≠0:=by simpa using h
  simp only[qS,ey,e0,e1,e2,e3,if_true,if_neg hne]
 have e4:cT x.a4 y.a4=0:=by subst hq4;simpa using h4
 refine .skip (.tidy rfl (.skip ?_));refine .inl (.skip (.call _ (oy n _ _) fun q5 hq5=>.skip (.br (fun h=>?_) fun h5=>?_)))
 ·refine .skip (.tidy rfl (.skip (.tidy rfl (.inl (.done rfl ?_)))));subst hq5;have hne:cT x.a5 y.a5≠0:=by simpa using h
  simp only[qS,ey,e0,e1,e2,e3,e4,if_true,if_neg hne]
 have e5:cT x.a5 y.a5=0:=by subst hq5;simpa using h5
 refine .skip (.tidy rfl (.skip ?_));refine .inl (.skip (.call _ (oy n _ _) fun q6 hq6=>.skip (.br (fun h=>?_) fun h6=>?_)))
 ·refine .skip (.tidy rfl (.skip (.tidy rfl (.inl (.done rfl ?_)))));subst hq6;have hne:cT x.a6 y.a6≠0:=by simpa using h
  simp only[qS,ey,e0,e1,e2,e3,e4,e5,if_true,if_neg hne]
 have e6:cT x.a6 y.a6=0:=by subst hq6;simpa using h6
 refine .skip (.tidy rfl (.skip ?_));refine .inl (.skip (.call _ (oy n _ _) fun q7 hq7=>.skip (.br (fun h=>?_) fun h7=>?_)))
 ·refine .skip (.tidy rfl (.skip (.tidy rfl (.inl (.done rfl ?_)))));subst hq7;have hne:cT x.a7 y.a7≠0:=by simpa using h
  simp only[qS,ey,e0,e1,e2,e3,e4,e5,e6,if_true,if_neg hne]
 have e7:cT x.a7 y.a7=0:=by subst hq7;simpa using h7
 refine .skip (.tidy rfl (.skip ?_));refine .inl (.skip (.call _ (oy n _ _) fun q8 hq8=>.skip (.br (fun h=>?_) fun h8=>?_)))
 ·refine .skip (.tidy rfl (.skip (.tidy rfl (.inl (.done rfl ?_)))));subst hq8;have hne:cT x.a8 y.a8≠0:=by simpa using h
  simp only[qS,ey,e0,e1,e2,e3,e4,e5,e6,e7,if_true,if_neg hne]
 have e8:cT x.a8 y.a8=0:=by subst hq8;simpa using h8
 refine .skip (.tidy rfl (.skip ?_));refine .inl (.skip (.call _ (oy n _ _) fun q9 hq9=>.skip (.br (fun h=>?_) fun h9=>?_)))
 ·refine .skip (.tidy rfl (.skip (.tidy rfl (.inl (.done rfl ?_)))));subst hq9;have hne:cT x.a9 y.a9≠0:=by simpa using h
  simp only[qS,ey,e0,e1,e2,e3,e4,e5,e6,e7,e8,if_true,if_neg hne]
 have e9:cT x.a9 y.a9=0:=by subst hq9;simpa using h9
 refine .skip (.tidy rfl (.skip (.tidy rfl (.inl (.skip (.done rfl ?_))))));simp only[qS,ey,e0,e1,e2,e3,e4,e5,e6,e7,e8,e9,if_true]
def Mf:cF Int:=⟨0,0,0,0,0,0,0,0,0,0⟩
def EP(x:ia):ia:=
 if x.Kind=5 then Go.L.ia.mk x.Kind x.RD Mf x.Tag x.aS x.IP x.eO x.af 0 0 0
 else if x.Kind=2 then Go.L.ia.mk x.Kind x.RD Mf x.Tag x.aS x.IP x.eO x.af x.aM 0 0
 else Go.L.ia.mk x.Kind x.RD x.aI x.Tag x.aS x.IP x.eO x.af x.aM 0 0
theorem NF(n:Nat)(x:ia):At (BS.S n x) (fun(r:ia)=>r=EP x):=by
 refine(?_ :cD n (BR x) _);unfold BR EP;refine .skip (.br (fun h=>.skip (.done rfl ?_)) fun h=>.skip (.br (fun h2=>.skip (.done rfl ?_)) fun h2=>.skip (.done rfl ?_)))
 all_goals (simp only[beq_iff_eq,beq_eq_false_iff_ne]at*)
 ·rw[if_pos h];rfl
 ·rw[if_neg h,if_pos h2];rfl
 ·rw[if_neg h,if_neg h2]
theorem O9(n:Nat)(x y:Bool):At (CW.S n (x,y)) (fun(r:Int)=>r=cT (Jl x) (Jl y)):=by cases x<;>cases y<;>exact⟨_,rfl,rfl⟩
def z8(k:ia):List Int:=[k.Kind,k.RD]++(qS k.aI++[k.Tag,k.aS,Jl k.eO,k.IP,k.af.IP,k.af.Len,k.aM])
def Mg(x y:ia):Int:=ey (z8 (EP x)) (z8 (EP y))
theorem xd:∀{a a':List Int} (b b':List Int),a.length=a'.length→ey (a++b) (a'++b')=if ey a a'=0 then ey b b' else ey a a'
 | [],[],b,b',_=>by simp[ey]
 |x::a,y::a',b,b',h=>by
  simp only[List.cons_append,ey,xd b b' (Nat.succ.inj h)];split
  ·rfl
  ·rfl
theorem Qs(k k':ia):ey (z8 k) (z8 k')=qb [cT k.Kind k'.Kind,cT k.RD k'.RD,ey (qS k.aI) (qS k'.aI),cT k.Tag k'.Tag,cT k.aS k'.aS,cT (Jl k.eO) (Jl k'.eO),cT k.IP k'.IP,cT k.af.IP k'.af.IP,cT k.af.Len k'.af.Len,cT k.aM k'.aM]:=by
 unfold z8;rw[xd (a:=[k.Kind,k.RD]) (a':=[k'.Kind,k'.RD]) _ _ rfl,xd (a:=qS k.aI) (a':=qS k'.aI) _ _ rfl];simp only[qb,ey];by_cases h0:cT k.Kind k'.Kind=0
 ·by_cases h1:cT k.RD k'.RD=0
  ·simp[h0,h1]
  ·simp[h0,h1]
 ·simp[h0]
theorem Qt(n:Nat)(hn:11≤n)(x y:ia):At (Bc.S n (x,y)) (fun(r:Int)=>r=Mg x y):=by
 refine(?_ :cD n (wI x y) _);unfold wI;refine .skip (.call _ (NF n x) fun r3 h3=>.skip (.call _ (NF n y) fun r4 h4=>?_))
 refine .skip (.call _ (wC n _ _) fun q0 e0=>.skip (.call _ (Me n _ _) fun q1 e1=>.skip (.call _ (Ri n _ _) fun q2 e2=>.skip (.call _ (FF n _ _) fun q3 e3=>.skip (.call _ (Qr n _ _) fun q4 e4=>.skip (.call _ (O9 n _ _) fun q5 e5=>?_))))))
 refine .skip (.call _ (CT n _ _) fun q6 e6=>.skip (.call _ (CT n _ _) fun q7 e7=>.skip (.call _ (wC n _ _) fun q8 e8=>.skip (.call _ (CT n _ _) fun q9 e9=>.skip (.call _ (Ih n _ (by show 10<n;omega) (by show 10<100000;omega)) fun r hr=>.skip (.done rfl ?_))))))
 subst h3 h4 e0 e1 e2 e3 e4 e5 e6 e7 e8 e9;refine Eq.trans hr ?_;rw[Mg,Qs]
end Go.L
end
section
namespace Go.L
open Go.AM
def qh(r:dr):List Int:=[r.level,r.y8,-r.seq,r.bare,r.next]++z8 (EP r.n)
def qy(r s:dr):Bool:=decide (ey (qh r) (qh s)<0)
theorem NJ(a b:Int):cT (-a) (-b)=cT b a:=by
 unfold cT
 repeat' split
 all_goals omega
theorem Qu(r s:dr):ey (qh r) (qh s)=qb [cT r.level s.level,cT r.y8 s.y8,cT s.seq r.seq,cT r.bare s.bare,cT r.next s.next,Mg r.n s.n]:=by
 unfold qh Mg;rw[xd (a:=[r.level,r.y8,-r.seq,r.bare,r.next]) (a':=[s.level,s.y8,-s.seq,s.bare,s.next]) _ _ rfl];generalize ey (z8 (EP r.n)) (z8 (EP s.n))=e;simp only[qb,ey,NJ];by_cases h0:cT r.level s.level=0
 ·by_cases h1:cT r.y8 s.y8=0
  ·by_cases h2:cT s.seq r.seq=0
   ·by_cases h3:cT r.bare s.bare=0
    ·by_cases h4:cT r.next s.next=0
     ·simp only[h0,h1,h2,h3,h4,if_true];split<;>omega
     ·simp[h0,h1,h2,h3,h4]
    ·simp[h0,h1,h2,h3]
   ·simp[h0,h1,h2]
  ·simp[h0,h1]
 ·simp[h0]
theorem Qv(n:Nat)(hn:11≤n)(r s:dr):At (yq.S n (r,s)) (fun(b:Bool)=>b=qy r s):=by
 refine(?_ :cD n (tB r s) _);unfold tB;refine .skip (.call _ (wC n _ _) fun q0 e0=>.skip (.call _ (wC n _ _) fun q1 e1=>.skip (.call _ (FF n _ _) fun q2 e2=>.skip (.call _ (wC n _ _) fun q3 e3=>.skip (.call _ (CT n _ _) fun q4 e4=>.skip (.call _ (Qt n hn _ _) fun q5 e5=>?_))))))
 refine .skip (.call _ (Ih n _ (by show 6<n;omega) (by show 6<100000;omega)) fun(q:Int) hq=>.skip (.done rfl ?_))
 subst e0 e1 e2 e3 e4 e5;show decide (q<0)=qy r s;unfold qy;rw[Qu];have:q=_:=hq;rw[this]
theorem vz(r:dr):qy r r=false:=by
 unfold qy;rw[(rP rfl).2 rfl];rfl
theorem NK{r s t:dr}(h1:qy r s=true)(h2:qy s t=true):qy r t=true:=by
 unfold qy at*;simp only[decide_eq_true_eq]at*;exact sO h1 h2
theorem zo(a b:aa):bk a b=true↔a=b:=by
 unfold bk;simp only[Bool.and_eq_true,beq_iff_eq,and_true];constructor
 ·rintro⟨h1,h2,h3⟩;obtain⟨a1,⟨a2,a3⟩⟩:=a;obtain⟨b1,⟨b2,b3⟩⟩:=b;simp only at h1 h2 h3;subst h1;subst h2;subst h3;rfl
 ·rintro rfl;exact⟨rfl,rfl,rfl⟩
def kI(x:aj):aa:=⟨x.az.au,x.az.af⟩
def fJ(hm:List (aa×aj))(x:aj):List (aa×aj):=
 match getM bk (kI x) hm with
 |none=>bN bk (kI x) x hm
 |some y=>if qy x.cN y.cN then bN bk (kI x) x hm else hm
theorem vA(n:Nat)(hn:11≤n)(f:av)(own:Int)(k:Nat)(cr:List Bool)(us:List (cF Int×List Int))(dm tn:List (Int×Int))(sb:List (aa×Bool))(hm:List (aa×aj))(x:aj):
 At (eC.c.S n (f,own,k,cr,us,dm,tn,sb,hm,x)) (fun r=>r=fJ hm x):=by
 refine(?_ :cD n (qT f own k cr us dm tn sb hm x) _);unfold qT;refine .skip (.op () rfl (.skip ?_));cases hf:aY bk (Go.L.aa.mk x.az.au x.az.af) hm 0 with
 |none=>
  have hp:fJ hm x=bN bk (kI x) x hm:=by unfold fJ getM kI;rw[hf];rfl
  refine .br (fun h=>.skip (.op () rfl (.tidy rfl (.inl (.done rfl hp.symm))))) fun h=>?_
  simp at h
 |some y=>
  have hp:fJ hm x=if qy x.cN y.2.cN then bN bk (kI x) x hm else hm:=by unfold fJ getM kI;rw[hf];rfl
  refine .br (fun h=>?_) fun h=>.skip (.call _ (Qv n hn _ _) fun b hb=>.skip (.br (fun h2=>.skip (.op () rfl (.tidy rfl (.inl (.done rfl ?_))))) fun h2=>.skip (.tidy rfl (.inl (.done rfl ?_)))))
  ·simp at h
  ·subst h2;simp only[Option.map_some,Option.getD_some]at hb;rw[hp,← hb];rfl
  ·subst h2;simp only[Option.map_some,Option.getD_some]at hb;rw[hp,← hb];rfl
def xe(o:Option aj)(x:aj):Option aj:=match o with
 |none=>some x
 |some y=>if qy x.cN y.cN then some x else some y
instance :DecidableEq aa:=fun a b=>decidable_of_iff (bk a b=true) (zo a b)
theorem NL(hm:List (aa×aj))(x:aj)(p:aa):getM bk p (fJ hm x)=if p=kI x then xe (getM bk p hm) x else getM bk p hm:=by
 unfold fJ;by_cases h:p=kI x
 ·subst h;rw[if_pos rfl];cases hg:getM bk (kI x) hm with
  |none=>simp only[xe];rw[rU zo,if_pos rfl]
  |some y=>
   simp only[xe];split
   ·rw[rU zo,if_pos rfl]
   ·exact hg
 ·rw[if_neg h];cases hg:getM bk (kI x) hm with
  |none=>simp only;rw[rU zo,if_neg h]
  |some y=>
   simp only
   split
   ·rw[rU zo,if_neg h]
   ·rfl
theorem FH{hm:List (aa×aj)}(h:(hm.map (·.1)).Nodup)(x:aj):((fJ hm x).map (·.1)).Nodup∧(fJ hm x).length≤hm.length+1:=by
 unfold fJ;cases getM bk (kI x) hm with
 |none=>exact Jp zo hm _ _ h
 |some y=>
  simp only
  split
  ·exact Jp zo hm _ _ h
  ·exact⟨h,Nat.le_succ _⟩
theorem BT(p:aa):∀(cs:List aj) (hm:List (aa×aj)),getM bk p (cs.foldl fJ hm)=(cs.filter fun x=>decide (p=kI x)).foldl xe (getM bk p hm)
 | [],hm=>rfl
 |x::cs,hm=>by
  simp only[List.foldl_cons,BT p cs,NL,List.filter_cons];split
  ·rename_i h;simp[h]
  ·rename_i h;simp[h]
end Go.L
end
section
namespace Go.L
open Go.AM
def wK(leaf:Int)(s:aU):List Int:=if decide (leaf∈s.Leaves)then s.aG else[]
structure FI(n:Nat)(f:av):Prop where
 l:f.ax.length<100000
 nn:f.ax.length<n
 s:∀s∈f.ax,s.Leaves.length<n∧s.Leaves.length<100000∧s.aG.length<n∧s.aG.length<100000∧∀b∈s.aG,0≤b∧b<f.aG.length
 b:f.aG.length<100000
 bn:f.aG.length<n
 t:f.aA.length<100000
 tn:f.aA.length<n
def fU{α β:Type}(g:Nat→α→List β)(l:List α):List β:=l.zipIdx.flatMap fun p=>g p.2 p.1
theorem qi{α β:Type}(g:Nat→α→List β)(pre:List α)(x:α):fU g (pre++[x])=fU g pre++g pre.length x:=by
 unfold fU;rw[List.zipIdx_append,List.flatMap_append];simp
def vB(self:Int)(up:List Bool)(es:Int→cF Int)(i:Nat)(s:aU):List (cF Int×List Int):=
 if decide (self∈s.Leaves)&&decide (1<s.Leaves.length)&&(up[i]? ==some true)then[(es i,s.aG)]else[]
def iA{K V:Type}(eq:K→K→Bool)(l:List (K×V)):List (K×V):=l.foldl (fun m p=>bN eq p.1 p.2 m) []
theorem AB{K V:Type}(eq:K→K→Bool)(l:List (K×V))(p:K×V):iA eq (l++[p])=bN eq p.1 p.2 (iA eq l):=by simp[iA]
structure Mh(f:av)(leaf:Int)(up:List Bool)(es:Int→cF Int)(lo:Int)(r:List Bool×List (cF Int×List Int)×List (Int×Int)×List (Int×Int)×List (aa×Bool)×List (aa×aj)×av×Int×Nat):Prop where
 SI:r.1.length=f.aG.length
 cr:∀b:Nat,b<f.aG.length→r.1[b]? =some (decide ((b:Int)∈f.ax.flatMap (wK leaf)))
 us:r.2.1=iA gp (fU (vB leaf up es) f.ax)
 dm:r.2.2.1=iA cm (fU (fun i d=>[(d.Target,(i:Int))]) f.aG)
 tn:r.2.2.2.1=iA cm (fU (fun i t=>[(t.Target,(i:Int))]) f.aA)
 sb:r.2.2.2.2.1=[]
 hm:r.2.2.2.2.2.1=[]
 fb:r.2.2.2.2.2.2.1=f
 own:r.2.2.2.2.2.2.2.1=lo
 len:r.2.2.2.2.2.2.2.2=f.aG.length
def Hp(f:av)(pre:List Int)(c:List Bool):Prop:=c.length=f.aG.length∧∀b:Nat,b<f.aG.length→c[b]? =some (decide ((b:Int)∈pre))
theorem Hp.set{f:av}{pre:List Int}{c:List Bool}(h:Hp f pre c){x:Int}(h0:0≤x)(h1:x<f.aG.length):Hp f (pre++[x]) (c.set x.toNat true):=by
 refine⟨by simpa using h.1,fun b hb=>?_⟩
 rw[List.getElem?_set];by_cases he:x.toNat=b
 ·rw[if_pos he,if_pos (by rw[h.1];omega)]
  have:(b:Int)=x:=by omega
  simp[this]
 ·rw[if_neg he,h.2 b hb];have:(b:Int)≠x:=by omega
  simp[this]
theorem HT(n:Nat)(f:av)(self lo:Int)(up:List Bool)(es:Int→cF Int)(hlo:At (iE.S n (f,self)) (fun r=>r=lo))(hf:FI n f)
 (hes:∀i:Nat,i<f.ax.length→At (jR.S n (i:Int)) (fun(r:cF Int×Int)=>r.1=es i)):
 At (rX.c.S n (f,self,up)) (Mh f self up es lo):=by
 refine(?_ :cD n (rW f self up) _);unfold rW;have hrep:(List.replicate (Int.toNat (((List.length f.aG):Nat):Int)) false).length=f.aG.length:=by simp
 have hroom:roomy (Int.toNat (((List.length f.aG):Nat):Int)) 1=true:=by
  have:=hf.b;simp only[roomy,Bool.and_eq_true,decide_eq_true_eq,Int.toNat_natCast];omega
 refine .skip (.call _ hlo fun r4 h4=>.skip (.op () rfl (.op () (if_pos ⟨by omega,hroom⟩) (.skip (.op () rfl (.skip ?_))))))
 refine .loop (dW f.ax fun pre (s:List Bool×List (cF Int×List Int))=>Hp f (pre.flatMap (wK self)) s.1∧s.2=iA gp (fU (vB self up es) pre)) (fun a=>f.ax.length - a.1.toNat)
  (fun t=>Hp f (f.ax.flatMap (wK self)) t.1∧t.2=iA gp (fU (vB self up es) f.ax)) rfl (dW.start ⟨⟨hrep,fun b hb=>?_⟩,rfl⟩) (by simpa using hf.nn) (fun a ha=>?_) (fun t67 ht67=>?_)
 ·rw[List.getElem?_replicate,if_pos (by simpa using hb)];simp
 ·refine .skip (.br (fun h=>?_) fun h=>.skip (.done rfl (ha.fin h)))
  obtain⟨s,pre,h1,h2,⟨h3,h3u⟩,⟨hidx,hpost⟩,h5⟩:=ha.get h;obtain⟨q1,q2,q3,q4,q5⟩:=hf.s s h2;have hlt:pre.length<f.ax.length:=by
   obtain⟨post,hp⟩:=hpost;have:=congrArg List.length hp;simp only[List.length_append,List.length_cons]at this;omega
  refine .skip (.op s h1 (.skip (.call _ (AA n s.Leaves self q1 q2) fun r50 h50=>.skip (.br (fun hc=>.skip (.done rfl ?_)) fun hc=>?_))))
  ·have hn:¬self∈s.Leaves:=by rw[h50]at hc;simpa using hc
   refine h5 hf.l _ ⟨?_,?_⟩
   ·rw[List.flatMap_append,List.flatMap_cons,List.flatMap_nil,List.append_nil];have:wK self s=[]:=by unfold wK;simp[hn]
    rw[this,List.append_nil];exact h3
   ·rw[qi];have:vB self up es pre.length s=[]:=by unfold vB;simp[hn]
    rw[this,List.append_nil];exact h3u
  ·have hin:self∈s.Leaves:=by rw[h50]at hc;simpa using hc
   have hcar:wK self s=s.aG:=by unfold wK;simp[hin]
   refine .skip (.op () rfl (.skip (.loop (dW s.aG fun p c=>Hp f (pre.flatMap (wK self)++p) c) (fun a=>s.aG.length - a.1.toNat) (fun t=>Hp f (pre.flatMap (wK self)++s.aG) t) rfl (dW.start (by rw[List.append_nil];exact h3)) (by simpa using q3) (fun a2 ha2=>?_) (fun t57 ht57=>?_))))
   ·refine .skip (.br (fun g=>?_) fun g=>.skip (.done rfl (ha2.fin g)))
    obtain⟨x,p2,g1,g2,g3,_,g5⟩:=ha2.get g;obtain⟨b0,b1⟩:=q5 x g2;have hx:x.toNat<a2.2.length:=by rw[g3.1];omega
    refine .skip (.op x g1 (.skip (.op () (if_pos ⟨b0,by rw[hrep];exact b1⟩) (.op (a2.2[x.toNat]'hx) (List.getElem?_eq_getElem hx) (.skip (.done rfl (g5 q4 _ ?_)))))))
    rw[← List.append_assoc];exact g3.set b0 b1
   ·have fin:∀us,us=iA gp (fU (vB self up es) (pre++[s]))→(dW f.ax (fun pre (s:List Bool×List (cF Int×List Int))=>Hp f (pre.flatMap (wK self)) s.1∧s.2=iA gp (fU (vB self up es) pre)) (IntKind.wrap .i64 (a.1+1),(t57,us))∧f.ax.length - (IntKind.wrap .i64 (a.1+1)).toNat<f.ax.length - a.1.toNat):=fun us hus=>h5 hf.l (t57,us) ⟨by
     rw[List.flatMap_append,List.flatMap_cons,List.flatMap_nil,List.append_nil,hcar];exact ht57,hus⟩
    have none_:vB self up es pre.length s=[]→a.2.2=iA gp (fU (vB self up es) (pre++[s])):=fun e=>by rw[qi,e,List.append_nil];exact h3u
    refine .skip (.op () rfl (.skip (.br (fun g=>?_) fun g=>.skip (.done rfl (fin _ (none_ ?_))))))
    ·have g1:1<s.Leaves.length:=by simp only[gt_iff_lt,decide_eq_true_eq]at g;omega
     refine .skip (.op () rfl (.skip (.br (fun g2=>?_) fun g2=>.skip (.done rfl (fin _ (none_ ?_))))))
     ·simp only[decide_eq_true_eq]at g2;have hu:pre.length<up.length:=by rw[hidx]at g2;omega
      have hat:fN up a.1=some (up[pre.length]'hu):=by rw[hidx,bq,List.getElem?_eq_getElem hu]
      refine .skip (.op _ hat (.skip (.join (fun us=>us=iA gp (fU (vB self up es) (pre++[s]))) ?_ fun us hus=>.skip (.done rfl (fin us hus)))))
      refine .br (fun g3=>?_) fun g3=>.skip (.done rfl (none_ ?_))
      ·have hes':=hes pre.length hlt;rw[← hidx]at hes';refine .skip (.call _ hes' fun r59 h59=>.skip (.op () rfl (.done rfl ?_)))
       have:vB self up es pre.length s=[(es a.1,s.aG)]:=by
        unfold vB;rw[hidx];simp[hin,g1,List.getElem?_eq_getElem hu,g3]
       rw[qi,this,AB,← h3u,h59]
      ·unfold vB;simp[List.getElem?_eq_getElem hu,g3]
     ·simp only[decide_eq_false_iff_not]at g2;have hu:¬pre.length<up.length:=by rw[hidx]at g2;omega
      unfold vB;simp[List.getElem?_eq_none (Nat.le_of_not_lt hu)]
    ·have g1:¬1<s.Leaves.length:=by simp only[gt_iff_lt,decide_eq_false_iff_not]at g;omega
     unfold vB;simp[g1]
 ·refine .skip (.op () rfl (.skip (.loop (dW f.aG fun pre m=>m=iA cm (fU (fun i (d:BD)=>[(d.Target,(i:Int))]) pre)) (fun a=>f.aG.length - a.1.toNat) (fun t=>t=iA cm (fU (fun i (d:BD)=>[(d.Target,(i:Int))]) f.aG)) rfl (dW.start rfl) (by simpa using hf.bn) (fun a ha=>?_) (fun t80 ht80=>?_))))
  ·refine .skip (.br (fun h=>?_) fun h=>.skip (.done rfl (ha.fin h)))
   obtain⟨x,pre,h1,h2,h3,⟨hidx,_⟩,h5⟩:=ha.get h;refine .skip (.op x h1 (.skip (.op () rfl (.skip (.done rfl (h5 hf.b _ ?_))))));rw[qi,AB,← h3,hidx]
  ·refine .skip (.op () rfl (.skip (.loop (dW f.aA fun pre m=>m=iA cm (fU (fun i (d:au)=>[(d.Target,(i:Int))]) pre)) (fun a=>f.aA.length - a.1.toNat) (fun t=>t=iA cm (fU (fun i (d:au)=>[(d.Target,(i:Int))]) f.aA)) rfl (dW.start rfl) (by simpa using hf.tn) (fun a ha=>?_) (fun t93 ht93=>?_))))
   ·refine .skip (.br (fun h=>?_) fun h=>.skip (.done rfl (ha.fin h)))
    obtain⟨x,pre,h1,h2,h3,⟨hidx,_⟩,h5⟩:=ha.get h;refine .skip (.op x h1 (.skip (.op () rfl (.skip (.done rfl (h5 hf.t _ ?_))))));rw[qi,AB,← h3,hidx]
   ·exact .skip (.tidy rfl (.inl (.done rfl ⟨ht67.1.1,ht67.1.2,ht67.2,ht80,ht93,rfl,rfl,rfl,h4,hrep⟩)))
end Go.L
end
section
namespace Go.L
open Go.AM
def RY:ia:=Go.L.ia.mk 0 0 Mf 0 0 0 false (Go.L.af.mk 0 0) 0 0 0
def vC(i:Nat)(d:BD):aj:=⟨Go.L.az.mk d.au d.ay (i:Int) 0 0 0 0,Go.L.dr.mk 0 0 0 0 0 RY⟩
def oJ(cr:List Bool)(i:Nat)(d:BD):List aj:=if(d.aM != 0)&&(cr[i]? ==some true)then[vC i d]else[]
def qY(f:av)(cr:List Bool):List aj:=fU (oJ cr) f.aG
def DJ(sb:List (aa×Bool))(x:aj):List (aa×Bool):=bN bk (kI x) true sb
theorem Jv(n:Nat)(hn:11≤n)(f:av)(own:Int)(k:Nat)(cr:List Bool)(us:List (cF Int×List Int))(dm tn:List (Int×Int))(sb:List (aa×Bool))(hm:List (aa×aj))
 (hb:f.aG.length<100000) (hbn:f.aG.length<n) (hk:k=f.aG.length) (hcr:cr.length=f.aG.length):
 At (qX.c.S n (f,own,k,cr,us,dm,tn,sb,hm)) (fun r=>r=((qY f cr).foldl DJ sb,(qY f cr).foldl fJ hm)):=by
 refine(?_ :cD n (mu f own k cr us dm tn sb hm) _);unfold mu;refine .skip (.op () rfl (.skip (.loop (dW f.aG fun pre s=>s=((fU (oJ cr) pre).foldl DJ sb,(fU (oJ cr) pre).foldl fJ hm)) (fun a=>f.aG.length - a.1.toNat) (fun t=>t=((qY f cr).foldl DJ sb,(qY f cr).foldl fJ hm)) rfl (dW.start rfl) (by simpa using hbn) (fun a ha=>?_) (fun t ht=>?_))))
 ·refine .skip (.br (fun h=>?_) fun h=>.skip (.done rfl (ha.fin h)))
  obtain⟨d,pre,h1,h2,h3,⟨hidx,post,hpost⟩,h5⟩:=ha.get h;have hlt:pre.length<f.aG.length:=by
   have:=congrArg List.length hpost;simp only[List.length_append,List.length_cons]at this;omega
  have e1:a.2.1=(fU (oJ cr) pre).foldl DJ sb:=by rw[h3]
  have e2:a.2.2=(fU (oJ cr) pre).foldl fJ hm:=by rw[h3]
  have none_:oJ cr pre.length d=[]→(a.2.1,a.2.2)=((fU (oJ cr) (pre++[d])).foldl DJ sb,(fU (oJ cr) (pre++[d])).foldl fJ hm):=fun e=>by
   rw[qi,e,List.append_nil,← e1,← e2]
  refine .skip (.op d h1 (.skip (.br (fun g=>?_) fun g=>.skip (.done rfl (h5 hb _ (none_ ?_))))))
  ·have hc:pre.length<cr.length:=by omega
   refine .skip (.op () (if_pos ⟨by omega,by rw[hidx,hk];omega⟩) (.op (cr[pre.length]'hc) (by rw[show a.1.toNat=pre.length by omega];exact List.getElem?_eq_getElem hc) (.skip (.br (fun g2=>?_) fun g2=>.skip (.done rfl (h5 hb _ (none_ ?_)))))))
   ·refine .skip (.op () rfl (.skip (.inl (.cR _ (vA n hn f own k cr us dm tn _ a.2.2 _) fun r29 h29=>.skip (.done rfl (h5 hb _ ?_))))))
    have:oJ cr pre.length d=[vC pre.length d]:=by unfold oJ;simp only[g,List.getElem?_eq_getElem hc,g2];rfl
    rw[qi,this,List.foldl_append,List.foldl_append,← e1,← e2,h29,hidx];rfl
   ·unfold oJ;simp only[List.getElem?_eq_getElem hc,g2];simp
  ·unfold oJ;simp only[g];rfl
 ·exact .tidy rfl (.inl (.done rfl ht))
def Ij(o:Option Int)(bd:Int):Bool:=match o with
 |some h=>decide (bd>h)
 |none=>false
def sR(f:av)(dm:List (Int×Int))(t ip:Int)(dH:af→Bool)(o:Option Int)(T:Int):Option Int:=
 match getM cm T dm with
 |none=>o
 |some bd=>if Ij o bd then o else
  match fN f.aG bd with
  |none=>o
  |some d=>if(d.au==t)&&(d.aM != 0)&&dH d.ay then some bd else o
def nu(f:av)(dm:List (Int×Int))(t ip:Int)(dH:af→Bool)(ts:List Int):Option Int:=ts.foldl (sR f dm t ip dH) none
theorem Qw(n:Nat)(f:av)(own:Int)(k:Nat)(cr:List Bool)(us:List (cF Int×List Int))(dm tn:List (Int×Int))(sb:List (aa×Bool))(hm:List (aa×aj))(t ip:Int)(ts:List Int)(dH:af→Bool)
 (hts:ts.length<100000) (htn:ts.length<n) (hdm:∀T bd,getM cm T dm=some bd→∃d,fN f.aG bd=some d) (hcon:∀d∈f.aG,At (cM.S n (d.ay,ip)) (fun(b:Bool)=>b=dH d.ay)):
 At (vw.c.S n (f,own,k,cr,us,dm,tn,sb,hm,t,ts,ip)) (fun r=>r=((nu f dm t ip dH ts).getD 0,(nu f dm t ip dH ts).isSome)):=by
 refine(?_ :cD n (qg f own k cr us dm tn sb hm t ts ip) _);unfold qg;have atmem:∀{bd:Int} {d:BD},fN f.aG bd=some d→d∈f.aG:=fun {bd d} h=>by
  unfold fN at h;split at h
  ·exact List.mem_of_getElem? h
  ·cases h
 let st:Int×Bool×Int→Int×Option Int:=fun a=>(a.2.2,if a.2.1 then some a.1 else none)
 refine .skip (.op () rfl (.skip (.loop (fun a=>dW ts (fun pre o=>o=nu f dm t ip dH pre) (st a)∧(a.2.1=false→a.1=0)) (fun a=>ts.length - a.2.2.toNat) (fun r=>r=((nu f dm t ip dH ts).getD 0,(nu f dm t ip dH ts).isSome)) rfl ⟨dW.start rfl,fun _=>rfl⟩ (by simpa using htn) (fun a ha=>?_) (fun r hr=>?_))))
 ·obtain⟨ha,ha0⟩:=ha;obtain⟨a1,a2,a3⟩:=a;have ha0:a2=false→a1=0:=ha0;have hval:∀o,(if a2=true then some a1 else none)=o→(a1,a2)=(o.getD 0,o.isSome):=fun o ho=>by
   cases a2 with
   |true=>subst ho;rfl
   |false=>subst ho;rw[ha0 rfl];rfl
  refine .skip (.br (fun h=>?_) fun h=>.skip (.done rfl (hval _ (ha.fin h))))
  obtain⟨T,pre,h1,h2,h3,_,h5⟩:=ha.get h;have h3:(if a2=true then some a1 else none)=nu f dm t ip dH pre:=h3
  have step:∀o',o'=sR f dm t ip dH (if a2=true then some a1 else none) T→o'=nu f dm t ip dH (pre++[T]):=fun o' ho=>by
   rw[ho,h3];unfold nu;rw[List.foldl_append];rfl
  have keep:sR f dm t ip dH (if a2=true then some a1 else none) T=(if a2=true then some a1 else none)→pe (fun a=>dW ts (fun pre o=>o=nu f dm t ip dH pre) (st a)∧(a.2.1=false→a.1=0)) (fun a=>ts.length - a.2.2.toNat) (fun r=>r=((nu f dm t ip dH ts).getD 0,(nu f dm t ip dH ts).isSome)) (a1,a2,a3) (.inl (a1,a2,IntKind.wrap .i64 (a3+1))):=fun e=>by
   obtain⟨q1,q2⟩:=h5 hts _ (step _ e.symm);exact⟨⟨q1,ha0⟩,q2⟩
  have put:∀bd,sR f dm t ip dH (if a2=true then some a1 else none) T=some bd→pe (fun a=>dW ts (fun pre o=>o=nu f dm t ip dH pre) (st a)∧(a.2.1=false→a.1=0)) (fun a=>ts.length - a.2.2.toNat) (fun r=>r=((nu f dm t ip dH ts).getD 0,(nu f dm t ip dH ts).isSome)) (a1,a2,a3) (.inl (bd,true,IntKind.wrap .i64 (a3+1))):=fun bd e=>by
   obtain⟨q1,q2⟩:=h5 hts _ (step _ e.symm);exact⟨⟨q1,fun h=>by cases h⟩,q2⟩
  refine .skip (.op T h1 (.skip (.op () rfl (.skip ?_))));cases hf:aY cm T dm 0 with
  |none=>
   have hg:getM cm T dm=none:=by unfold getM;rw[hf];rfl
   exact .br (fun g=>.skip (.done rfl (keep (by unfold sR;rw[hg])))) fun g=>by simp at g
  |some x=>
   have hg:getM cm T dm=some x.2:=by unfold getM;rw[hf];rfl
   obtain⟨d,hd⟩:=hdm T x.2 hg;refine .br (fun g=>by simp at g) fun g=>.skip ?_
   have hat:fN f.aG ((Option.map (fun x:Nat×Int=>x.2) (some x)).getD 0)=some d:=hd
   have rest:Ij (if a2=true then some a1 else none) x.2=false→
    sR f dm t ip dH (if a2=true then some a1 else none) T=if(d.au==t)&&(d.aM != 0)&&dH d.ay then some x.2 else(if a2=true then some a1 else none):=fun e=>by
    unfold sR;rw[hg];simp only[e,hd];rw[if_neg (by simp)]
   refine .br (fun g1=>.skip (.br (fun g2=>.skip (.done rfl (keep ?_))) fun g2=>?_)) fun g1=>?_
   ·have g1:a2=true:=g1;have e:Ij (if a2=true then some a1 else none) x.2=true:=by rw[if_pos g1];exact g2
    unfold sR;rw[hg];simp only[e,if_true]
   ·have hr:=rest (by rw[if_pos (show a2=true from g1)];exact g2)
    refine .skip (.op d hat (.skip (.br (fun c1=>.skip (.br (fun c2=>.skip (.call _ (hcon d (atmem hd)) fun r35 h35=>.skip (.br (fun c3=>.skip (.done rfl (put _ ?_))) fun c3=>.skip (.done rfl (keep ?_))))) fun c2=>.skip (.done rfl (keep ?_)))) fun c1=>.skip (.done rfl (keep ?_)))))
    ·rw[hr,if_pos (by rw[c1,c2,← h35,c3];rfl)];rfl
    ·rw[hr,if_neg (by rw[← h35,c3];simp)]
    ·rw[hr,if_neg (by rw[c2];simp)]
    ·rw[hr,if_neg (by rw[c1];simp)]
   ·have hr:=rest (by rw[if_neg (by rw[show a2=false from g1];simp)];rfl)
    refine .skip (.op d hat (.skip (.br (fun c1=>.skip (.br (fun c2=>.skip (.call _ (hcon d (atmem hd)) fun r35 h35=>.skip (.br (fun c3=>.skip (.done rfl (put _ ?_))) fun c3=>.skip (.done rfl (keep ?_))))) fun c2=>.skip (.done rfl (keep ?_)))) fun c1=>.skip (.done rfl (keep ?_)))))
    ·rw[hr,if_pos (by rw[c1,c2,← h35,c3];rfl)];rfl
    ·rw[hr,if_neg (by rw[← h35,c3];simp)]
    ·rw[hr,if_neg (by rw[c2];simp)]
    ·rw[hr,if_neg (by rw[c1];simp)]
 ·subst hr;exact .skip (.tidy rfl (.inl (.done rfl rfl)))
end Go.L
end
section
namespace Go.L
open Go.AM
def CX(own:Int)(t:Int)(sb:List (aa×Bool))(rt:Int×Bool)(r:bZ):Option aj:=
 if(r.A.Next==own)||(r.N.Label==0)|| !rt.2||((getM bk ⟨t,r.N.af⟩ sb).getD false)then none
 else some ⟨Go.L.az.mk t r.N.af (-1) r.A.Next r.N.Label 0 rt.1,Go.L.dr.mk 2 0 0 0 r.A.Next r.N⟩
def oB(hm:List (aa×aj))(o:Option aj):List (aa×aj):=match o with
 |none=>hm
 |some x=>fJ hm x
theorem NM(n:Nat)(hn:11≤n)(f:av)(own:Int)(k:Nat)(cr:List Bool)(us:List (cF Int×List Int))(dm tn:List (Int×Int))(sb:List (aa×Bool))(hm:List (aa×aj))(t:Int)(r:bZ)(rt:Int×Bool)
 (hrt:At (dY.S n r.A.dR) (fun(q:Int×Bool)=>q=rt)):
 At (kP.c.S n (f,own,k,cr,us,dm,tn,sb,hm,t,r)) (fun m=>m=oB hm (CX own t sb rt r)):=by
 refine(?_ :cD n (oA f own k cr us dm tn sb hm t r) _);unfold oA;refine .skip (.call _ hrt fun(q:Int×Bool) hq=>.skip ?_)
 subst hq;refine .br (fun h1=>.skip (.tidy rfl (.inl (.done rfl ?_)))) fun h1=>.skip (.br (fun h2=>.skip (.tidy rfl (.inl (.done rfl ?_)))) fun h2=>.skip (.br (fun h3=>.skip (.tidy rfl (.inl (.done rfl ?_)))) fun h3=>.skip (.op () rfl (.skip (.br (fun h4=>.skip (.tidy rfl (.inl (.done rfl ?_)))) fun h4=>.skip (.inl (.cR _ (vA n hn f own k cr us dm tn sb hm _) fun m hm2=>.tidy rfl (.inl (.done rfl ?_)))))))))
 ·unfold CX;rw[if_pos (by rw[h1];rfl)];rfl
 ·unfold CX;rw[if_pos (by rw[h2];simp)];rfl
 ·unfold CX;rw[if_pos (by rw[show(!q.2)=true from h3];simp)];rfl
 ·have h4:(getM bk ⟨t,r.N.af⟩ sb).getD false=true:=h4;unfold CX;rw[if_pos (by rw[h4];simp)];rfl
 ·have h4:(getM bk ⟨t,r.N.af⟩ sb).getD false=false:=h4;unfold CX;rw[if_neg (by rw[h1,h2,show(!q.2)=false from h3,h4];simp)];exact hm2
def uy(e:cF Int):Bool:=((e.a0==(0:Int))&&((e.a1==(0:Int))&&((e.a2==(0:Int))&&((e.a3==(0:Int))&&((e.a4==(0:Int))&&((e.a5==(0:Int))&&((e.a6==(0:Int))&&((e.a7==(0:Int))&&((e.a8==(0:Int))&&((e.a9==(0:Int))&&true))))))))))
def kg(r:bZ)(own:Int):Int:=if r.A.Next=own then 0 else 1
def ki(r:bZ):Int:=if uy r.N.aI=true then 1 else 0
def ql(r:bZ)(own sq:Int)(h:az):aj:=⟨h,Go.L.dr.mk 1 (kg r own) sq (ki r) r.A.Next r.N⟩
def GA(us:List (cF Int×List Int))(e:cF Int)(bd:Int):Bool:=decide (bd∈(getM gp e us).getD [])
def mw(f:av)(own:Int)(cr:List Bool)(us:List (cF Int×List Int))(dm:List (Int×Int))(t:Int)(dH:af→Bool)(sq:Int)(rt:Int×Bool)(ts:List Int)(r:bZ):Option aj:=
 match nu f dm t r.N.IP dH ts with
 |none=>none
 |some bd=>
  if !((cr[bd.toNat]?).getD false)||(!((r.A.Next==own)||GA us r.N.aI bd)&&(f.bD != 1))then
   if(r.A.Next==own)||(r.N.dU==0)|| !rt.2 then none
   else some (ql r own sq (Go.L.az.mk t (Go.L.af.mk r.N.IP 32) (-1) r.A.Next r.N.dU 0 rt.1))
  else some (ql r own sq (Go.L.az.mk t (Go.L.af.mk r.N.IP 32) bd 0 0 r.N.aS 0))
theorem Qx(n:Nat)(hn:11≤n)(f:av)(own:Int)(k:Nat)(cr:List Bool)(us:List (cF Int×List Int))(dm tn:List (Int×Int))(sb:List (aa×Bool))(hm:List (aa×aj))(t:Int)(ts:List Int)(r:bZ)(dH:af→Bool)(sq:Int)(rt:Int×Bool)
 (hrt:At (dY.S n r.A.dR) (fun(q:Int×Bool)=>q=rt)) (hmob:At (dQ.S n r.A.dR) (fun(q:Bool×Int×Bool)=>q.2.1=sq))
 (hts:ts.length<100000) (htn:ts.length<n) (hdm:∀T bd,getM cm T dm=some bd→0≤bd∧bd<f.aG.length) (hcon:∀d∈f.aG,At (cM.S n (d.ay,r.N.IP)) (fun(b:Bool)=>b=dH d.ay))
 (hk:k=f.aG.length) (hcr:cr.length=f.aG.length) (hus:∀e l,getM gp e us=some l→l.length<n∧l.length<100000):
 At (qk.c.S n (f,own,k,cr,us,dm,tn,sb,hm,t,ts,r)) (fun m=>m=oB hm (mw f own cr us dm t dH sq rt ts r)):=by
 refine(?_ :cD n (qj f own k cr us dm tn sb hm t ts r) _);unfold qj;have hdm2:∀T bd,getM cm T dm=some bd→∃d,fN f.aG bd=some d:=fun T bd h=>by
  obtain⟨h0,h1⟩:=hdm T bd h;refine⟨f.aG[bd.toNat]'(by omega),?_⟩
  have:=bq f.aG bd.toNat;rw[show((bd.toNat:Nat):Int)=bd by omega]at this
  rw[this,List.getElem?_eq_getElem]
 have hrange:∀l:List Int,∀o:Option Int,(∀h:Int,o=some h→0≤h∧h<f.aG.length)→∀h:Int,l.foldl (sR f dm t r.N.IP dH) o=some h→0≤h∧h<f.aG.length:=by
  intro l;induction l with
  |nil=>exact fun o ho=>ho
  |cons T l ih=>
   intro o ho;refine ih _ fun h hh=>?_
   unfold sR at hh;cases hg:getM cm T dm with
   |none=>rw[hg]at hh;exact ho h hh
   |some bd=>
    rw[hg]at hh;simp only at hh;split at hh
    ·exact ho h hh
    ·split at hh
     ·exact ho h hh
     ·split at hh
      ·cases hh;exact hdm T _ hg
      ·exact ho h hh
 refine .skip (.inl (.cR _ (Qw n f own k cr us dm tn sb hm t r.N.IP ts dH hts htn hdm2 hcon) fun r13 h13=>.skip ?_))
 subst h13;cases hh:nu f dm t r.N.IP dH ts with
 |none=>
  have hs:mw f own cr us dm t dH sq rt ts r=none:=by unfold mw;rw[hh]
  rw[hs];exact .br (fun _=>.skip (.tidy rfl (.inl (.done rfl rfl)))) fun h=>by cases h
 |some bd=>
  obtain⟨hb0,hb1⟩:0≤bd∧bd<f.aG.length:=hrange ts none (fun h e=>by cases e) bd hh
  have hc:bd.toNat<cr.length:=by omega
  have hcb:cr[bd.toNat]? =some (cr[bd.toNat]'hc):=List.getElem?_eq_getElem hc;have hsp:mw f own cr us dm t dH sq rt ts r=if !(cr[bd.toNat]'hc)||(!((r.A.Next==own)||GA us r.N.aI bd)&&(f.bD != 1))then
   if(r.A.Next==own)||(r.N.dU==0)|| !rt.2 then none
   else some (ql r own sq (Go.L.az.mk t (Go.L.af.mk r.N.IP 32) (-1) r.A.Next r.N.dU 0 rt.1))
   else some (ql r own sq (Go.L.az.mk t (Go.L.af.mk r.N.IP 32) bd 0 0 r.N.aS 0)):=by
   unfold mw;rw[hh];simp only[hcb,Option.getD_some]
  generalize mw f own cr us dm t dH sq rt ts r=S at hsp;generalize cr[bd.toNat]'hc=cb at hsp hcb;refine .br (fun h=>by cases h) fun _=>.skip (.br (fun hmine=>.skip (.op () (if_pos ⟨hb0,by rw[hk];exact hb1⟩) (.op cb hcb (.skip ?_)))) fun hmine=>.skip ?_)
  ·rw[hmine]at hsp;refine .br (fun g=>.skip (.call _ hrt fun(q:Int×Bool) hq=>.skip (.br (fun _=>.skip (.tidy rfl (.inl (.done rfl ?_)))) fun h=>?_))) fun g=>.skip ?_
   ·rw[hsp,if_pos (by rw[show(!cb)=true from g];rfl)];rfl
   ·rw[hmine]at h;cases h
   ·have hspec:∀h:az,h=Go.L.az.mk t (Go.L.af.mk r.N.IP 32) bd 0 0 r.N.aS 0→oB hm S=fJ hm (ql r own sq h):=fun h e=>by
     subst e;rw[hsp,if_neg (by rw[show(!cb)=false from g];simp)];rfl
    refine .call _ hmob fun q hq=>.skip (.join (fun(x:Int)=>x=kg r own) ?_ fun x hx=>.skip (.join (fun(y:Int)=>y=ki r) ?_ fun y hy=>.skip (.inl (.cR _ (vA n hn f own k cr us dm tn sb hm _) fun m hm2=>.tidy rfl (.inl (.done rfl ?_))))))
    ·refine .br (fun h=>.skip (.done rfl ?_)) fun h=>.skip (.done rfl ?_)
     ·unfold kg;rw[if_neg (by simpa using h)]
     ·unfold kg;rw[if_pos (by simpa using h)]
    ·refine .br (fun h=>.skip (.done rfl ?_)) fun h=>.skip (.done rfl ?_)
     ·unfold ki;rw[if_pos (show uy r.N.aI=true from h)]
     ·unfold ki;rw[if_neg (by rw[show uy r.N.aI=false from h];simp)]
    ·subst hx hy;rw[hm2,hq];exact(hspec _ rfl).symm
  ·have usd:∀(l:List Int),(getM gp r.N.aI us).getD []=l→GA us r.N.aI bd=decide (bd∈l):=fun l e=>by unfold GA;rw[e]
   refine .sp (fun hsome=>?_) fun hnone=>?_
   ·cases hf:aY uH r.N.aI us 0 with
    |none=>rw[hf]at hsome;cases hsome
    |some z=>
    have hgl:getM gp r.N.aI us=some z.2:=by unfold getM;rw[show aY gp r.N.aI us 0=some z from hf];rfl
    obtain⟨l1,l2⟩:=hus _ _ hgl;have hin:=usd z.2 (by rw[hgl];rfl)
    refine .op z.2 (by show(aY uH r.N.aI us 0).map (·.2)=_;rw[hf];rfl) (.skip (.call _ (AA n z.2 bd l1 l2) fun(b:Bool) hb=>.skip (.op () (if_pos ⟨hb0,by rw[hk];exact hb1⟩) (.op cb hcb (.skip ?_)))))
    rw[← hb]at hin;simp only[hmine,hin,Bool.false_or]at hsp;refine .br (fun g=>.skip (.call _ hrt fun(q:Int×Bool) hq=>.skip (.br (fun h=>by rw[hmine]at h;cases h) fun _=>.skip (.br (fun h2=>.skip (.tidy rfl (.inl (.done rfl ?_)))) fun h2=>.skip (.br (fun h3=>.skip (.tidy rfl (.inl (.done rfl ?_)))) fun h3=>.skip ?_))))) fun g=>.skip ?_
    ·rw[hsp,if_pos (by rw[show(!cb)=true from g];rfl),if_pos (by rw[h2];simp)];rfl
    ·subst hq;rw[hsp,if_pos (by rw[show(!cb)=true from g];rfl),if_pos (by rw[show(!q.2)=true from h3];simp)];rfl
    ·subst hq;have hspec:∀h:az,h=Go.L.az.mk t (Go.L.af.mk r.N.IP 32) (-1) r.A.Next r.N.dU 0 q.1→oB hm S=fJ hm (ql r own sq h):=fun h e=>by
      subst e;rw[hsp,if_pos (by rw[show(!cb)=true from g];rfl),if_neg (by rw[h2,show(!q.2)=false from h3];simp)];rfl
     refine .call _ hmob fun q hq=>.skip (.join (fun(x:Int)=>x=kg r own) ?_ fun x hx=>.skip (.join (fun(y:Int)=>y=ki r) ?_ fun y hy=>.skip (.inl (.cR _ (vA n hn f own k cr us dm tn sb hm _) fun m hm2=>.tidy rfl (.inl (.done rfl ?_))))))
     ·refine .br (fun h=>.skip (.done rfl ?_)) fun h=>.skip (.done rfl ?_)
      ·unfold kg;rw[if_neg (by simpa using h)]
      ·unfold kg;rw[if_pos (by simpa using h)]
     ·refine .br (fun h=>.skip (.done rfl ?_)) fun h=>.skip (.done rfl ?_)
      ·unfold ki;rw[if_pos (show uy r.N.aI=true from h)]
      ·unfold ki;rw[if_neg (by rw[show uy r.N.aI=false from h];simp)]
     ·subst hx hy;rw[hm2,hq];exact(hspec _ rfl).symm
    ·rw[show(!cb)=false from g,Bool.false_or]at hsp;refine .br (fun g2=>.skip (.join (fun(x:Unit⊕(Int×Int×Int×Int×Int))=>match x with
      | .inl _=>oB hm S=hm
      | .inr h=>∀m2,m2=fJ hm (ql r own sq (Go.L.az.mk t (Go.L.af.mk r.N.IP 32) h.1 h.2.1 h.2.2.1 h.2.2.2.1 h.2.2.2.2))→oB hm S=m2) ?_ fun x hx=>?_)) fun g2=>.skip ?_
     ·rw[show(!b)=true from g2,Bool.true_and]at hsp;refine .br (fun g3=>.skip (.call _ hrt fun(q:Int×Bool) hq=>.skip (.br (fun h=>by rw[hmine]at h;cases h) fun _=>.skip (.br (fun h2=>.skip (.done rfl ?_)) fun h2=>.skip (.br (fun h3=>.skip (.done rfl ?_)) fun h3=>.skip (.done rfl ?_)))))) fun g3=>.skip (.done rfl ?_)
      ·show oB hm S=hm;rw[hsp,if_pos g3,if_pos (by rw[h2];simp)];rfl
      ·show oB hm S=hm;subst hq;rw[hsp,if_pos g3,if_pos (by rw[show(!q.2)=true from h3];simp)];rfl
      ·subst hq;intro m2 e;rw[e,hsp,if_pos g3,if_neg (by rw[h2,show(!q.2)=false from h3];simp)];rfl
      ·intro m2 e;rw[e,hsp,if_neg (by rw[g3];simp)];rfl
     ·cases x with
      |inl u=>exact .tidy rfl (.inl (.done rfl (show hm=oB hm S from hx.symm)))
      |inr h=>
       refine .skip ?_;have hspec:∀h2:az,h2=Go.L.az.mk t (Go.L.af.mk r.N.IP 32) h.1 h.2.1 h.2.2.1 h.2.2.2.1 h.2.2.2.2→oB hm S=fJ hm (ql r own sq h2):=fun h2 e=>by
        subst e;exact hx _ rfl
       refine .call _ hmob fun q hq=>.skip (.join (fun(x:Int)=>x=kg r own) ?_ fun x hx=>.skip (.join (fun(y:Int)=>y=ki r) ?_ fun y hy=>.skip (.inl (.cR _ (vA n hn f own k cr us dm tn sb hm _) fun m hm2=>.tidy rfl (.inl (.done rfl ?_))))))
       ·refine .br (fun h=>.skip (.done rfl ?_)) fun h=>.skip (.done rfl ?_)
        ·unfold kg;rw[if_neg (by simpa using h)]
        ·unfold kg;rw[if_pos (by simpa using h)]
       ·refine .br (fun h=>.skip (.done rfl ?_)) fun h=>.skip (.done rfl ?_)
        ·unfold ki;rw[if_pos (show uy r.N.aI=true from h)]
        ·unfold ki;rw[if_neg (by rw[show uy r.N.aI=false from h];simp)]
       ·subst hx hy;rw[hm2,hq];exact(hspec _ rfl).symm
     ·have hspec:∀h2:az,h2=Go.L.az.mk t (Go.L.af.mk r.N.IP 32) bd 0 0 r.N.aS 0→oB hm S=fJ hm (ql r own sq h2):=fun h2 e=>by
       subst e;rw[hsp,if_neg (by rw[show(!b)=false from g2];simp)];rfl
      refine .call _ hmob fun q hq=>.skip (.join (fun(x:Int)=>x=kg r own) ?_ fun x hx=>.skip (.join (fun(y:Int)=>y=ki r) ?_ fun y hy=>.skip (.inl (.cR _ (vA n hn f own k cr us dm tn sb hm _) fun m hm2=>.tidy rfl (.inl (.done rfl ?_))))))
      ·refine .br (fun h=>.skip (.done rfl ?_)) fun h=>.skip (.done rfl ?_)
       ·unfold kg;rw[if_neg (by simpa using h)]
       ·unfold kg;rw[if_pos (by simpa using h)]
      ·refine .br (fun h=>.skip (.done rfl ?_)) fun h=>.skip (.done rfl ?_)
       ·unfold ki;rw[if_pos (show uy r.N.aI=true from h)]
       ·unfold ki;rw[if_neg (by rw[show uy r.N.aI=false from h];simp)]
      ·subst hx hy;rw[hm2,hq];exact(hspec _ rfl).symm
   ·have hf:aY uH r.N.aI us 0=none:=by
     cases hf:aY uH r.N.aI us 0 with
     |none=>rfl
     |some z=>rw[hf]at hnone;cases hnone
    have hgl:getM gp r.N.aI us=none:=by unfold getM;rw[show aY gp r.N.aI us 0=none from hf];rfl
    have hin:=usd [] (by rw[hgl];rfl)
    refine .op () (by show(if(aY uH r.N.aI us 0).isSome then none else some ())=_;rw[hf];rfl) (.skip (.call _ (AA n [] bd (by show 0<n;omega) (by decide)) fun(b:Bool) hb=>.skip (.op () (if_pos ⟨hb0,by rw[hk];exact hb1⟩) (.op cb hcb (.skip ?_)))))
    rw[← hb]at hin;simp only[hmine,hin,Bool.false_or]at hsp;refine .br (fun g=>.skip (.call _ hrt fun(q:Int×Bool) hq=>.skip (.br (fun h=>by rw[hmine]at h;cases h) fun _=>.skip (.br (fun h2=>.skip (.tidy rfl (.inl (.done rfl ?_)))) fun h2=>.skip (.br (fun h3=>.skip (.tidy rfl (.inl (.done rfl ?_)))) fun h3=>.skip ?_))))) fun g=>.skip ?_
    ·rw[hsp,if_pos (by rw[show(!cb)=true from g];rfl),if_pos (by rw[h2];simp)];rfl
    ·subst hq;rw[hsp,if_pos (by rw[show(!cb)=true from g];rfl),if_pos (by rw[show(!q.2)=true from h3];simp)];rfl
    ·subst hq;have hspec:∀h:az,h=Go.L.az.mk t (Go.L.af.mk r.N.IP 32) (-1) r.A.Next r.N.dU 0 q.1→oB hm S=fJ hm (ql r own sq h):=fun h e=>by
      subst e;rw[hsp,if_pos (by rw[show(!cb)=true from g];rfl),if_neg (by rw[h2,show(!q.2)=false from h3];simp)];rfl
     refine .call _ hmob fun q hq=>.skip (.join (fun(x:Int)=>x=kg r own) ?_ fun x hx=>.skip (.join (fun(y:Int)=>y=ki r) ?_ fun y hy=>.skip (.inl (.cR _ (vA n hn f own k cr us dm tn sb hm _) fun m hm2=>.tidy rfl (.inl (.done rfl ?_))))))
     ·refine .br (fun h=>.skip (.done rfl ?_)) fun h=>.skip (.done rfl ?_)
      ·unfold kg;rw[if_neg (by simpa using h)]
      ·unfold kg;rw[if_pos (by simpa using h)]
     ·refine .br (fun h=>.skip (.done rfl ?_)) fun h=>.skip (.done rfl ?_)
      ·unfold ki;rw[if_pos (show uy r.N.aI=true from h)]
      ·unfold ki;rw[if_neg (by rw[show uy r.N.aI=false from h];simp)]
     ·subst hx hy;rw[hm2,hq];exact(hspec _ rfl).symm
    ·rw[show(!cb)=false from g,Bool.false_or]at hsp;refine .br (fun g2=>.skip (.join (fun(x:Unit⊕(Int×Int×Int×Int×Int))=>match x with
      | .inl _=>oB hm S=hm
      | .inr h=>∀m2,m2=fJ hm (ql r own sq (Go.L.az.mk t (Go.L.af.mk r.N.IP 32) h.1 h.2.1 h.2.2.1 h.2.2.2.1 h.2.2.2.2))→oB hm S=m2) ?_ fun x hx=>?_)) fun g2=>.skip ?_
     ·rw[show(!b)=true from g2,Bool.true_and]at hsp;refine .br (fun g3=>.skip (.call _ hrt fun(q:Int×Bool) hq=>.skip (.br (fun h=>by rw[hmine]at h;cases h) fun _=>.skip (.br (fun h2=>.skip (.done rfl ?_)) fun h2=>.skip (.br (fun h3=>.skip (.done rfl ?_)) fun h3=>.skip (.done rfl ?_)))))) fun g3=>.skip (.done rfl ?_)
      ·show oB hm S=hm;rw[hsp,if_pos g3,if_pos (by rw[h2];simp)];rfl
      ·show oB hm S=hm;subst hq;rw[hsp,if_pos g3,if_pos (by rw[show(!q.2)=true from h3];simp)];rfl
      ·subst hq;intro m2 e;rw[e,hsp,if_pos g3,if_neg (by rw[h2,show(!q.2)=false from h3];simp)];rfl
      ·intro m2 e;rw[e,hsp,if_neg (by rw[g3];simp)];rfl
     ·cases x with
      |inl u=>exact .tidy rfl (.inl (.done rfl (show hm=oB hm S from hx.symm)))
      |inr h=>
       refine .skip ?_;have hspec:∀h2:az,h2=Go.L.az.mk t (Go.L.af.mk r.N.IP 32) h.1 h.2.1 h.2.2.1 h.2.2.2.1 h.2.2.2.2→oB hm S=fJ hm (ql r own sq h2):=fun h2 e=>by
        subst e;exact hx _ rfl
       refine .call _ hmob fun q hq=>.skip (.join (fun(x:Int)=>x=kg r own) ?_ fun x hx=>.skip (.join (fun(y:Int)=>y=ki r) ?_ fun y hy=>.skip (.inl (.cR _ (vA n hn f own k cr us dm tn sb hm _) fun m hm2=>.tidy rfl (.inl (.done rfl ?_))))))
       ·refine .br (fun h=>.skip (.done rfl ?_)) fun h=>.skip (.done rfl ?_)
        ·unfold kg;rw[if_neg (by simpa using h)]
        ·unfold kg;rw[if_pos (by simpa using h)]
       ·refine .br (fun h=>.skip (.done rfl ?_)) fun h=>.skip (.done rfl ?_)
        ·unfold ki;rw[if_pos (show uy r.N.aI=true from h)]
        ·unfold ki;rw[if_neg (by rw[show uy r.N.aI=false from h];simp)]
       ·subst hx hy;rw[hm2,hq];exact(hspec _ rfl).symm
     ·have hspec:∀h2:az,h2=Go.L.az.mk t (Go.L.af.mk r.N.IP 32) bd 0 0 r.N.aS 0→oB hm S=fJ hm (ql r own sq h2):=fun h2 e=>by
       subst e;rw[hsp,if_neg (by rw[show(!b)=false from g2];simp)];rfl
      refine .call _ hmob fun q hq=>.skip (.join (fun(x:Int)=>x=kg r own) ?_ fun x hx=>.skip (.join (fun(y:Int)=>y=ki r) ?_ fun y hy=>.skip (.inl (.cR _ (vA n hn f own k cr us dm tn sb hm _) fun m hm2=>.tidy rfl (.inl (.done rfl ?_))))))
      ·refine .br (fun h=>.skip (.done rfl ?_)) fun h=>.skip (.done rfl ?_)
       ·unfold kg;rw[if_neg (by simpa using h)]
       ·unfold kg;rw[if_pos (by simpa using h)]
      ·refine .br (fun h=>.skip (.done rfl ?_)) fun h=>.skip (.done rfl ?_)
       ·unfold ki;rw[if_pos (show uy r.N.aI=true from h)]
       ·unfold ki;rw[if_neg (by rw[show uy r.N.aI=false from h];simp)]
      ·subst hx hy;rw[hm2,hq];exact(hspec _ rfl).symm
end Go.L
end
section
namespace Go.L
open Go.AM
def rY(r:bZ):Bool:=(r.N.Kind==2)&&r.N.eO
def iu(f:av)(own:Int)(cr:List Bool)(us:List (cF Int×List Int))(dm tn:List (Int×Int))(sb:List (aa×Bool))(dH:af→Bool)(sq:Int)(rt:Int×Bool)(ts:List Int)(r:bZ)(T:Int):List aj:=
 match getM cm T tn with
 |none=>[]
 |some t=>if rY r then(mw f own cr us dm t dH sq rt ts r).toList else(CX own t sb rt r).toList
def qz(f:av)(own:Int)(cr:List Bool)(us:List (cF Int×List Int))(dm tn:List (Int×Int))(sb:List (aa×Bool))(dH:af→Bool)(sq:Int)(rt:Int×Bool)(ts:List Int)(r:bZ):List aj:=
 if rY r||(r.N.Kind==5)then ts.flatMap (iu f own cr us dm tn sb dH sq rt ts r)else[]
theorem Hq(hm:List (aa×aj))(o:Option aj):oB hm o=o.toList.foldl fJ hm:=by cases o<;>rfl
theorem Pc(n:Nat)(hn:11≤n)(f:av)(own:Int)(k:Nat)(cr:List Bool)(us:List (cF Int×List Int))(dm tn:List (Int×Int))(sb:List (aa×Bool))(hm:List (aa×aj))(ts:List Int)(r:bZ)(dH:af→Bool)(sq:Int)(rt:Int×Bool)
 (htg:At (cS.S n r.A.dR) (fun(q:List Int)=>q=ts)) (hrt:At (dY.S n r.A.dR) (fun(q:Int×Bool)=>q=rt)) (hmob:At (dQ.S n r.A.dR) (fun(q:Bool×Int×Bool)=>q.2.1=sq))
 (hts:ts.length<100000) (htn:ts.length<n) (hdm:∀T bd,getM cm T dm=some bd→0≤bd∧bd<f.aG.length) (hcon:∀d∈f.aG,At (cM.S n (d.ay,r.N.IP)) (fun(b:Bool)=>b=dH d.ay))
 (hk:k=f.aG.length) (hcr:cr.length=f.aG.length) (hus:∀e l,getM gp e us=some l→l.length<n∧l.length<100000):
 At (uI.c.S n (f,own,k,cr,us,dm,tn,sb,hm,r)) (fun m=>m=(qz f own cr us dm tn sb dH sq rt ts r).foldl fJ hm):=by
 refine(?_ :cD n (pE f own k cr us dm tn sb hm r) _);unfold pE;have found:∀(T:Int) (x:Nat×Int),aY kF T tn 0=some x→getM cm T tn=some x.2:=fun T x h=>by unfold getM;rw[show aY cm T tn 0=some x from h];rfl
 have lost:∀(T:Int),aY kF T tn 0=none→getM cm T tn=none:=fun T h=>by unfold getM;rw[show aY cm T tn 0=none from h];rfl
 refine .skip (.br (fun k2=>.skip (.br (fun nip=>.skip (.br (fun k5=>.skip (.tidy rfl (.inl (.done rfl ?_)))) fun k5=>?_)) fun nip=>?_)) fun k2=>.skip (.br (fun k5=>.skip (.tidy rfl (.inl (.done rfl ?_)))) fun k5=>?_))
 ·have:qz f own cr us dm tn sb dH sq rt ts r=[]:=by
   unfold qz rY;rw[show r.N.eO=false by simpa using nip]
   rw[if_neg];simp only[bne_iff_ne]at k5;simp[k5]
  rw[this];rfl
 ·simp only[beq_iff_eq]at k2;rw[k2]at k5;exact absurd k5 (by decide)
 ·have hip:r.N.eO=true:=by simpa using nip
  have hh:rY r=true:=by unfold rY;rw[k2,hip];rfl
  have hR:qz f own cr us dm tn sb dH sq rt ts r=ts.flatMap (iu f own cr us dm tn sb dH sq rt ts r):=by unfold qz;rw[hh];rfl
  rw[hR];refine .skip (.call _ htg fun(q:List Int) hq=>?_)
  subst hq;refine .skip (.op () rfl (.skip (.loop (dW q fun pre m=>m=(pre.flatMap (iu f own cr us dm tn sb dH sq rt q r)).foldl fJ hm) (fun a=>q.length - a.1.toNat) (fun m=>m=(q.flatMap (iu f own cr us dm tn sb dH sq rt q r)).foldl fJ hm) rfl (dW.start rfl) (by simpa using htn) (fun a ha=>?_) (fun m hm2=>.tidy rfl (.inl (.done rfl hm2))))))
  refine .skip (.br (fun g=>?_) fun g=>.skip (.done rfl (ha.fin g)))
  obtain⟨T,pre,h1,h2,h3,_,h5⟩:=ha.get g;have next:∀m,m=(iu f own cr us dm tn sb dH sq rt q r T).foldl fJ a.2→m=((pre++[T]).flatMap (iu f own cr us dm tn sb dH sq rt q r)).foldl fJ hm:=fun m e=>by
   rw[e,List.flatMap_append,List.foldl_append,← h3];simp
  refine .skip (.op T h1 (.skip (.op () rfl (.skip ?_))));cases hf:aY kF T tn 0 with
  |none=>exact .br (fun _=>.skip (.done rfl (h5 hts _ (next _ (by unfold iu;rw[lost T hf];rfl))))) fun e=>by cases e
  |some x=>
   refine .br (fun e=>by cases e) fun _=>.skip (.join (fun m=>m=oB a.2 (mw f own cr us dm x.2 dH sq rt q r)) ?_ fun m e=>.skip (.done rfl (h5 hts _ (next _ ?_))))
   ·exact .br (fun _=>.skip (.inl (.cR _ (Qx n hn f own k cr us dm tn sb a.2 x.2 q r dH sq rt hrt hmob hts htn hdm hcon hk hcr hus) fun m e=>.done rfl e))) fun e=>by rw[hip]at e;cases e
   ·rw[e,Hq];unfold iu;rw[found T x hf];simp only[hh,if_true]
 ·have:qz f own cr us dm tn sb dH sq rt ts r=[]:=by
   unfold qz rY;rw[k2,if_neg];simp only[bne_iff_ne]at k5;simp[k5]
  rw[this];rfl
 ·have hk5:r.N.Kind=5:=by simpa using k5
  have hh:rY r=false:=by unfold rY;rw[k2];rfl
  have hR:qz f own cr us dm tn sb dH sq rt ts r=ts.flatMap (iu f own cr us dm tn sb dH sq rt ts r):=by unfold qz;rw[hh,hk5];rfl
  rw[hR];refine .skip (.call _ htg fun(q:List Int) hq=>?_)
  subst hq;refine .skip (.op () rfl (.skip (.loop (dW q fun pre m=>m=(pre.flatMap (iu f own cr us dm tn sb dH sq rt q r)).foldl fJ hm) (fun a=>q.length - a.1.toNat) (fun m=>m=(q.flatMap (iu f own cr us dm tn sb dH sq rt q r)).foldl fJ hm) rfl (dW.start rfl) (by simpa using htn) (fun a ha=>?_) (fun m hm2=>.tidy rfl (.inl (.done rfl hm2))))))
  refine .skip (.br (fun g=>?_) fun g=>.skip (.done rfl (ha.fin g)))
  obtain⟨T,pre,h1,h2,h3,_,h5⟩:=ha.get g;have next:∀m,m=(iu f own cr us dm tn sb dH sq rt q r T).foldl fJ a.2→m=((pre++[T]).flatMap (iu f own cr us dm tn sb dH sq rt q r)).foldl fJ hm:=fun m e=>by
   rw[e,List.flatMap_append,List.foldl_append,← h3];simp
  refine .skip (.op T h1 (.skip (.op () rfl (.skip ?_))));cases hf:aY kF T tn 0 with
  |none=>exact .br (fun _=>.skip (.done rfl (h5 hts _ (next _ (by unfold iu;rw[lost T hf];rfl))))) fun e=>by cases e
  |some x=>
   refine .br (fun e=>by cases e) fun _=>.skip (.inl (.cR _ (NM n hn f own k cr us dm tn sb a.2 x.2 r rt hrt) fun m e=>.skip (.done rfl (h5 hts _ (next _ ?_)))))
   rw[e,Hq];unfold iu;rw[found T x hf];simp only[hh,Bool.false_eq_true,if_false]
end Go.L
end
section
namespace Go.L
open Go.AM
def lC(x:az):aa:=⟨x.au,x.af⟩
def qm(k:bS)(x:az):az:=Go.L.az.mk k.To x.af x.BD x.Next x.aZ x.aS x.bD
theorem ER(k:bS)(x:az):lC (qm k x)=⟨k.To,x.af⟩:=rfl
def bX(bh:af→af→Bool)(k:bS)(s:List az×List (aa×Bool))(x:az):List az×List (aa×Bool):=
 if x.au != k.From then s
 else if(getM bk ⟨k.To,x.af⟩ s.2).getD false then s
 else if !bh k.af x.af then s
 else(s.1++[qm k x],bN bk ⟨k.To,x.af⟩ true s.2)
def kG(own:List az):List (aa×Bool):=own.foldl (fun m x=>bN bk (lC x) true m) []
def FJ(bh:af→af→Bool)(leaks:List bS)(own:List az):List az×List (aa×Bool):=leaks.foldl (fun s k=>own.foldl (bX bh k) s) (own,kG own)
def nv(bh:af→af→Bool)(k:bS)(all:List az)(x:az):Bool:=(x.au==k.From)&& !(decide ((⟨k.To,x.af⟩:aa)∈all.map lC))&&bh k.af x.af
def qZ(bh:af→af→Bool)(own:List az)(all:List az)(k:bS):List az:=all++(own.filter (nv bh k all)).map (qm k)
def DK(bh:af→af→Bool)(leaks:List bS)(own:List az):List az:=leaks.foldl (qZ bh own) own
def Tk(s:List az×List (aa×Bool)):Prop:=∀p,(getM bk p s.2).getD false=decide (p∈s.1.map lC)
theorem Tk.add{s:List az×List (aa×Bool)}(h:Tk s)(x:az):Tk (s.1++[x],bN bk (lC x) true s.2):=by
 intro p;rw[rU zo];by_cases hp:p=lC x
 ·rw[if_pos hp];simp[hp]
 ·rw[if_neg hp,h p];simp only[List.map_append,List.map_cons,List.map_nil,List.mem_append,List.mem_singleton,hp,or_false]
theorem Pd(own:List az):Tk (own,kG own):=by
 have:∀(l:List az) (s:List az×List (aa×Bool)),Tk s→Tk (s.1++l,l.foldl (fun m x=>bN bk (lC x) true m) s.2):=by
  intro l;induction l with
  |nil=>intro s h;simpa using h
  |cons x l ih=>
   intro s h;have:=ih _ (h.add x);simpa using this
 have h:=this own ([],[]) (fun p=>by simp[Pa])
 simpa[kG]using h
theorem round_eq(bh:af→af→Bool)(k:bS):∀(own:List az) (s:List az×List (aa×Bool)),(own.map lC).Nodup→Tk s→(own.foldl (bX bh k) s).1=qZ bh own s.1 k∧Tk (own.foldl (bX bh k) s)
 | [],s,_,h=>⟨by simp[qZ],h⟩
 |x::xs,s,hn,h=>by
  simp only[List.map_cons,List.nodup_cons]at hn;simp only[List.foldl_cons];have hc:nv bh k s.1 x=true∨nv bh k s.1 x=false:=by cases nv bh k s.1 x<;>simp
  rcases hc with hc |hc
  ·have hx:bX bh k s x=(s.1++[qm k x],bN bk ⟨k.To,x.af⟩ true s.2):=by
    unfold nv at hc;simp only[Bool.and_eq_true,beq_iff_eq,Bool.not_eq_true',decide_eq_false_iff_not]at hc;unfold bX;rw[if_neg (by simp[hc.1.1]),if_neg (by rw[h];simpa using hc.1.2),if_neg (by simp[hc.2])]
   rw[hx];obtain⟨i1,i2⟩:=round_eq bh k xs (s.1++[qm k x],bN bk ⟨k.To,x.af⟩ true s.2) hn.2 (h.add (qm k x));refine⟨?_,i2⟩;rw[i1];unfold qZ;have hfr:x.au=k.From:=by
    unfold nv at hc;simp only[Bool.and_eq_true,beq_iff_eq]at hc;exact hc.1.1
   have:xs.filter (nv bh k (s.1++[qm k x]))=xs.filter (nv bh k s.1):=by
    apply List.filter_congr;intro y hy;unfold nv;by_cases hyt:y.au=k.From
    ·have hne:(⟨k.To,y.af⟩:aa)≠lC (qm k x):=by
      rw[ER];intro e;have e2:y.af=x.af:=by injection e
      exact hn.1 (List.mem_map.2 ⟨y,hy,by unfold lC;rw[hyt,hfr,e2]⟩)
     simp only[List.map_append,List.map_cons,List.map_nil,List.mem_append,List.mem_singleton,hne,or_false]
    ·have hb:(y.au==k.From)=false:=by simpa using hyt
     simp only[hb,Bool.false_and]
   simp only[List.filter_cons,hc,if_true,List.map_cons,List.append_assoc,this,List.cons_append,List.nil_append]
  ·have hx:bX bh k s x=s:=by
    unfold nv at hc;unfold bX;by_cases h1:x.au=k.From
    ·rw[if_neg (by simp[h1])]
     by_cases h2:(⟨k.To,x.af⟩:aa)∈s.1.map lC
     ·rw[if_pos (by rw[h];simpa using h2)]
     ·rw[if_neg (by rw[h];simpa using h2)]
      have h3:bh k.af x.af=false:=by simpa[h1,h2]using hc
      rw[if_pos (by rw[h3];rfl)]
    ·rw[if_pos (by simpa using h1)]
   rw[hx];obtain⟨i1,i2⟩:=round_eq bh k xs s hn.2 h;refine⟨?_,i2⟩;rw[i1];unfold qZ;simp only[List.filter_cons,hc,Bool.false_eq_true,if_false]
theorem Jw(bh:af→af→Bool)(leaks:List bS)(own:List az)(hn:(own.map lC).Nodup):(FJ bh leaks own).1=DK bh leaks own:=by
 have:∀(ls:List bS) (s:List az×List (aa×Bool)),Tk s→(ls.foldl (fun s k=>own.foldl (bX bh k) s) s).1=ls.foldl (qZ bh own) s.1:=by
  intro ls;induction ls with
  |nil=>intro s _;rfl
  |cons k ls ih=>
   intro s h;obtain⟨h1,h2⟩:=round_eq bh k own s hn h;simp only[List.foldl_cons];rw[ih _ h2,h1]
 exact this leaks _ (Pd own)
theorem Mi(bh:af→af→Bool){own own' all all':List az}(h1:own.Perm own')(h2:all.Perm all')(k:bS):(qZ bh own all k).Perm (qZ bh own' all' k):=by
 unfold qZ;have:nv bh k all=nv bh k all':=funext fun x=>by
  unfold nv;have:(⟨k.To,x.af⟩:aa)∈all.map lC↔(⟨k.To,x.af⟩:aa)∈all'.map lC:=(h2.map lC).mem_iff;simp only[this]
 rw[this];exact h2.append ((h1.filter _).map _)
theorem Mj(bh:af→af→Bool)(leaks:List bS){own own':List az}(h:own.Perm own'):(DK bh leaks own).Perm (DK bh leaks own'):=by
 have:∀(ls:List bS) (a a':List az),a.Perm a'→(ls.foldl (qZ bh own) a).Perm (ls.foldl (qZ bh own') a'):=by
  intro ls;induction ls with
  |nil=>intro a a' h;exact h
  |cons k ls ih=>intro a a' ha;exact ih _ _ (Mi bh h ha k)
 exact this leaks own own' h
theorem Kl(bh:af→af→Bool){own all:List az}(h1:(own.map lC).Nodup)(h2:(all.map lC).Nodup)(k:bS):((qZ bh own all k).map lC).Nodup:=by
 unfold qZ;rw[List.map_append,List.nodup_append];refine⟨h2,?_,fun p hp q hq=>?_⟩
 ·have hsub:((own.filter (nv bh k all)).map lC).Nodup:=(List.filter_sublist.map lC).nodup h1;have hfrom:∀x∈own.filter (nv bh k all),x.au=k.From:=fun x hx=>by
   have:=(List.mem_filter.1 hx).2;unfold nv at this;simp only[Bool.and_eq_true,beq_iff_eq]at this;exact this.1.1
  generalize own.filter (nv bh k all)=l at hsub hfrom;induction l with
  |nil=>exact List.nodup_nil
  |cons x l ih=>
   simp only[List.map_cons,List.nodup_cons]at hsub ⊢;refine⟨fun hx=>?_,ih hsub.2 fun y hy=>hfrom y (List.mem_cons_of_mem _ hy)⟩
   obtain⟨y',hy',he⟩:=List.mem_map.1 hx;obtain⟨y,hy,rfl⟩:=List.mem_map.1 hy';rw[ER,ER]at he;have e2:y.af=x.af:=by injection he
   exact hsub.1 (List.mem_map.2 ⟨y,hy,by unfold lC;rw[hfrom y (List.mem_cons_of_mem _ hy),hfrom x List.mem_cons_self,e2]⟩)
 ·rintro rfl;obtain⟨y',hy',rfl⟩:=List.mem_map.1 hq;obtain⟨y,hy,rfl⟩:=List.mem_map.1 hy';have:=(List.mem_filter.1 hy).2;unfold nv at this;simp only[Bool.and_eq_true,Bool.not_eq_true',decide_eq_false_iff_not]at this;exact this.1.2 hp
theorem Km(bh:af→af→Bool)(leaks:List bS){own:List az}(h:(own.map lC).Nodup):((DK bh leaks own).map lC).Nodup:=by
 have:∀(ls:List bS) (a:List az),(a.map lC).Nodup→((ls.foldl (qZ bh own) a).map lC).Nodup:=by
  intro ls;induction ls with
  |nil=>intro a h;exact h
  |cons k ls ih=>intro a ha;exact ih _ (Kl bh h ha k)
 exact this leaks own h
end Go.L
end
section
namespace Go.L
open Go.AM
theorem xg{K V:Type}{eq:K→K→Bool}(heq:∀a b,eq a b=true↔a=b)(l:List (K×V))(k:K)(v:V)(h:getM eq k (iA eq l)=some v):(k,v)∈l:=by
 have hd:∀(a b:K),Decidable (a=b):=fun a b=>decidable_of_iff _ (heq a b)
 have:∀(l:List (K×V)) (m:List (K×V)),getM eq k (l.foldl (fun m p=>bN eq p.1 p.2 m) m)=some v→(k,v)∈l∨getM eq k m=some v:=by
  intro l;induction l with
  |nil=>exact fun m h=>.inr h
  |cons p l ih=>
   intro m h;rcases ih _ h with h |h
   ·exact .inl (List.mem_cons_of_mem _ h)
   ·rw[rU heq]at h;split at h
    ·rename_i he;cases h;exact .inl (by rw[he];exact List.mem_cons_self)
    ·exact .inr h
 rcases this l [] h with h |h
 ·exact h
 ·cases h
theorem sg{α β:Type}{g:Nat→α→List β}{l:List α}{y:β}(h:y∈fU g l):∃i x,l[i]? =some x∧y∈g i x:=by
 unfold fU at h;obtain⟨p,hp,hy⟩:=List.mem_flatMap.1 h;exact⟨p.2,p.1,List.mem_zipIdx_iff_getElem?.1 hp,hy⟩
theorem NO(a b:Int):cm a b=true↔a=b:=by unfold cm;simp
theorem SJ(a b:cF Int):gp a b=true↔a=b:=by
 unfold gp;simp only[Bool.and_eq_true,beq_iff_eq,and_true];constructor
 ·rintro⟨h0,h1,h2,h3,h4,h5,h6,h7,h8,h9⟩;cases a;cases b;simp only at h0 h1 h2 h3 h4 h5 h6 h7 h8 h9;subst h0 h1 h2 h3 h4 h5 h6 h7 h8 h9;rfl
 ·rintro rfl;exact⟨rfl,rfl,rfl,rfl,rfl,rfl,rfl,rfl,rfl,rfl⟩
def iW(f:av)(self:Int):List Bool:=(List.range f.aG.length).map fun b=>decide (((b:Nat):Int)∈f.ax.flatMap (wK self))
def xG(f:av)(self:Int)(up:List Bool)(es:Int→cF Int):List (cF Int×List Int):=iA gp (fU (vB self up es) f.ax)
def vE(f:av):List (Int×Int):=iA cm (fU (fun i d=>[(d.Target,(i:Int))]) f.aG)
def Hr(f:av):List (Int×Int):=iA cm (fU (fun i t=>[(t.Target,(i:Int))]) f.aA)
def P0(f:av)(self:Int):List (aa×Bool):=(qY f (iW f self)).foldl DJ []
structure iw where
 lo:Int
 es:Int→cF Int
 dH:af→Int→Bool
 bh:af→af→Bool
 tg:bZ→List Int
 rt:bZ→Int×Bool
 sq:bZ→Int
def Aa(f:av)(self:Int)(up:List Bool)(K:iw)(r:bZ):List aj:=
 qz f K.lo (iW f self) (xG f self up K.es) (vE f) (Hr f) (P0 f self) (fun p=>K.dH p r.N.IP) (K.sq r) (K.rt r) (K.tg r) r
def fW(f:av)(self:Int)(up:List Bool)(K:iw)(rs:List bZ):List aj:=qY f (iW f self)++rs.flatMap (Aa f self up K)
def ri(f:av)(self:Int)(up:List Bool)(K:iw)(rs:List bZ):List (aa×aj):=(fW f self up K rs).foldl fJ []
def mz(hm:List (aa×aj)):List az:=hm.map fun e=>e.2.az
theorem Rk(f:av)(T bd:Int)(h:getM cm T (vE f)=some bd):0≤bd∧bd<f.aG.length:=by
 obtain⟨i,x,h1,h2⟩:=sg (xg NO _ _ _ h);simp only[List.mem_singleton,Prod.mk.injEq]at h2;have:=(List.getElem?_eq_some_iff.1 h1).1;omega
theorem Rl(f:av)(self:Int)(up:List Bool)(es:Int→cF Int)(e:cF Int)(l:List Int)(h:getM gp e (xG f self up es)=some l):∃s∈f.ax,l=s.aG:=by
 obtain⟨i,x,h1,h2⟩:=sg (xg SJ _ _ _ h);unfold vB at h2;split at h2
 ·simp only[List.mem_singleton,Prod.mk.injEq]at h2;exact⟨x,List.mem_of_getElem? h1,h2.2⟩
 ·cases h2
theorem Mh.RZ{f:av}{self:Int}{up:List Bool}{es:Int→cF Int}{lo:Int}{r:List Bool×List (cF Int×List Int)×List (Int×Int)×List (Int×Int)×List (aa×Bool)×List (aa×aj)×av×Int×Nat}(h:Mh f self up es lo r):r.1=iW f self:=by
 apply List.ext_getElem?;intro b;unfold iW;by_cases hb:b<f.aG.length
 ·rw[h.cr b hb];simp[hb]
 ·rw[List.getElem?_eq_none (by rw[h.SI];omega),List.getElem?_eq_none (by simp;omega)]
def xh(hm:List (aa×aj)):Prop:=(hm.map (·.1)).Nodup∧∀e∈hm,e.1=kI e.2
theorem xh.put{hm:List (aa×aj)}(h:xh hm)(x:aj):xh (fJ hm x):=by
 refine⟨(FH h.1 x).1,fun e he=>?_⟩
 unfold fJ at he;have key:∀e∈bN bk (kI x) x hm,e.1=kI e.2:=fun e he=>by
  obtain⟨p,y⟩:=e;rcases(Rj zo hm (kI x) x h.1 p y).1 he with⟨rfl,rfl⟩ |⟨_,h2⟩
  ·rfl
  ·exact h.2 _ h2
 split at he
 ·exact key e he
 ·split at he
  ·exact key e he
  ·exact h.2 e he
theorem xh.fold{hm:List (aa×aj)}(h:xh hm):∀(cs:List aj),xh (cs.foldl fJ hm)
 | []=>h
 |x::cs=>(h.put x).fold cs
theorem CZ:∀(cs:List aj) (hm:List (aa×aj)),(hm.map (·.1)).Nodup→(cs.foldl fJ hm).length≤hm.length+cs.length
 | [],hm,_=>Nat.le_refl _
 |x::cs,hm,h=>by
  have h1:=FH h x;have h2:=CZ cs (fJ hm x) h1.1;simp only[List.foldl_cons,List.length_cons];omega
theorem Be(f:av)(self:Int)(up:List Bool)(K:iw)(rs:List bZ):xh (ri f self up K rs):=xh.fold (hm:=[]) ⟨List.nodup_nil,fun _ h=>by cases h⟩ _
theorem FL{hm:List (aa×aj)}(h:xh hm):((mz hm).map lC).Nodup:=by
 have:(mz hm).map lC=hm.map (·.1):=by
  unfold mz;rw[List.map_map];apply List.map_congr_left;intro e he;exact(h.2 e he).symm
 rw[this];exact h.1
def Mk:az:=Go.L.az.mk 0 (Go.L.af.mk 0 0) 0 0 0 0 0
def Jy(hm:List (aa×aj))(i:Nat):az:=((hm[i]?).map fun e=>e.2.az).getD Mk
theorem Ml(hm:List (aa×aj)):(List.range hm.length).map (Jy hm)=mz hm:=by
 apply List.ext_getElem
 ·simp[mz]
 ·intro i h1 h2;have h:i<hm.length:=by simpa using h1
  simp[Jy,mz,h]
end Go.L
end
section
namespace Go.L
open Go.AM
structure C0(n:Nat)(f:av)(leaf:Int)(up:List Bool)(rs:List bZ)(K:iw)(srt:List az→List az):Prop where
 hn:11≤n
 ck:At (ff.S n f) (fun(r:Int×ByteArray×Int)=>r.1=0)
 h0:0≤leaf
 h1:leaf<f.Leaves
 lo:At (iE.S n (f,leaf)) (fun r=>r=K.lo)
 seg:FI n f
 es:∀i:Nat,i<f.ax.length→At (jR.S n (i:Int)) (fun(r:cF Int×Int)=>r.1=K.es i)
 rl:rs.length<100000
 rn:rs.length<n
 tg:∀r∈rs,At (cS.S n r.A.dR) (fun(q:List Int)=>q=K.tg r)
 rt:∀r∈rs,At (dY.S n r.A.dR) (fun(q:Int×Bool)=>q=K.rt r)
 sq:∀r∈rs,At (dQ.S n r.A.dR) (fun(q:Bool×Int×Bool)=>q.2.1=K.sq r)
 tl:∀r∈rs,(K.tg r).length<100000∧(K.tg r).length<n
 dH:∀r∈rs,∀d∈f.aG,At (cM.S n (d.ay,r.N.IP)) (fun(b:Bool)=>b=K.dH d.ay r.N.IP)
 bh:∀k∈f.Leaks,∀p,At (lQ.S n (k.af,p)) (fun(b:Bool)=>b=K.bh k.af p)
 kl:f.Leaks.length<100000
 kn:f.Leaks.length<n
 cs:(fW f leaf up K rs).length<90000
 sz:((fW f leaf up K rs).length+1)*(f.Leaks.length+2)<1000000000
 cn:(fW f leaf up K rs).length+1<n
 so:∀l:List az,l.length<1000000000→At (k4.S n l) (fun r=>r=srt l)
 sl:∀l:List az,(srt l).length=l.length
theorem NP(bh:af→af→Bool)(k:bS)(s:List az×List (aa×Bool))(x:az):(bX bh k s x).1.length≤s.1.length+1∧∃e,(bX bh k s x).1=s.1++e:=by
 unfold bX;split
 ·exact⟨Nat.le_succ _,[],by simp⟩
 split
 ·exact⟨Nat.le_succ _,[],by simp⟩
 split
 ·exact⟨Nat.le_succ _,[],by simp⟩
 ·exact⟨by simp,[qm k x],rfl⟩
theorem mL(bh:af→af→Bool)(k:bS):∀(p:List az) (s:List az×List (aa×Bool)),(p.foldl (bX bh k) s).1.length≤s.1.length+p.length∧∃e,(p.foldl (bX bh k) s).1=s.1++e
 | [],s=>⟨Nat.le_refl _,[],by simp⟩
 |x::p,s=>by
  obtain⟨h1,e1,h2⟩:=NP bh k s x;obtain⟨h3,e3,h4⟩:=mL bh k p (bX bh k s x);simp only[List.foldl_cons,List.length_cons];exact⟨by omega,e1++e3,by rw[h4,h2,List.append_assoc]⟩
def fD(bh:af→af→Bool)(own:List az)(pre:List bS):List az×List (aa×Bool):=pre.foldl (fun s k=>own.foldl (bX bh k) s) (own,kG own)
theorem sj(bh:af→af→Bool)(own:List az):∀(pre:List bS) (s:List az×List (aa×Bool)),(pre.foldl (fun s k=>own.foldl (bX bh k) s) s).1.length≤s.1.length+pre.length*own.length∧∃e,(pre.foldl (fun s k=>own.foldl (bX bh k) s) s).1=s.1++e
 | [],s=>⟨by simp,[],by simp⟩
 |k::pre,s=>by
  obtain⟨h1,e1,h2⟩:=mL bh k own s;obtain⟨h3,e3,h4⟩:=sj bh own pre (own.foldl (bX bh k) s);simp only[List.foldl_cons,List.length_cons];refine⟨?_,e1++e3,by rw[h4,h2,List.append_assoc]⟩
  rw[Nat.add_mul];omega
abbrev En:=List (aa×Bool)
def rj:(Int×List az×En)⊕(Int×List az×List az×En)→Int×(List az×En)
 | .inl a=>(a.1,a.2.1,a.2.2)
 | .inr a=>(a.1,a.2.2.1,a.2.2.2)
def BZ:(Int×List az×En)⊕(Int×List az×List az×En)→List az
 | .inl a=>a.2.1
 | .inr a=>a.2.1
def DL:(List az×En)⊕(List az×List az×En)→List az×En
 | .inl a=>a
 | .inr a=>a.2
def DM:(List az×En)⊕(List az×List az×En)→List az
 | .inl a=>a.1
 | .inr a=>a.1
def Pre(own l:List az):Prop:=∃e,l=own++e
theorem Pre.get{own l:List az}(h:Pre own l){i:Nat}{x:az}(hx:own[i]? =some x):l[i]? =some x:=by
 obtain⟨e,rfl⟩:=h;rw[List.getElem?_append_left (List.getElem?_eq_some_iff.1 hx).1];exact hx
theorem Pre.snoc{own l:List az}(h:Pre own l)(x:az):Pre own (l++[x]):=by
 obtain⟨e,rfl⟩:=h;exact⟨e++[x],by rw[List.append_assoc]⟩
theorem Pe(n:Nat)(f:av)(leaf:Int)(up:List Bool)(rs:List bZ)(K:iw)(srt:List az→List az)(H:C0 n f leaf up rs K srt):
 dK n (pG f leaf up rs) (fun r=>∃own:List az,own.Perm (mz (ri f leaf up K rs))∧r=srt (FJ K.bh f.Leaks own).1):=by
 unfold pG;have hn0:0<n:=by have:=H.hn;omega
 have hnew:At (rX.c.S n (f,leaf,up)) (fun r=>r=(iW f leaf,xG f leaf up K.es,vE f,Hr f,[],[],f,K.lo,f.aG.length)):=
  (HT n f leaf K.lo up K.es H.lo H.seg H.es).mono fun r h=>by
   have h1:=h.RZ;obtain⟨a1,a2,a3,a4,a5,a6,a7,a8,a9⟩:=r;have:=h.us;have:=h.dm;have:=h.tn;have:=h.sb;have:=h.hm;have:=h.fb;have:=h.own;have:=h.len;simp only at*
   subst_vars;rfl
 have hcrl:(iW f leaf).length=f.aG.length:=by simp[iW]
 refine .skip (.call _ H.ck fun r5 h5=>.skip (.br (fun h=>by rw[h5]at h;cases h) fun _=>.skip (.br (fun h=>absurd H.h0 (by simpa using h)) fun _=>.skip (.br (fun h=>absurd H.h1 (by simpa using h)) fun _=>.skip (.inl (.cR _ hnew fun r9 h9=>?_))))))
 subst h9;refine .skip (.inl (.cR _ (Jv n H.hn f K.lo _ _ _ _ _ _ _ H.seg.b H.seg.bn rfl hcrl) fun r10 h10=>?_))
 subst h10;have hdm:=Rk f;have hus:∀e l,getM gp e (xG f leaf up K.es)=some l→l.length<n∧l.length<100000:=fun e l h=>by
  obtain⟨s,hs,rfl⟩:=Rl f leaf up K.es e l h;obtain⟨_,_,q3,q4,_⟩:=H.seg.s s hs;exact⟨q3,q4⟩
 refine .skip (.op () rfl (.skip (.loop (dW rs fun pre m=>m=(pre.flatMap (Aa f leaf up K)).foldl fJ ((qY f (iW f leaf)).foldl fJ [])) (fun a=>rs.length - a.1.toNat) (fun m=>m=ri f leaf up K rs) rfl (dW.start rfl) (by simpa using H.rn) (fun a ha=>?_) (fun t26 h26=>?_))))
 ·refine .skip (.br (fun g=>?_) fun g=>.skip (.done rfl ?_))
  ·obtain⟨r,pre,g1,g2,g3,_,g5⟩:=ha.get g;obtain⟨l1,l2⟩:=H.tl r g2;refine .skip (.op r g1 (.skip (.inl (.cR _ (Pc n H.hn f K.lo _ _ _ _ _ _ a.2 (K.tg r) r (fun p=>K.dH p r.N.IP) (K.sq r) (K.rt r) (H.tg r g2) (H.rt r g2) (H.sq r g2) l1 l2 hdm (H.dH r g2) rfl hcrl hus) fun m hm=>.skip (.done rfl (g5 H.rl _ ?_))))))
   rw[hm,g3,List.flatMap_append,List.foldl_append,List.flatMap_cons,List.flatMap_nil,List.append_nil];rfl
  ·have:=ha.fin g;show a.2=ri f leaf up K rs;rw[this];unfold ri fW;rw[List.foldl_append]
 subst h26;generalize hhm:ri f leaf up K rs=hm;have hkey:xh hm:=hhm▸Be f leaf up K rs;have hlen:hm.length≤(fW f leaf up K rs).length:=by
  rw[← hhm];unfold ri;simpa using CZ (fW f leaf up K rs) [] (by simp)
 have hsz:=H.sz;have hcn:=H.cn;have hcs:=H.cs;have hsm:hm.length<90000:=by omega
 have hroom:roomy (Int.toNat (((List.length hm):Nat):Int)) 56=true:=by
  simp only[roomy,Bool.and_eq_true,decide_eq_true_eq,Int.toNat_natCast];omega
 refine .skip (.inl (.skip (.op () rfl (.op () (if_pos ⟨Int.natCast_nonneg _,hroom⟩) (.skip (.op () rfl (.skip ?_)))))));refine .loop (fun a=>a.2.2.Nodup∧(∀i∈a.2.2,i<hm.length)∧a.1=a.2.2.map (Jy hm)∧a.2.1=kG a.1) (fun a=>hm.length - a.2.2.length) (fun t=>t.1.Perm (mz hm)∧t.2.1=kG t.1) rfl ⟨List.nodup_nil,(fun i (h:i∈([]:List Nat))=>(List.not_mem_nil h).elim),rfl,rfl⟩ (by show hm.length - 0<n;omega) (fun a ha=>?_) (fun t42 h42=>?_)
 ·obtain⟨hnd,hlt,hk,htk⟩:=ha;refine .pick (fun hall=>.skip (.done rfl ⟨?_,htk⟩)) (fun i hi hns=>?_)
  ·show a.1.Perm _;rw[hk,← Ml];exact(NN hnd hlt hall).map _
  ·have hi':i<hm.length:=hi;have hl2:a.2.2.length<hm.length:=by
    have h1:(a.2.2++[i]).Nodup:=by
     rw[List.nodup_append];exact⟨hnd,by simp,fun x hx y hy=>by simp only[List.mem_singleton]at hy;subst hy;rintro rfl;exact hns hx⟩
    have h2:(a.2.2++[i]).length≤hm.length:=by
     have:=List.Nodup.length_le_of_subset h1 (l₂:=List.range hm.length) (fun x hx=>by
      rcases List.mem_append.1 hx with h |h
      ·exact List.mem_range.2 (hlt x h)
      ·simp only[List.mem_singleton]at h;subst h;exact List.mem_range.2 hi')
     simpa using this
    simp at h2;omega
   have hal:a.1.length=a.2.2.length:=by rw[hk];simp
   have r1:roomy (a.1.length+[(hm[i]'hi').2.az].length) 56=true:=by
    simp only[roomy,Bool.and_eq_true,decide_eq_true_eq,List.length_singleton];omega
   have r2:(a.2.2++[i]).Nodup:=by
    rw[List.nodup_append];exact⟨hnd,by simp,fun x hx y hy=>by simp only[List.mem_singleton]at hy;subst hy;rintro rfl;exact hns hx⟩
   have r3:∀x∈a.2.2++[i],x<hm.length:=fun x hx=>by
    rcases List.mem_append.1 hx with h |h
    ·exact hlt x h
    ·simp only[List.mem_singleton]at h;subst h;exact hi'
   have r4:a.1++[(hm[i]'hi').2.az]=(a.2.2++[i]).map (Jy hm):=by
    rw[List.map_append,← hk];simp[Jy,hi']
   have r5:bN bk (hm[i]'hi').1 true a.2.1=kG (a.1++[(hm[i]'hi').2.az]):=by
    rw[htk,hkey.2 _ (List.getElem_mem hi')];simp[kG,lC,kI]
   have r6:hm.length - (a.2.2++[i]).length<hm.length - a.2.2.length:=by simp;omega
   exact .skip (.op (hm[i]'hi') (List.getElem?_eq_getElem hi') (.skip (.op () (if_pos ⟨rfl,r1⟩) (.skip (.op () rfl (.done rfl ⟨⟨r2,r3,r4,r5⟩,r6⟩))))))
 obtain⟨own,tk,seen⟩:=t42;obtain⟨hperm,htk⟩:=h42;simp only at hperm htk;subst htk;have hol:own.length=hm.length:=by rw[hperm.length_eq];simp[mz]
 have hkl:=H.kl;have bound:∀(a b:Nat),a≤f.Leaks.length→b≤own.length→own.length+a*own.length+b<1000000000:=fun a b h1 h2=>by
  have h3:a*own.length≤f.Leaks.length*own.length:=Nat.mul_le_mul_right _ h1;have h4:((fW f leaf up K rs).length+1)*(f.Leaks.length+2)=f.Leaks.length*((fW f leaf up K rs).length+1)+2*((fW f leaf up K rs).length+1):=by rw[Nat.mul_comm,Nat.add_mul]
  have h5:f.Leaks.length*own.length≤f.Leaks.length*((fW f leaf up K rs).length+1):=Nat.mul_le_mul_left _ (by omega)
  omega
 refine .skip (.op () rfl (.skip (.nr (fun a=>dW f.Leaks (fun pre s=>s=fD K.bh own pre) (rj a)∧Pre own (BZ a)) (fun a=>f.Leaks.length - (rj a).1.toNat) (fun l=>l=(FJ K.bh f.Leaks own).1) rfl ⟨dW.start rfl,[],(List.append_nil _).symm⟩ (by have:=H.kn;show f.Leaks.length - 0<n;omega) (fun a ha=>?_) (fun t80 h80=>?_))))
 ·have hol9:own.length<100000:=by omega
  cases a with
  |inl a=>
   obtain⟨ha,hbase⟩:=ha;refine .skip (.br (fun g=>?_) fun g=>.skip (.done rfl (congrArg Prod.fst (ha.fin g))))
   obtain⟨k,pre,g1,g2,g3,⟨gi,gpost,hgp⟩,g5⟩:=ha.get g;have g3:(a.2.1,a.2.2)=fD K.bh own pre:=g3;have hprl:pre.length≤f.Leaks.length:=by
    have:=congrArg List.length hgp;simp only[List.length_append,List.length_cons]at this;omega
   refine .skip (.op k g1 (.skip (.nr (fun a2=>dW own (fun p s=>s=p.foldl (bX K.bh k) (fD K.bh own pre)) (rj a2)∧Pre own (BZ a2)) (fun a2=>own.length - (rj a2).1.toNat) (fun e=>DL e=own.foldl (bX K.bh k) (fD K.bh own pre)∧Pre own (DM e)) rfl ⟨dW.start g3,hbase⟩ (by show own.length - 0<n;omega) (fun a2 ha2=>?_) (fun e he=>?_))))
   ·cases a2 with
    |inl b=>
     refine .skip (.br (fun c=>?_) fun c=>.skip (.done rfl ⟨ha2.1.fin c,ha2.2⟩))
     obtain⟨x,p,c1,c2,c3,⟨ci,cpost,hcp⟩,c5⟩:=ha2.1.get c;have ci:b.1=((p.length:Nat):Int):=ci;have hpl:p.length<own.length:=by
      have:=congrArg List.length hcp;simp only[List.length_append,List.length_cons]at this;omega
     have hxi:own[b.1.toNat]? =some x:=by
      have c1:fN own b.1=some x:=c1;rw[ci,bq]at c1;rw[ci];exact c1
     have hx1:=ha2.2.get hxi;have c3:(b.2.1,b.2.2)=p.foldl (bX K.bh k) (fD K.bh own pre):=c3;have hbound:(b.2.1).length<1000000000:=by
      have b1:=(mL K.bh k p (fD K.bh own pre)).1;have b2:=(sj K.bh own pre (own,kG own)).1;have b3:=bound pre.length p.length hprl (by omega)
      rw[← c3]at b1;have b2:(fD K.bh own pre).1.length≤own.length+pre.length*own.length:=b2;simp only at b1;omega
     have hroom1:roomy ((b.2.1).length+1) 56=true:=by
      simp only[roomy,Bool.and_eq_true,decide_eq_true_eq];omega
     have step:∀s',s'=bX K.bh k (b.2.1,b.2.2) x→s'=(p++[x]).foldl (bX K.bh k) (fD K.bh own pre):=fun s' e=>by
      rw[e,c3,List.foldl_append];rfl
     have hi0:0≤b.1∧b.1<((own.length:Nat):Int):=by omega
     have keep:bX K.bh k (b.2.1,b.2.2) x=(b.2.1,b.2.2)→_:=fun e=>(⟨⟨(c5 hol9 _ (step _ e.symm)).1,ha2.2⟩,(c5 hol9 _ (step _ e.symm)).2⟩:pe (fun a2=>dW own (fun p s=>s=p.foldl (bX K.bh k) (fD K.bh own pre)) (rj a2)∧Pre own (BZ a2)) (fun a2=>own.length - (rj a2).1.toNat) (fun e=>DL e=own.foldl (bX K.bh k) (fD K.bh own pre)∧Pre own (DM e)) (.inl b) (.inl (.inl (IntKind.wrap .i64 (b.1+1),b.2.1,b.2.2))))
     refine .skip (.op () (if_pos hi0) (.op x hx1 (.skip (.br (fun d1=>.skip (.done rfl (keep (by unfold bX;rw[if_pos d1])))) fun d1=>.skip (.op () rfl (.skip (.br (fun d2=>.skip (.done rfl (keep ?_))) fun d2=>.skip (.call _ (H.bh k g2 x.af) fun(r68:Bool) h68=>.skip (.br (fun d3=>.skip (.done rfl (keep ?_))) fun d3=>.skip (.op () rfl (.skip ?_)))))))))))
     ·have d2:(getM bk ⟨k.To,x.af⟩ b.2.2).getD false=true:=d2;unfold bX;rw[if_neg (by rw[d1];simp),if_pos d2]
     ·have d2:(getM bk ⟨k.To,x.af⟩ b.2.2).getD false=false:=d2;unfold bX;rw[if_neg (by rw[d1];simp),if_neg (by rw[d2];simp),if_pos (by rw[← h68];exact d3)]
     have d2:(getM bk ⟨k.To,x.af⟩ b.2.2).getD false=false:=d2;have e:bX K.bh k (b.2.1,b.2.2) x=(b.2.1++[qm k x],bN bk ⟨k.To,x.af⟩ true b.2.2):=by
      unfold bX;rw[if_neg (by rw[d1];simp),if_neg (by rw[d2];simp),if_neg (by rw[← h68,d3];simp)]
     have hok:GK.ok {l:=b.2.1,m:=[qm k x],enc:=dF,n:=8,bytes:=56,b:=7,aq:=0,len:=List.length b.2.1}=true:=by
      show(decide ((b.2.1).length=(b.2.1).length)&&roomy ((b.2.1).length+1) 56)=true;rw[hroom1];simp
     refine .grow hok (.skip (.done rfl ⟨⟨(c5 hol9 _ (step _ e.symm)).1,ha2.2.snoc _⟩,(c5 hol9 _ (step _ e.symm)).2⟩)) (.skip (.done rfl ⟨⟨(c5 hol9 _ (step _ e.symm)).1,ha2.2⟩,(c5 hol9 _ (step _ e.symm)).2⟩))
    |inr b=>
     refine .skip (.br (fun c=>?_) fun c=>.skip (.done rfl ⟨ha2.1.fin c,ha2.2⟩))
     obtain⟨x,p,c1,c2,c3,⟨ci,cpost,hcp⟩,c5⟩:=ha2.1.get c;have ci:b.1=((p.length:Nat):Int):=ci;have hpl:p.length<own.length:=by
      have:=congrArg List.length hcp;simp only[List.length_append,List.length_cons]at this;omega
     have hxi:own[b.1.toNat]? =some x:=by
      have c1:fN own b.1=some x:=c1;rw[ci,bq]at c1;rw[ci];exact c1
     have hx1:=ha2.2.get hxi;have c3:(b.2.2.1,b.2.2.2)=p.foldl (bX K.bh k) (fD K.bh own pre):=c3;have hbound:(b.2.2.1).length<1000000000:=by
      have b1:=(mL K.bh k p (fD K.bh own pre)).1;have b2:=(sj K.bh own pre (own,kG own)).1;have b3:=bound pre.length p.length hprl (by omega)
      rw[← c3]at b1;have b2:(fD K.bh own pre).1.length≤own.length+pre.length*own.length:=b2;simp only at b1;omega
     have hroom1:roomy ((b.2.2.1).length+1) 56=true:=by
      simp only[roomy,Bool.and_eq_true,decide_eq_true_eq];omega
     have step:∀s',s'=bX K.bh k (b.2.2.1,b.2.2.2) x→s'=(p++[x]).foldl (bX K.bh k) (fD K.bh own pre):=fun s' e=>by
      rw[e,c3,List.foldl_append];rfl
     have hi0:0≤b.1∧b.1<((own.length:Nat):Int):=by omega
     have keep:bX K.bh k (b.2.2.1,b.2.2.2) x=(b.2.2.1,b.2.2.2)→_:=fun e=>(⟨⟨(c5 hol9 _ (step _ e.symm)).1,ha2.2⟩,(c5 hol9 _ (step _ e.symm)).2⟩:pe (fun a2=>dW own (fun p s=>s=p.foldl (bX K.bh k) (fD K.bh own pre)) (rj a2)∧Pre own (BZ a2)) (fun a2=>own.length - (rj a2).1.toNat) (fun e=>DL e=own.foldl (bX K.bh k) (fD K.bh own pre)∧Pre own (DM e)) (.inr b) (.inl (.inr (IntKind.wrap .i64 (b.1+1),b.2.1,b.2.2.1,b.2.2.2))))
     refine .skip (.op () (if_pos hi0) (.op x hx1 (.skip (.br (fun d1=>.skip (.done rfl (keep (by unfold bX;rw[if_pos d1])))) fun d1=>.skip (.op () rfl (.skip (.br (fun d2=>.skip (.done rfl (keep ?_))) fun d2=>.skip (.call _ (H.bh k g2 x.af) fun(r68:Bool) h68=>.skip (.br (fun d3=>.skip (.done rfl (keep ?_))) fun d3=>.skip (.op () rfl (.skip ?_)))))))))))
     ·have d2:(getM bk ⟨k.To,x.af⟩ b.2.2.2).getD false=true:=d2;unfold bX;rw[if_neg (by rw[d1];simp),if_pos d2]
     ·have d2:(getM bk ⟨k.To,x.af⟩ b.2.2.2).getD false=false:=d2;unfold bX;rw[if_neg (by rw[d1];simp),if_neg (by rw[d2];simp),if_pos (by rw[← h68];exact d3)]
     have d2:(getM bk ⟨k.To,x.af⟩ b.2.2.2).getD false=false:=d2;have e:bX K.bh k (b.2.2.1,b.2.2.2) x=(b.2.2.1++[qm k x],bN bk ⟨k.To,x.af⟩ true b.2.2.2):=by
      unfold bX;rw[if_neg (by rw[d1];simp),if_neg (by rw[d2];simp),if_neg (by rw[← h68,d3];simp)]
     refine .op () (if_pos ⟨rfl,hroom1⟩) (.skip (.done rfl ⟨⟨(c5 hol9 _ (step _ e.symm)).1,ha2.2⟩,(c5 hol9 _ (step _ e.symm)).2⟩))
   ·have hP:∀s',s'=own.foldl (bX K.bh k) (fD K.bh own pre)→s'=fD K.bh own (pre++[k]):=fun s' e=>by rw[e];unfold fD;rw[List.foldl_append];rfl
    cases e with
    |inl t=>exact .skip (.done rfl ⟨⟨(g5 hkl _ (hP _ he.1)).1,he.2⟩,(g5 hkl _ (hP _ he.1)).2⟩)
    |inr t=>exact .skip (.done rfl ⟨⟨(g5 hkl _ (hP _ he.1)).1,he.2⟩,(g5 hkl _ (hP _ he.1)).2⟩)
  |inr a=>
   obtain⟨ha,hbase⟩:=ha;refine .skip (.br (fun g=>?_) fun g=>.skip (.done rfl (congrArg Prod.fst (ha.fin g))))
   obtain⟨k,pre,g1,g2,g3,⟨gi,gpost,hgp⟩,g5⟩:=ha.get g;have g3:(a.2.2.1,a.2.2.2)=fD K.bh own pre:=g3;have hprl:pre.length≤f.Leaks.length:=by
    have:=congrArg List.length hgp;simp only[List.length_append,List.length_cons]at this;omega
   refine .skip (.op k g1 (.skip (.nr (fun a2=>dW own (fun p s=>s=p.foldl (bX K.bh k) (fD K.bh own pre)) (rj a2)∧Pre own (BZ a2)) (fun a2=>own.length - (rj a2).1.toNat) (fun e=>DL e=own.foldl (bX K.bh k) (fD K.bh own pre)∧Pre own (DM e)) rfl ⟨dW.start g3,hbase⟩ (by show own.length - 0<n;omega) (fun a2 ha2=>?_) (fun e he=>?_))))
   ·cases a2 with
    |inl b=>
     refine .skip (.br (fun c=>?_) fun c=>.skip (.done rfl ⟨ha2.1.fin c,ha2.2⟩))
     obtain⟨x,p,c1,c2,c3,⟨ci,cpost,hcp⟩,c5⟩:=ha2.1.get c;have ci:b.1=((p.length:Nat):Int):=ci;have hpl:p.length<own.length:=by
      have:=congrArg List.length hcp;simp only[List.length_append,List.length_cons]at this;omega
     have hxi:own[b.1.toNat]? =some x:=by
      have c1:fN own b.1=some x:=c1;rw[ci,bq]at c1;rw[ci];exact c1
     have hx1:=ha2.2.get hxi;have c3:(b.2.1,b.2.2)=p.foldl (bX K.bh k) (fD K.bh own pre):=c3;have hbound:(b.2.1).length<1000000000:=by
      have b1:=(mL K.bh k p (fD K.bh own pre)).1;have b2:=(sj K.bh own pre (own,kG own)).1;have b3:=bound pre.length p.length hprl (by omega)
      rw[← c3]at b1;have b2:(fD K.bh own pre).1.length≤own.length+pre.length*own.length:=b2;simp only at b1;omega
     have hroom1:roomy ((b.2.1).length+1) 56=true:=by
      simp only[roomy,Bool.and_eq_true,decide_eq_true_eq];omega
     have step:∀s',s'=bX K.bh k (b.2.1,b.2.2) x→s'=(p++[x]).foldl (bX K.bh k) (fD K.bh own pre):=fun s' e=>by
      rw[e,c3,List.foldl_append];rfl
     have hi0:0≤b.1∧b.1<((own.length:Nat):Int):=by omega
     have keep:bX K.bh k (b.2.1,b.2.2) x=(b.2.1,b.2.2)→_:=fun e=>(⟨⟨(c5 hol9 _ (step _ e.symm)).1,ha2.2⟩,(c5 hol9 _ (step _ e.symm)).2⟩:pe (fun a2=>dW own (fun p s=>s=p.foldl (bX K.bh k) (fD K.bh own pre)) (rj a2)∧Pre own (BZ a2)) (fun a2=>own.length - (rj a2).1.toNat) (fun e=>DL e=own.foldl (bX K.bh k) (fD K.bh own pre)∧Pre own (DM e)) (.inl b) (.inl (.inl (IntKind.wrap .i64 (b.1+1),b.2.1,b.2.2))))
     refine .skip (.op () (if_pos hi0) (.op x hx1 (.skip (.br (fun d1=>.skip (.done rfl (keep (by unfold bX;rw[if_pos d1])))) fun d1=>.skip (.op () rfl (.skip (.br (fun d2=>.skip (.done rfl (keep ?_))) fun d2=>.skip (.call _ (H.bh k g2 x.af) fun(r68:Bool) h68=>.skip (.br (fun d3=>.skip (.done rfl (keep ?_))) fun d3=>.skip (.op () rfl (.skip ?_)))))))))))
     ·have d2:(getM bk ⟨k.To,x.af⟩ b.2.2).getD false=true:=d2;unfold bX;rw[if_neg (by rw[d1];simp),if_pos d2]
     ·have d2:(getM bk ⟨k.To,x.af⟩ b.2.2).getD false=false:=d2;unfold bX;rw[if_neg (by rw[d1];simp),if_neg (by rw[d2];simp),if_pos (by rw[← h68];exact d3)]
     have d2:(getM bk ⟨k.To,x.af⟩ b.2.2).getD false=false:=d2;have e:bX K.bh k (b.2.1,b.2.2) x=(b.2.1++[qm k x],bN bk ⟨k.To,x.af⟩ true b.2.2):=by
      unfold bX;rw[if_neg (by rw[d1];simp),if_neg (by rw[d2];simp),if_neg (by rw[← h68,d3];simp)]
     have hok:GK.ok {l:=b.2.1,m:=[qm k x],enc:=dF,n:=8,bytes:=56,b:=7,aq:=0,len:=List.length b.2.1}=true:=by
      show(decide ((b.2.1).length=(b.2.1).length)&&roomy ((b.2.1).length+1) 56)=true;rw[hroom1];simp
     refine .grow hok (.skip (.done rfl ⟨⟨(c5 hol9 _ (step _ e.symm)).1,ha2.2.snoc _⟩,(c5 hol9 _ (step _ e.symm)).2⟩)) (.skip (.done rfl ⟨⟨(c5 hol9 _ (step _ e.symm)).1,ha2.2⟩,(c5 hol9 _ (step _ e.symm)).2⟩))
    |inr b=>
     refine .skip (.br (fun c=>?_) fun c=>.skip (.done rfl ⟨ha2.1.fin c,ha2.2⟩))
     obtain⟨x,p,c1,c2,c3,⟨ci,cpost,hcp⟩,c5⟩:=ha2.1.get c;have ci:b.1=((p.length:Nat):Int):=ci;have hpl:p.length<own.length:=by
      have:=congrArg List.length hcp;simp only[List.length_append,List.length_cons]at this;omega
     have hxi:own[b.1.toNat]? =some x:=by
      have c1:fN own b.1=some x:=c1;rw[ci,bq]at c1;rw[ci];exact c1
     have hx1:=ha2.2.get hxi;have c3:(b.2.2.1,b.2.2.2)=p.foldl (bX K.bh k) (fD K.bh own pre):=c3;have hbound:(b.2.2.1).length<1000000000:=by
      have b1:=(mL K.bh k p (fD K.bh own pre)).1;have b2:=(sj K.bh own pre (own,kG own)).1;have b3:=bound pre.length p.length hprl (by omega)
      rw[← c3]at b1;have b2:(fD K.bh own pre).1.length≤own.length+pre.length*own.length:=b2;simp only at b1;omega
     have hroom1:roomy ((b.2.2.1).length+1) 56=true:=by
      simp only[roomy,Bool.and_eq_true,decide_eq_true_eq];omega
     have step:∀s',s'=bX K.bh k (b.2.2.1,b.2.2.2) x→s'=(p++[x]).foldl (bX K.bh k) (fD K.bh own pre):=fun s' e=>by
      rw[e,c3,List.foldl_append];rfl
     have hi0:0≤b.1∧b.1<((own.length:Nat):Int):=by omega
     have keep:bX K.bh k (b.2.2.1,b.2.2.2) x=(b.2.2.1,b.2.2.2)→_:=fun e=>(⟨⟨(c5 hol9 _ (step _ e.symm)).1,ha2.2⟩,(c5 hol9 _ (step _ e.symm)).2⟩:pe (fun a2=>dW own (fun p s=>s=p.foldl (bX K.bh k) (fD K.bh own pre)) (rj a2)∧Pre own (BZ a2)) (fun a2=>own.length - (rj a2).1.toNat) (fun e=>DL e=own.foldl (bX K.bh k) (fD K.bh own pre)∧Pre own (DM e)) (.inr b) (.inl (.inr (IntKind.wrap .i64 (b.1+1),b.2.1,b.2.2.1,b.2.2.2))))
     refine .skip (.op () (if_pos hi0) (.op x hx1 (.skip (.br (fun d1=>.skip (.done rfl (keep (by unfold bX;rw[if_pos d1])))) fun d1=>.skip (.op () rfl (.skip (.br (fun d2=>.skip (.done rfl (keep ?_))) fun d2=>.skip (.call _ (H.bh k g2 x.af) fun(r68:Bool) h68=>.skip (.br (fun d3=>.skip (.done rfl (keep ?_))) fun d3=>.skip (.op () rfl (.skip ?_)))))))))))
     ·have d2:(getM bk ⟨k.To,x.af⟩ b.2.2.2).getD false=true:=d2;unfold bX;rw[if_neg (by rw[d1];simp),if_pos d2]
     ·have d2:(getM bk ⟨k.To,x.af⟩ b.2.2.2).getD false=false:=d2;unfold bX;rw[if_neg (by rw[d1];simp),if_neg (by rw[d2];simp),if_pos (by rw[← h68];exact d3)]
     have d2:(getM bk ⟨k.To,x.af⟩ b.2.2.2).getD false=false:=d2;have e:bX K.bh k (b.2.2.1,b.2.2.2) x=(b.2.2.1++[qm k x],bN bk ⟨k.To,x.af⟩ true b.2.2.2):=by
      unfold bX;rw[if_neg (by rw[d1];simp),if_neg (by rw[d2];simp),if_neg (by rw[← h68,d3];simp)]
     refine .op () (if_pos ⟨rfl,hroom1⟩) (.skip (.done rfl ⟨⟨(c5 hol9 _ (step _ e.symm)).1,ha2.2⟩,(c5 hol9 _ (step _ e.symm)).2⟩))
   ·have hP:∀s',s'=own.foldl (bX K.bh k) (fD K.bh own pre)→s'=fD K.bh own (pre++[k]):=fun s' e=>by rw[e];unfold fD;rw[List.foldl_append];rfl
    cases e with
    |inl t=>exact .skip (.done rfl ⟨⟨(g5 hkl _ (hP _ he.1)).1,he.2⟩,(g5 hkl _ (hP _ he.1)).2⟩)
    |inr t=>exact .skip (.done rfl ⟨⟨(g5 hkl _ (hP _ he.1)).1,he.2⟩,(g5 hkl _ (hP _ he.1)).2⟩)
 ·subst h80;have hll:(FJ K.bh f.Leaks own).1.length<1000000000:=by
   have h1:=(sj K.bh own f.Leaks (own,kG own)).1;have h2:=bound f.Leaks.length 0 (Nat.le_refl _) (Nat.zero_le _);show(f.Leaks.foldl (fun s k=>own.foldl (bX K.bh k) s) (own,kG own)).1.length<1000000000
   simp only at h1;omega
  refine .skip (.tidy rfl (.inl (.skip (.cB _ (H.so _ hll) fun r75 h75=>.skip (.done ?_ ⟨own,hperm,h75⟩)))))
  simp only[aN,fC,Bool.and_true];subst h75;exact decide_eq_true (by rw[List.length_map];exact(H.sl _).symm)
end Go.L
end
section
namespace Go.L
open Go.AM
theorem Kn{a b:az}(h:iL a=iL b):lC a=lC b:=by
 unfold iL at h;simp only[List.cons.injEq,and_true]at h;obtain⟨h1,h2,h3⟩:=h;unfold lC;have:a.af=b.af:=by
  cases ha:a.af;cases hb:b.af;rw[ha,hb]at h2 h3;simp only at h2 h3;rw[h2,h3]
 rw[h1,this]
theorem Hs{α β:Type}{g:α→β}:∀{l:List α},(l.map g).Nodup→∀{a b:α},a∈l→b∈l→g a=g b→a=b
 |x::l,hn,a,b,ha,hb,h=>by
  simp only[List.map_cons,List.nodup_cons]at hn;rcases List.mem_cons.1 ha with e1 |ha2<;>rcases List.mem_cons.1 hb with e2 |hb2
  ·rw[e1,e2]
  ·exact absurd (List.mem_map.2 ⟨b,hb2,by rw[← h,e1]⟩) hn.1
  ·exact absurd (List.mem_map.2 ⟨a,ha2,by rw[h,e2]⟩) hn.1
  ·exact Hs hn.2 ha2 hb2 h
theorem Mm{l l':List az}(h:l.Perm l')(hn:(l.map lC).Nodup):gO l=gO l':=by
 refine List.Perm.eq_of_pairwise (le:=fun a b=>¬Ay b a) (fun a b ha hb h1 h2=>?_) (jE l).2 (jE l').2 ((jE l).1.trans (h.trans (jE l').1.symm))
 have ha:=(jE l).1.mem_iff.1 ha;have hb:=h.mem_iff.2 ((jE l').1.mem_iff.1 hb);refine Hs hn ha hb (Kn ?_);unfold Ay tq at h1 h2;rw[rQ]at h1;exact(rP (show(iL a).length=(iL b).length from rfl)).1 (by omega)
noncomputable def Kc(n:Nat)(f:av)(leaf:Int):iw where
 lo:=(iE.S n (f,leaf)).getD (0:Int)
 es:=fun i=>((jR.S n i).getD ((Mf,(0:Int)):cF Int×Int)).1
 dH:=fun p ip=>(cM.S n (p,ip)).getD false
 bh:=fun p q=>(lQ.S n (p,q)).getD false
 tg:=fun r=>(cS.S n r.A.dR).getD ([]:List Int)
 rt:=fun r=>(dY.S n r.A.dR).getD ((0,false):Int×Bool)
 sq:=fun r=>((dQ.S n r.A.dR).getD ((false,0,false):Bool×Int×Bool)).2.1
noncomputable def ny(f:av)(leaf:Int)(up:List Bool)(rs:List bZ)(K:iw):List az:=gO (DK K.bh f.Leaks (mz (ri f leaf up K rs)))
def Jz(n:Nat)(f:av)(leaf:Int):Prop:=At (ff.S n f) (fun(r:Int×ByteArray×Int)=>r.1≠0∨leaf<0∨f.Leaves≤leaf)
open Classical in
noncomputable def Ik(n:Nat)(x:av×Int×List Bool×List bZ):Option (List az):=
 if C0 n x.1 x.2.1 x.2.2.1 x.2.2.2 (Kc n x.1 x.2.1) gO then some (ny x.1 x.2.1 x.2.2.1 x.2.2.2 (Kc n x.1 x.2.1))
 else if Jz n x.1 x.2.1 then some []else none
theorem Pf(n:Nat)(f:av)(leaf:Int)(up:List Bool)(rs:List bZ)(K:iw)(H:C0 n f leaf up rs K gO):dK n (pG f leaf up rs) (fun r=>r=ny f leaf up rs K):=
 G.dD n _ (fun r ⟨own,h1,h2⟩=>by
  have hn:=FL (Be f leaf up K rs);have hn2:(own.map lC).Nodup:=(h1.map lC).nodup_iff.2 hn;rw[h2,Jw _ _ _ hn2];exact Mm (Mj _ _ h1) (Km _ _ hn2)) (Pe n f leaf up rs K gO H)
theorem NQ(n:Nat)(f:av)(leaf:Int)(up:List Bool)(rs:List bZ)(H:Jz n f leaf):dK n (pG f leaf up rs) (fun(r:List az)=>r=[]):=by
 unfold pG;refine .skip (.call _ H fun r5 h5=>.skip (.br (fun h=>.skip (.done rfl rfl)) fun g0=>.skip (.br (fun h=>.skip (.done rfl rfl)) fun g1=>.skip (.br (fun h=>.skip (.done rfl rfl)) fun g2=>?_))))
 simp only[bne_eq_false_iff_eq]at g0;simp only[decide_eq_false_iff_not]at g1 g2;rcases h5 with h5 |h5 |h5
 ·exact absurd g0 h5
 ·exact absurd h5 g1
 ·exact absurd h5 g2
noncomputable def k7:aK prog:=Jx.all Ik fun n x r h=>by
 unfold Ik at h;split at h
 ·rename_i H;cases h;exact⟨n,G.dD n _ (fun y hy=>by rw[hy]) (Pf n x.1 x.2.1 x.2.2.1 x.2.2.2 _ H)⟩
 ·split at h
  ·rename_i H;cases h;exact⟨n,G.dD n _ (fun y hy=>by rw[hy]) (NQ n x.1 x.2.1 x.2.2.1 x.2.2.2 H)⟩
  ·cases h
theorem K8(n:Nat)(f:av)(leaf:Int)(up:List Bool)(rs:List bZ)(H:C0 n f leaf up rs (Kc n f leaf) gO):At (k7.S n (f,leaf,up,rs)) (fun(r:List az)=>r=ny f leaf up rs (Kc n f leaf)):=
 ⟨_,if_pos H,rfl⟩
end Go.L
end
