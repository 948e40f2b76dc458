/- Put together out of parts: Routes' keys compared: a total order on keys. No conditions. -/
import Derived.Test.YtiohninblcifpaaGreatDoorWh
import Derived.Test.YtiohninblcifpaaGreatDoorPa
import Derived.Test.YtiohninblcifpaaGreatDoorPb
section
namespace Go.L
open Go.AM
set_option maxRecDepth 100000
set_option linter.unusedVariables false
set_option linter.unusedSimpArgs false
theorem ET(n:Nat)(a b:Int):At (qo.S n (a,b)) (fun(r:Int)=>r=cS a b):=by
 refine(?_ :cU n (qn a b) _);unfold qn;have e:∀x:Int,At (gI.S n x) (fun(r:Bool)=>r=false):=fun x=>⟨x != x,rfl,by simp⟩
 refine .skip (.call _ (e a) fun r3 h3=>.skip (.call _ (e b) fun r4 h4=>.skip (.br (fun h=>by rw[h3]at h;cases h) fun _=>.skip (.br (fun h=>by rw[h4]at h;cases h) fun _=>.skip (.br (fun h=>.skip (.done rfl ?_)) fun h=>.skip (.br (fun h2=>.skip (.done rfl ?_)) fun h2=>.skip (.done rfl ?_)))))))
 all_goals (simp only[decide_eq_true_eq,decide_eq_false_iff_not]at*;unfold cS)
 ·rw[if_pos h]
 ·rw[if_neg h,if_pos h2]
 ·rw[if_neg h,if_neg h2]
theorem Px(n:Nat)(a b:Int):At (xy.S n (a,b)) (fun(r:Int)=>r=cS a b):=by
 refine(?_ :cU n (ta a b) _);unfold ta;have e:∀x:Int,At (u9.S n x) (fun(r:Bool)=>r=false):=fun x=>⟨x != x,rfl,by simp⟩
 refine .skip (.call _ (e a) fun r3 h3=>.skip (.call _ (e b) fun r4 h4=>.skip (.br (fun h=>by rw[h3]at h;cases h) fun _=>.skip (.br (fun h=>by rw[h4]at h;cases h) fun _=>.skip (.br (fun h=>.skip (.done rfl ?_)) fun h=>.skip (.br (fun h2=>.skip (.done rfl ?_)) fun h2=>.skip (.done rfl ?_)))))))
 all_goals (simp only[decide_eq_true_eq,decide_eq_false_iff_not]at*;unfold cS)
 ·rw[if_pos h]
 ·rw[if_neg h,if_pos h2]
 ·rw[if_neg h,if_neg h2]
theorem Lq(n:Nat)(a b:Int):At (u7.S n (a,b)) (fun(r:Int)=>r=cS a b):=by
 refine(?_ :cU n (qm a b) _);unfold qm;have e:∀x:Int,At (rO.S n x) (fun(r:Bool)=>r=false):=fun x=>⟨x != x,rfl,by simp⟩
 refine .skip (.call _ (e a) fun r3 h3=>.skip (.call _ (e b) fun r4 h4=>.skip (.br (fun h=>by rw[h3]at h;cases h) fun _=>.skip (.br (fun h=>by rw[h4]at h;cases h) fun _=>.skip (.br (fun h=>.skip (.done rfl ?_)) fun h=>.skip (.br (fun h2=>.skip (.done rfl ?_)) fun h2=>.skip (.done rfl ?_)))))))
 all_goals (simp only[decide_eq_true_eq,decide_eq_false_iff_not]at*;unfold cS)
 ·rw[if_pos h]
 ·rw[if_neg h,if_pos h2]
 ·rw[if_neg h,if_neg h2]
theorem oL(n:Nat)(a b:Int):At (eE.S n (a,b)) (fun(r:Int)=>r=cS a b):=by
 refine(?_ :cU n (rP a b) _);unfold rP;have e:∀x:Int,At (ua.S n x) (fun(r:Bool)=>r=false):=fun x=>⟨x != x,rfl,by simp⟩
 refine .skip (.call _ (e a) fun r3 h3=>.skip (.call _ (e b) fun r4 h4=>.skip (.br (fun h=>by rw[h3]at h;cases h) fun _=>.skip (.br (fun h=>by rw[h4]at h;cases h) fun _=>.skip (.br (fun h=>.skip (.done rfl ?_)) fun h=>.skip (.br (fun h2=>.skip (.done rfl ?_)) fun h2=>.skip (.done rfl ?_)))))))
 all_goals (simp only[decide_eq_true_eq,decide_eq_false_iff_not]at*;unfold cS)
 ·rw[if_pos h]
 ·rw[if_neg h,if_pos h2]
 ·rw[if_neg h,if_neg h2]
def qT(x:dn Int):List Int:=[x.a0,x.a1,x.a2,x.a3,x.a4,x.a5,x.a6,x.a7,x.a8,x.a9]
theorem Qp(n:Nat)(x y:dn Int):At (xx.S n (x,y)) (fun(r:Int)=>r=eY (qT x) (qT y)):=by
 refine(?_ :cU n (s9 x y) _);unfold s9;refine .skip (.call (fun r=>r=(x.a0,x.a1,x.a2,x.a3,x.a4,x.a5,x.a6,x.a7,x.a8,x.a9)) ⟨_,rfl,rfl⟩ fun r3 h3=>?_)
 subst h3;refine .inl (.skip (.gT (.skip ?_)));refine .inl (.skip (.call _ (oL n _ _) fun q0 hq0=>.skip (.br (fun h=>?_) fun h0=>?_)))
 ·refine .skip (.tidy rfl (.skip (.tidy rfl (.inl (.done rfl ?_)))));subst hq0;have hne:cS x.a0 y.a0≠0:=by simpa using h
  simp only[qT,eY,if_true,if_neg hne]
 have e0:cS x.a0 y.a0=0:=by subst hq0;simpa using h0
 refine .skip (.tidy rfl (.skip ?_));refine .inl (.skip (.call _ (oL n _ _) fun q1 hq1=>.skip (.br (fun h=>?_) fun h1=>?_)))
 ·refine .skip (.tidy rfl (.skip (.tidy rfl (.inl (.done rfl ?_)))));subst hq1;have hne:cS x.a1 y.a1≠0:=by simpa using h
  simp only[qT,eY,e0,if_true,if_neg hne]
 have e1:cS x.a1 y.a1=0:=by subst hq1;simpa using h1
 refine .skip (.tidy rfl (.skip ?_));refine .inl (.skip (.call _ (oL n _ _) fun q2 hq2=>.skip (.br (fun h=>?_) fun h2=>?_)))
 ·refine .skip (.tidy rfl (.skip (.tidy rfl (.inl (.done rfl ?_)))));subst hq2;have hne:cS x.a2 y.a2≠0:=by simpa using h
  simp only[qT,eY,e0,e1,if_true,if_neg hne]
 have e2:cS x.a2 y.a2=0:=by subst hq2;simpa using h2
 refine .skip (.tidy rfl (.skip ?_));refine .inl (.skip (.call _ (oL n _ _) fun q3 hq3=>.skip (.br (fun h=>?_) fun h3=>?_)))
 ·refine .skip (.tidy rfl (.skip (.tidy rfl (.inl (.done rfl ?_)))));subst hq3;have hne:cS x.a3 y.a3≠0:=by simpa using h
  simp only[qT,eY,e0,e1,e2,if_true,if_neg hne]
 have e3:cS x.a3 y.a3=0:=by subst hq3;simpa using h3
 refine .skip (.tidy rfl (.skip ?_));refine .inl (.skip (.call _ (oL n _ _) fun q4 hq4=>.skip (.br (fun h=>?_) fun h4=>?_)))
 ·refine .skip (.tidy rfl (.skip (.tidy rfl (.inl (.done rfl ?_)))));subst hq4;have hne:cS x.a4 y.a4≠0:=by simpa using h
  simp only[qT,eY,e0,e1,e2,e3,if_true,if_neg hne]
 have e4:cS x.a4 y.a4=0:=by subst hq4;simpa using h4
 refine .skip (.tidy rfl (.skip ?_));refine .inl (.skip (.call _ (oL n _ _) fun q5 hq5=>.skip (.br (fun h=>?_) fun h5=>?_)))
 ·refine .skip (.tidy rfl (.skip (.tidy rfl (.inl (.done rfl ?_)))));subst hq5;have hne:cS x.a5 y.a5≠0:=by simpa using h
  simp only[qT,eY,e0,e1,e2,e3,e4,if_true,if_neg hne]
 have e5:cS x.a5 y.a5=0:=by subst hq5;simpa using h5
 refine .skip (.tidy rfl (.skip ?_));refine .inl (.skip (.call _ (oL n _ _) fun q6 hq6=>.skip (.br (fun h=>?_) fun h6=>?_)))
 ·refine .skip (.tidy rfl (.skip (.tidy rfl (.inl (.done rfl ?_)))));subst hq6;have hne:cS x.a6 y.a6≠0:=by simpa using h
  simp only[qT,eY,e0,e1,e2,e3,e4,e5,if_true,if_neg hne]
 have e6:cS x.a6 y.a6=0:=by subst hq6;simpa using h6
 refine .skip (.tidy rfl (.skip ?_));refine .inl (.skip (.call _ (oL n _ _) fun q7 hq7=>.skip (.br (fun h=>?_) fun h7=>?_)))
 ·refine .skip (.tidy rfl (.skip (.tidy rfl (.inl (.done rfl ?_)))));subst hq7;have hne:cS x.a7 y.a7≠0:=by simpa using h
  simp only[qT,eY,e0,e1,e2,e3,e4,e5,e6,if_true,if_neg hne]
 have e7:cS x.a7 y.a7=0:=by subst hq7;simpa using h7
 refine .skip (.tidy rfl (.skip ?_));refine .inl (.skip (.call _ (oL n _ _) fun q8 hq8=>.skip (.br (fun h=>?_) fun h8=>?_)))
 ·refine .skip (.tidy rfl (.skip (.tidy rfl (.inl (.done rfl ?_)))));subst hq8;have hne:cS x.a8 y.a8≠0:=by simpa using h
  simp only[qT,eY,e0,e1,e2,e3,e4,e5,e6,e7,if_true,if_neg hne]
 have e8:cS x.a8 y.a8=0:=by subst hq8;simpa using h8
 refine .skip (.tidy rfl (.skip ?_));refine .inl (.skip (.call _ (oL n _ _) fun q9 hq9=>.skip (.br (fun h=>?_) fun h9=>?_)))
 ·refine .skip (.tidy rfl (.skip (.tidy rfl (.inl (.done rfl ?_)))));subst hq9;have hne:cS x.a9 y.a9≠0:=by simpa using h
  simp only[qT,eY,e0,e1,e2,e3,e4,e5,e6,e7,e8,if_true,if_neg hne]
 have e9:cS x.a9 y.a9=0:=by subst hq9;simpa using h9
 refine .skip (.tidy rfl (.skip (.tidy rfl (.inl (.skip (.done rfl ?_))))));simp only[qT,eY,e0,e1,e2,e3,e4,e5,e6,e7,e8,e9,if_true]
def Lr:dn Int:=⟨0,0,0,0,0,0,0,0,0,0⟩
def DZ(x:iW):iW:=
 if x.Kind=5 then Go.L.iW.mk x.Kind x.RD Lr x.Tag x.bV x.IP x.eX x.af 0 0 0
 else if x.Kind=2 then Go.L.iW.mk x.Kind x.RD Lr x.Tag x.bV x.IP x.eX x.af x.bk 0 0
 else Go.L.iW.mk x.Kind x.RD x.aC x.Tag x.bV x.IP x.eX x.af x.bk 0 0
theorem MO(n:Nat)(x:iW):At (A9.S n x) (fun(r:iW)=>r=DZ x):=by
 refine(?_ :cU n (A8 x) _);unfold A8 DZ;refine .skip (.br (fun h=>.skip (.done rfl ?_)) fun h=>.skip (.br (fun h2=>.skip (.done rfl ?_)) fun h2=>.skip (.done rfl ?_)))
 all_goals (simp only[beq_iff_eq,beq_eq_false_iff_ne]at*)
 ·rw[if_pos h];rfl
 ·rw[if_neg h,if_pos h2];rfl
 ·rw[if_neg h,if_neg h2]
theorem N9(n:Nat)(x y:Bool):At (Ce.S n (x,y)) (fun(r:Int)=>r=cS (Iy x) (Iy y)):=by cases x<;>cases y<;>exact⟨_,rfl,rfl⟩
def zg(k:iW):List Int:=[k.Kind,k.RD]++(qT k.aC++[k.Tag,k.bV,Iy k.eX,k.IP,k.af.IP,k.af.Len,k.bk])
def Ls(x y:iW):Int:=eY (zg (DZ x)) (zg (DZ y))
theorem wo:∀{a a':List Int} (b b':List Int),a.length=a'.length→eY (a++b) (a'++b')=if eY a a'=0 then eY b b' else eY a a'
 | [],[],b,b',_=>by simp[eY]
 |x::a,y::a',b,b',h=>by
  simp only[List.cons_append,eY,wo b b' (Nat.succ.inj h)];split
  ·rfl
  ·rfl
theorem Py(k k':iW):eY (zg k) (zg k')=ql [cS k.Kind k'.Kind,cS k.RD k'.RD,eY (qT k.aC) (qT k'.aC),cS k.Tag k'.Tag,cS k.bV k'.bV,cS (Iy k.eX) (Iy k'.eX),cS k.IP k'.IP,cS k.af.IP k'.af.IP,cS k.af.Len k'.af.Len,cS k.bk k'.bk]:=by
 unfold zg;rw[wo (a:=[k.Kind,k.RD]) (a':=[k'.Kind,k'.RD]) _ _ rfl,wo (a:=qT k.aC) (a':=qT k'.aC) _ _ rfl];simp only[ql,eY];by_cases h0:cS k.Kind k'.Kind=0
 ·by_cases h1:cS k.RD k'.RD=0
  ·simp[h0,h1]
  ·simp[h0,h1]
 ·simp[h0]
theorem Pz(n:Nat)(hn:11≤n)(x y:iW):At (Ap.S n (x,y)) (fun(r:Int)=>r=Ls x y):=by
 refine(?_ :cU n (vQ x y) _);unfold vQ;refine .skip (.call _ (MO n x) fun r3 h3=>.skip (.call _ (MO n y) fun r4 h4=>?_))
 refine .skip (.call _ (vP n _ _) fun q0 e0=>.skip (.call _ (Lq n _ _) fun q1 e1=>.skip (.call _ (Qp n _ _) fun q2 e2=>.skip (.call _ (ET n _ _) fun q3 e3=>.skip (.call _ (Px n _ _) fun q4 e4=>.skip (.call _ (N9 n _ _) fun q5 e5=>?_))))))
 refine .skip (.call _ (Cc n _ _) fun q6 e6=>.skip (.call _ (Cc n _ _) fun q7 e7=>.skip (.call _ (vP n _ _) fun q8 e8=>.skip (.call _ (Cc n _ _) fun q9 e9=>.skip (.call _ (Hr n _ (by show 10<n;omega) (by show 10<100000;omega)) fun r hr=>.skip (.done rfl ?_))))))
 subst h3 h4 e0 e1 e2 e3 e4 e5 e6 e7 e8 e9;refine Eq.trans hr ?_;rw[Ls,Py]
end Go.L
end
section
namespace Go.L
open Go.AM
set_option maxRecDepth 100000
set_option linter.unusedVariables false
set_option linter.unusedSimpArgs false
def EU(r:dM):List Int:=[r.level,r.yA,-r.seq,r.bare,r.next]++zg (DZ r.n)
def MP(r s:dM):Bool:=decide (eY (EU r) (EU s)<0)
theorem MQ(a b:Int):cS (-a) (-b)=cS b a:=by
 unfold cS
 repeat' split
 all_goals omega
theorem PA(r s:dM):eY (EU r) (EU s)=ql [cS r.level s.level,cS r.yA s.yA,cS s.seq r.seq,cS r.bare s.bare,cS r.next s.next,Ls r.n s.n]:=by
 unfold EU Ls;rw[wo (a:=[r.level,r.yA,-r.seq,r.bare,r.next]) (a':=[s.level,s.yA,-s.seq,s.bare,s.next]) _ _ rfl];generalize eY (zg (DZ r.n)) (zg (DZ s.n))=e;simp only[ql,eY,MQ];by_cases h0:cS r.level s.level=0
 ·by_cases h1:cS r.yA s.yA=0
  ·by_cases h2:cS s.seq r.seq=0
   ·by_cases h3:cS r.bare s.bare=0
    ·by_cases h4:cS r.next s.next=0
     ·simp only[h0,h1,h2,h3,h4,if_true];split<;>omega
     ·simp[h0,h1,h2,h3,h4]
    ·simp[h0,h1,h2,h3]
   ·simp[h0,h1,h2]
  ·simp[h0,h1]
 ·simp[h0]
theorem PB(n:Nat)(hn:11≤n)(r s:dM):At (xz.S n (r,s)) (fun(b:Bool)=>b=MP r s):=by
 refine(?_ :cU n (tf r s) _);unfold tf;refine .skip (.call _ (vP n _ _) fun q0 e0=>.skip (.call _ (vP n _ _) fun q1 e1=>.skip (.call _ (ET n _ _) fun q2 e2=>.skip (.call _ (vP n _ _) fun q3 e3=>.skip (.call _ (Cc n _ _) fun q4 e4=>.skip (.call _ (Pz n hn _ _) fun q5 e5=>?_))))))
 refine .skip (.call _ (Hr n _ (by show 6<n;omega) (by show 6<100000;omega)) fun(q:Int) hq=>.skip (.done rfl ?_))
 subst e0 e1 e2 e3 e4 e5;show decide (q<0)=MP r s;unfold MP;rw[PA];have:q=_:=hq;rw[this]
theorem IE(a b:aa):bx a b=true↔a=b:=by
 unfold bx;simp only[Bool.and_eq_true,beq_iff_eq,and_true];constructor
 ·rintro⟨h1,h2,h3⟩;obtain⟨a1,⟨a2,a3⟩⟩:=a;obtain⟨b1,⟨b2,b3⟩⟩:=b;simp only at h1 h2 h3;subst h1;subst h2;subst h3;rfl
 ·rintro rfl;exact⟨rfl,rfl,rfl⟩
def zh(x:aj):aa:=⟨x.aB.av,x.aB.af⟩
def gG(hm:List (aa×aj))(x:aj):List (aa×aj):=
 match getM bx (zh x) hm with
 |none=>bP bx (zh x) x hm
 |some y=>if MP x.jq y.jq then bP bx (zh x) x hm else hm
theorem vf(n:Nat)(hn:11≤n)(f:aG)(own:Int)(k:Nat)(cr:List Bool)(us:List (dn Int×List Int))(dm tn:List (Int×Int))(sb:List (aa×Bool))(hm:List (aa×aj))(x:aj):
 At (eT.c.S n (f,own,k,cr,us,dm,tn,sb,hm,x)) (fun r=>r=gG hm x):=by
 refine(?_ :cU n (qU f own k cr us dm tn sb hm x) _);unfold qU;refine .skip (.op () rfl (.skip ?_));cases hf:bf bx (Go.L.aa.mk x.aB.av x.aB.af) hm 0 with
 |none=>
  have hp:gG hm x=bP bx (zh x) x hm:=by unfold gG getM zh;rw[hf];rfl
  refine .br (fun h=>.skip (.op () rfl (.tidy rfl (.inl (.done rfl hp.symm))))) fun h=>?_
  simp at h
 |some y=>
  have hp:gG hm x=if MP x.jq y.2.jq then bP bx (zh x) x hm else hm:=by unfold gG getM zh;rw[hf];rfl
  refine .br (fun h=>?_) fun h=>.skip (.call _ (PB n hn _ _) fun b hb=>.skip (.br (fun h2=>.skip (.op () rfl (.tidy rfl (.inl (.done rfl ?_))))) fun h2=>.skip (.tidy rfl (.inl (.done rfl ?_)))))
  ·simp at h
  ·subst h2;simp only[Option.map_some,Option.getD_some]at hb;rw[hp,← hb];rfl
  ·subst h2;simp only[Option.map_some,Option.getD_some]at hb;rw[hp,← hb];rfl
instance :DecidableEq aa:=fun a b=>decidable_of_iff (bx a b=true) (IE a b)
theorem EV{hm:List (aa×aj)}(h:(hm.map (·.1)).Nodup)(x:aj):((gG hm x).map (·.1)).Nodup∧(gG hm x).length≤hm.length+1:=by
 unfold gG;cases getM bx (zh x) hm with
 |none=>exact IB IE hm _ _ h
 |some y=>
  simp only
  split
  ·exact IB IE hm _ _ h
  ·exact⟨h,Nat.le_succ _⟩
end Go.L
end
section
namespace Go.L
open Go.AM
set_option maxRecDepth 100000
set_option linter.unusedVariables false
set_option linter.unusedSimpArgs false
def yJ(leaf:Int)(s:bh):List Int:=if decide (leaf∈s.Leaves)then s.aO else[]
structure EW(n:Nat)(f:aG):Prop where
 l:f.aH.length<100000
 nn:f.aH.length<n
 s:∀s∈f.aH,s.Leaves.length<n∧s.Leaves.length<100000∧s.aO.length<n∧s.aO.length<100000∧∀b∈s.aO,0≤b∧b<f.aO.length
 b:f.aO.length<100000
 bn:f.aO.length<n
 t:f.aT.length<100000
 tn:f.aT.length<n
def gY{α β:Type}(g:Nat→α→List β)(l:List α):List β:=l.zipIdx.flatMap fun p=>g p.2 p.1
theorem qq{α β:Type}(g:Nat→α→List β)(pre:List α)(x:α):gY g (pre++[x])=gY g pre++g pre.length x:=by
 unfold gY;rw[List.zipIdx_append,List.flatMap_append];simp
def wN(self:Int)(up:List Bool)(es:Int→dn Int)(i:Nat)(s:bh):List (dn Int×List Int):=
 if decide (self∈s.Leaves)&&decide (1<s.Leaves.length)&&(up[i]? ==some true)then[(es i,s.aO)]else[]
def jS{K V:Type}(eq:K→K→Bool)(l:List (K×V)):List (K×V):=l.foldl (fun m p=>bP eq p.1 p.2 m) []
theorem zN{K V:Type}(eq:K→K→Bool)(l:List (K×V))(p:K×V):jS eq (l++[p])=bP eq p.1 p.2 (jS eq l):=by simp[jS]
structure Lt(f:aG)(leaf:Int)(up:List Bool)(es:Int→dn Int)(lo:Int)(r:List Bool×List (dn Int×List Int)×List (Int×Int)×List (Int×Int)×List (aa×Bool)×List (aa×aj)×aG×Int×Nat):Prop where
 RQ:r.1.length=f.aO.length
 cr:∀b:Nat,b<f.aO.length→r.1[b]? =some (decide ((b:Int)∈f.aH.flatMap (yJ leaf)))
 us:r.2.1=jS gF (gY (wN leaf up es) f.aH)
 dm:r.2.2.1=jS cV (gY (fun i d=>[(d.Target,(i:Int))]) f.aO)
 tn:r.2.2.2.1=jS cV (gY (fun i t=>[(t.Target,(i:Int))]) f.aT)
 sb:r.2.2.2.2.1=[]
 hm:r.2.2.2.2.2.1=[]
 fb:r.2.2.2.2.2.2.1=f
 own:r.2.2.2.2.2.2.2.1=lo
 len:r.2.2.2.2.2.2.2.2=f.aO.length
def Gy(f:aG)(pre:List Int)(c:List Bool):Prop:=c.length=f.aO.length∧∀b:Nat,b<f.aO.length→c[b]? =some (decide ((b:Int)∈pre))
theorem Gy.set{f:aG}{pre:List Int}{c:List Bool}(h:Gy f pre c){x:Int}(h0:0≤x)(h1:x<f.aO.length):Gy f (pre++[x]) (c.set x.toNat true):=by
 refine⟨by simpa using h.1,fun b hb=>?_⟩
 rw[List.getElem?_set];by_cases he:x.toNat=b
 ·rw[if_pos he,if_pos (by rw[h.1];omega)]
  have:(b:Int)=x:=by omega
  simp[this]
 ·rw[if_neg he,h.2 b hb];have:(b:Int)≠x:=by omega
  simp[this]
theorem G5(n:Nat)(f:aG)(self lo:Int)(up:List Bool)(es:Int→dn Int)(hlo:At (ig.S n (f,self)) (fun r=>r=lo))(hf:EW n f)
 (hes:∀i:Nat,i<f.aH.length→At (kJ.S n (i:Int)) (fun(r:dn Int×Int)=>r.1=es i)):
 At (rR.c.S n (f,self,up)) (Lt f self up es lo):=by
 refine(?_ :cU n (rQ f self up) _);unfold rQ;have hrep:(List.replicate (Int.toNat (((List.length f.aO):Nat):Int)) false).length=f.aO.length:=by simp
 have hroom:roomy (Int.toNat (((List.length f.aO):Nat):Int)) 1=true:=by
  have:=hf.b;simp only[roomy,Bool.and_eq_true,decide_eq_true_eq,Int.toNat_natCast];omega
 refine .skip (.call _ hlo fun r4 h4=>.skip (.op () rfl (.op () (if_pos ⟨by omega,hroom⟩) (.skip (.op () rfl (.skip ?_))))))
 refine .loop (dA f.aH fun pre (s:List Bool×List (dn Int×List Int))=>Gy f (pre.flatMap (yJ self)) s.1∧s.2=jS gF (gY (wN self up es) pre)) (fun a=>f.aH.length - a.1.toNat)
  (fun t=>Gy f (f.aH.flatMap (yJ self)) t.1∧t.2=jS gF (gY (wN self up es) f.aH)) rfl (dA.start ⟨⟨hrep,fun b hb=>?_⟩,rfl⟩) (by simpa using hf.nn) (fun a ha=>?_) (fun t67 ht67=>?_)
 ·rw[List.getElem?_replicate,if_pos (by simpa using hb)];simp
 ·refine .skip (.br (fun h=>?_) fun h=>.skip (.done rfl (ha.fin h)))
  obtain⟨s,pre,h1,h2,⟨h3,h3u⟩,⟨hidx,hpost⟩,h5⟩:=ha.get h;obtain⟨q1,q2,q3,q4,q5⟩:=hf.s s h2;have hlt:pre.length<f.aH.length:=by
   obtain⟨post,hp⟩:=hpost;have:=congrArg List.length hp;simp only[List.length_append,List.length_cons]at this;omega
  refine .skip (.op s h1 (.skip (.call _ (zM n s.Leaves self q1 q2) fun r50 h50=>.skip (.br (fun hc=>.skip (.done rfl ?_)) fun hc=>?_))))
  ·have hn:¬self∈s.Leaves:=by rw[h50]at hc;simpa using hc
   refine h5 hf.l _ ⟨?_,?_⟩
   ·rw[List.flatMap_append,List.flatMap_cons,List.flatMap_nil,List.append_nil];have:yJ self s=[]:=by unfold yJ;simp[hn]
    rw[this,List.append_nil];exact h3
   ·rw[qq];have:wN self up es pre.length s=[]:=by unfold wN;simp[hn]
    rw[this,List.append_nil];exact h3u
  ·have hin:self∈s.Leaves:=by rw[h50]at hc;simpa using hc
   have hcar:yJ self s=s.aO:=by unfold yJ;simp[hin]
   refine .skip (.op () rfl (.skip (.loop (dA s.aO fun p c=>Gy f (pre.flatMap (yJ self)++p) c) (fun a=>s.aO.length - a.1.toNat) (fun t=>Gy f (pre.flatMap (yJ self)++s.aO) t) rfl (dA.start (by rw[List.append_nil];exact h3)) (by simpa using q3) (fun a2 ha2=>?_) (fun t57 ht57=>?_))))
   ·refine .skip (.br (fun g=>?_) fun g=>.skip (.done rfl (ha2.fin g)))
    obtain⟨x,p2,g1,g2,g3,_,g5⟩:=ha2.get g;obtain⟨b0,b1⟩:=q5 x g2;have hx:x.toNat<a2.2.length:=by rw[g3.1];omega
    refine .skip (.op x g1 (.skip (.op () (if_pos ⟨b0,by rw[hrep];exact b1⟩) (.op (a2.2[x.toNat]'hx) (List.getElem?_eq_getElem hx) (.skip (.done rfl (g5 q4 _ ?_)))))))
    rw[← List.append_assoc];exact g3.set b0 b1
   ·have fin:∀us,us=jS gF (gY (wN self up es) (pre++[s]))→(dA f.aH (fun pre (s:List Bool×List (dn Int×List Int))=>Gy f (pre.flatMap (yJ self)) s.1∧s.2=jS gF (gY (wN self up es) pre)) (Go.IntKind.wrap .i64 (a.1+1),(t57,us))∧f.aH.length - (Go.IntKind.wrap .i64 (a.1+1)).toNat<f.aH.length - a.1.toNat):=fun us hus=>h5 hf.l (t57,us) ⟨by
     rw[List.flatMap_append,List.flatMap_cons,List.flatMap_nil,List.append_nil,hcar];exact ht57,hus⟩
    have none_:wN self up es pre.length s=[]→a.2.2=jS gF (gY (wN self up es) (pre++[s])):=fun e=>by rw[qq,e,List.append_nil];exact h3u
    refine .skip (.op () rfl (.skip (.br (fun g=>?_) fun g=>.skip (.done rfl (fin _ (none_ ?_))))))
    ·have g1:1<s.Leaves.length:=by simp only[gt_iff_lt,decide_eq_true_eq]at g;omega
     refine .skip (.op () rfl (.skip (.br (fun g2=>?_) fun g2=>.skip (.done rfl (fin _ (none_ ?_))))))
     ·simp only[decide_eq_true_eq]at g2;have hu:pre.length<up.length:=by rw[hidx]at g2;omega
      have hat:ku up a.1=some (up[pre.length]'hu):=by rw[hidx,cR,List.getElem?_eq_getElem hu]
      refine .skip (.op _ hat (.skip (.join (fun us=>us=jS gF (gY (wN self up es) (pre++[s]))) ?_ fun us hus=>.skip (.done rfl (fin us hus)))))
      refine .br (fun g3=>?_) fun g3=>.skip (.done rfl (none_ ?_))
      ·have hes':=hes pre.length hlt;rw[← hidx]at hes';refine .skip (.call _ hes' fun r59 h59=>.skip (.op () rfl (.done rfl ?_)))
       have:wN self up es pre.length s=[(es a.1,s.aO)]:=by
        unfold wN;rw[hidx];simp[hin,g1,List.getElem?_eq_getElem hu,g3]
       rw[qq,this,zN,← h3u,h59]
      ·unfold wN;simp[List.getElem?_eq_getElem hu,g3]
     ·simp only[decide_eq_false_iff_not]at g2;have hu:¬pre.length<up.length:=by rw[hidx]at g2;omega
      unfold wN;simp[List.getElem?_eq_none (Nat.le_of_not_lt hu)]
    ·have g1:¬1<s.Leaves.length:=by simp only[gt_iff_lt,decide_eq_false_iff_not]at g;omega
     unfold wN;simp[g1]
 ·refine .skip (.op () rfl (.skip (.loop (dA f.aO fun pre m=>m=jS cV (gY (fun i (d:BD)=>[(d.Target,(i:Int))]) pre)) (fun a=>f.aO.length - a.1.toNat) (fun t=>t=jS cV (gY (fun i (d:BD)=>[(d.Target,(i:Int))]) f.aO)) rfl (dA.start rfl) (by simpa using hf.bn) (fun a ha=>?_) (fun t80 ht80=>?_))))
  ·refine .skip (.br (fun h=>?_) fun h=>.skip (.done rfl (ha.fin h)))
   obtain⟨x,pre,h1,h2,h3,⟨hidx,_⟩,h5⟩:=ha.get h;refine .skip (.op x h1 (.skip (.op () rfl (.skip (.done rfl (h5 hf.b _ ?_))))));rw[qq,zN,← h3,hidx]
  ·refine .skip (.op () rfl (.skip (.loop (dA f.aT fun pre m=>m=jS cV (gY (fun i (d:av)=>[(d.Target,(i:Int))]) pre)) (fun a=>f.aT.length - a.1.toNat) (fun t=>t=jS cV (gY (fun i (d:av)=>[(d.Target,(i:Int))]) f.aT)) rfl (dA.start rfl) (by simpa using hf.tn) (fun a ha=>?_) (fun t93 ht93=>?_))))
   ·refine .skip (.br (fun h=>?_) fun h=>.skip (.done rfl (ha.fin h)))
    obtain⟨x,pre,h1,h2,h3,⟨hidx,_⟩,h5⟩:=ha.get h;refine .skip (.op x h1 (.skip (.op () rfl (.skip (.done rfl (h5 hf.t _ ?_))))));rw[qq,zN,← h3,hidx]
   ·exact .skip (.tidy rfl (.inl (.done rfl ⟨ht67.1.1,ht67.1.2,ht67.2,ht80,ht93,rfl,rfl,rfl,h4,hrep⟩)))
end Go.L
end
section
namespace Go.L
open Go.AM
set_option maxRecDepth 100000
set_option linter.unusedVariables false
set_option linter.unusedSimpArgs false
def Rb:iW:=Go.L.iW.mk 0 0 Lr 0 0 0 false (Go.L.af.mk 0 0) 0 0 0
def O5(i:Nat)(d:BD):aj:=⟨Go.L.aB.mk d.av d.bq (i:Int) 0 0 0 0,Go.L.dM.mk 0 0 0 0 0 Rb⟩
def qY(cr:List Bool)(i:Nat)(d:BD):List aj:=if(d.bk != 0)&&(cr[i]? ==some true)then[O5 i d]else[]
def xL(f:aG)(cr:List Bool):List aj:=gY (qY cr) f.aO
def CV(sb:List (aa×Bool))(x:aj):List (aa×Bool):=bP bx (zh x) true sb
theorem IF(n:Nat)(hn:11≤n)(f:aG)(own:Int)(k:Nat)(cr:List Bool)(us:List (dn Int×List Int))(dm tn:List (Int×Int))(sb:List (aa×Bool))(hm:List (aa×aj))
 (hb:f.aO.length<100000) (hbn:f.aO.length<n) (hk:k=f.aO.length) (hcr:cr.length=f.aO.length):
 At (qX.c.S n (f,own,k,cr,us,dm,tn,sb,hm)) (fun r=>r=((xL f cr).foldl CV sb,(xL f cr).foldl gG hm)):=by
 refine(?_ :cU n (mW f own k cr us dm tn sb hm) _);unfold mW;refine .skip (.op () rfl (.skip (.loop (dA f.aO fun pre s=>s=((gY (qY cr) pre).foldl CV sb,(gY (qY cr) pre).foldl gG hm)) (fun a=>f.aO.length - a.1.toNat) (fun t=>t=((xL f cr).foldl CV sb,(xL f cr).foldl gG hm)) rfl (dA.start rfl) (by simpa using hbn) (fun a ha=>?_) (fun t ht=>?_))))
 ·refine .skip (.br (fun h=>?_) fun h=>.skip (.done rfl (ha.fin h)))
  obtain⟨d,pre,h1,h2,h3,⟨hidx,post,hpost⟩,h5⟩:=ha.get h;have hlt:pre.length<f.aO.length:=by
   have:=congrArg List.length hpost;simp only[List.length_append,List.length_cons]at this;omega
  have e1:a.2.1=(gY (qY cr) pre).foldl CV sb:=by rw[h3]
  have e2:a.2.2=(gY (qY cr) pre).foldl gG hm:=by rw[h3]
  have none_:qY cr pre.length d=[]→(a.2.1,a.2.2)=((gY (qY cr) (pre++[d])).foldl CV sb,(gY (qY cr) (pre++[d])).foldl gG hm):=fun e=>by
   rw[qq,e,List.append_nil,← e1,← e2]
  refine .skip (.op d h1 (.skip (.br (fun g=>?_) fun g=>.skip (.done rfl (h5 hb _ (none_ ?_))))))
  ·have hc:pre.length<cr.length:=by omega
   refine .skip (.op () (if_pos ⟨by omega,by rw[hidx,hk];omega⟩) (.op (cr[pre.length]'hc) (by rw[show a.1.toNat=pre.length by omega];exact List.getElem?_eq_getElem hc) (.skip (.br (fun g2=>?_) fun g2=>.skip (.done rfl (h5 hb _ (none_ ?_)))))))
   ·refine .skip (.op () rfl (.skip (.inl (.di _ (vf n hn f own k cr us dm tn _ a.2.2 _) fun r29 h29=>.skip (.done rfl (h5 hb _ ?_))))))
    have:qY cr pre.length d=[O5 pre.length d]:=by unfold qY;simp only[g,List.getElem?_eq_getElem hc,g2];rfl
    rw[qq,this,List.foldl_append,List.foldl_append,← e1,← e2,h29,hidx];rfl
   ·unfold qY;simp only[List.getElem?_eq_getElem hc,g2];simp
  ·unfold qY;simp only[g];rfl
 ·exact .tidy rfl (.inl (.done rfl ht))
def Lu(o:Option Int)(bd:Int):Bool:=match o with
 |some h=>decide (bd>h)
 |none=>false
def wq(f:aG)(dm:List (Int×Int))(t ip:Int)(eV:af→Bool)(o:Option Int)(T:Int):Option Int:=
 match getM cV T dm with
 |none=>o
 |some bd=>if Lu o bd then o else
  match ku f.aO bd with
  |none=>o
  |some d=>if(d.av==t)&&(d.bk != 0)&&eV d.bq then some bd else o
def oS(f:aG)(dm:List (Int×Int))(t ip:Int)(eV:af→Bool)(ts:List Int):Option Int:=ts.foldl (wq f dm t ip eV) none
theorem PC(n:Nat)(f:aG)(own:Int)(k:Nat)(cr:List Bool)(us:List (dn Int×List Int))(dm tn:List (Int×Int))(sb:List (aa×Bool))(hm:List (aa×aj))(t ip:Int)(ts:List Int)(eV:af→Bool)
 (hts:ts.length<100000) (htn:ts.length<n) (hdm:∀T bd,getM cV T dm=some bd→∃d,ku f.aO bd=some d) (hcon:∀d∈f.aO,At (dH.S n (d.bq,ip)) (fun(b:Bool)=>b=eV d.bq)):
 At (ve.c.S n (f,own,k,cr,us,dm,tn,sb,hm,t,ts,ip)) (fun r=>r=((oS f dm t ip eV ts).getD 0,(oS f dm t ip eV ts).isSome)):=by
 refine(?_ :cU n (qp f own k cr us dm tn sb hm t ts ip) _);unfold qp;have atmem:∀{bd:Int} {d:BD},ku f.aO bd=some d→d∈f.aO:=fun {bd d} h=>by
  unfold ku at h;split at h
  ·exact List.mem_of_getElem? h
  ·cases h
 let st:Int×Bool×Int→Int×Option Int:=fun a=>(a.2.2,if a.2.1 then some a.1 else none)
 refine .skip (.op () rfl (.skip (.loop (fun a=>dA ts (fun pre o=>o=oS f dm t ip eV pre) (st a)∧(a.2.1=false→a.1=0)) (fun a=>ts.length - a.2.2.toNat) (fun r=>r=((oS f dm t ip eV ts).getD 0,(oS f dm t ip eV ts).isSome)) rfl ⟨dA.start rfl,fun _=>rfl⟩ (by simpa using htn) (fun a ha=>?_) (fun r hr=>?_))))
 ·obtain⟨ha,ha0⟩:=ha;obtain⟨a1,a2,a3⟩:=a;have ha0:a2=false→a1=0:=ha0;have hval:∀o,(if a2=true then some a1 else none)=o→(a1,a2)=(o.getD 0,o.isSome):=fun o ho=>by
   cases a2 with
   |true=>subst ho;rfl
   |false=>subst ho;rw[ha0 rfl];rfl
  refine .skip (.br (fun h=>?_) fun h=>.skip (.done rfl (hval _ (ha.fin h))))
  obtain⟨T,pre,h1,h2,h3,_,h5⟩:=ha.get h;have h3:(if a2=true then some a1 else none)=oS f dm t ip eV pre:=h3
  have step:∀o',o'=wq f dm t ip eV (if a2=true then some a1 else none) T→o'=oS f dm t ip eV (pre++[T]):=fun o' ho=>by
   rw[ho,h3];unfold oS;rw[List.foldl_append];rfl
  have keep:wq f dm t ip eV (if a2=true then some a1 else none) T=(if a2=true then some a1 else none)→pH (fun a=>dA ts (fun pre o=>o=oS f dm t ip eV pre) (st a)∧(a.2.1=false→a.1=0)) (fun a=>ts.length - a.2.2.toNat) (fun r=>r=((oS f dm t ip eV ts).getD 0,(oS f dm t ip eV ts).isSome)) (a1,a2,a3) (.inl (a1,a2,Go.IntKind.wrap .i64 (a3+1))):=fun e=>by
   obtain⟨q1,q2⟩:=h5 hts _ (step _ e.symm);exact⟨⟨q1,ha0⟩,q2⟩
  have put:∀bd,wq f dm t ip eV (if a2=true then some a1 else none) T=some bd→pH (fun a=>dA ts (fun pre o=>o=oS f dm t ip eV pre) (st a)∧(a.2.1=false→a.1=0)) (fun a=>ts.length - a.2.2.toNat) (fun r=>r=((oS f dm t ip eV ts).getD 0,(oS f dm t ip eV ts).isSome)) (a1,a2,a3) (.inl (bd,true,Go.IntKind.wrap .i64 (a3+1))):=fun bd e=>by
   obtain⟨q1,q2⟩:=h5 hts _ (step _ e.symm);exact⟨⟨q1,fun h=>by cases h⟩,q2⟩
  refine .skip (.op T h1 (.skip (.op () rfl (.skip ?_))));cases hf:bf cV T dm 0 with
  |none=>
   have hg:getM cV T dm=none:=by unfold getM;rw[hf];rfl
   exact .br (fun g=>.skip (.done rfl (keep (by unfold wq;rw[hg])))) fun g=>by simp at g
  |some x=>
   have hg:getM cV T dm=some x.2:=by unfold getM;rw[hf];rfl
   obtain⟨d,hd⟩:=hdm T x.2 hg;refine .br (fun g=>by simp at g) fun g=>.skip ?_
   have hat:ku f.aO ((Option.map (fun x:Nat×Int=>x.2) (some x)).getD 0)=some d:=hd
   have rest:Lu (if a2=true then some a1 else none) x.2=false→
    wq f dm t ip eV (if a2=true then some a1 else none) T=if(d.av==t)&&(d.bk != 0)&&eV d.bq then some x.2 else(if a2=true then some a1 else none):=fun e=>by
    unfold wq;rw[hg];simp only[e,hd];rw[if_neg (by simp)]
   refine .br (fun g1=>.skip (.br (fun g2=>.skip (.done rfl (keep ?_))) fun g2=>?_)) fun g1=>?_
   ·have g1:a2=true:=g1;have e:Lu (if a2=true then some a1 else none) x.2=true:=by rw[if_pos g1];exact g2
    unfold wq;rw[hg];simp only[e,if_true]
   ·have hr:=rest (by rw[if_pos (show a2=true from g1)];exact g2)
    refine .skip (.op d hat (.skip (.br (fun c1=>.skip (.br (fun c2=>.skip (.call _ (hcon d (atmem hd)) fun r35 h35=>.skip (.br (fun c3=>.skip (.done rfl (put _ ?_))) fun c3=>.skip (.done rfl (keep ?_))))) fun c2=>.skip (.done rfl (keep ?_)))) fun c1=>.skip (.done rfl (keep ?_)))))
    ·rw[hr,if_pos (by rw[c1,c2,← h35,c3];rfl)];rfl
    ·rw[hr,if_neg (by rw[← h35,c3];simp)]
    ·rw[hr,if_neg (by rw[c2];simp)]
    ·rw[hr,if_neg (by rw[c1];simp)]
   ·have hr:=rest (by rw[if_neg (by rw[show a2=false from g1];simp)];rfl)
    refine .skip (.op d hat (.skip (.br (fun c1=>.skip (.br (fun c2=>.skip (.call _ (hcon d (atmem hd)) fun r35 h35=>.skip (.br (fun c3=>.skip (.done rfl (put _ ?_))) fun c3=>.skip (.done rfl (keep ?_))))) fun c2=>.skip (.done rfl (keep ?_)))) fun c1=>.skip (.done rfl (keep ?_)))))
    ·rw[hr,if_pos (by rw[c1,c2,← h35,c3];rfl)];rfl
    ·rw[hr,if_neg (by rw[← h35,c3];simp)]
    ·rw[hr,if_neg (by rw[c2];simp)]
    ·rw[hr,if_neg (by rw[c1];simp)]
 ·subst hr;exact .skip (.tidy rfl (.inl (.done rfl rfl)))
end Go.L
end
section
namespace Go.L
open Go.AM
set_option maxRecDepth 100000
set_option linter.unusedVariables false
set_option linter.unusedSimpArgs false
def Cf(own:Int)(t:Int)(sb:List (aa×Bool))(rt:Int×Bool)(r:cz):Option aj:=
 if(r.A.Next==own)||(r.N.Label==0)|| !rt.2||((getM bx ⟨t,r.N.af⟩ sb).getD false)then none
 else some ⟨Go.L.aB.mk t r.N.af (-1) r.A.Next r.N.Label 0 rt.1,Go.L.dM.mk 2 0 0 0 r.A.Next r.N⟩
def oO(hm:List (aa×aj))(o:Option aj):List (aa×aj):=match o with
 |none=>hm
 |some x=>gG hm x
theorem MS(n:Nat)(hn:11≤n)(f:aG)(own:Int)(k:Nat)(cr:List Bool)(us:List (dn Int×List Int))(dm tn:List (Int×Int))(sb:List (aa×Bool))(hm:List (aa×aj))(t:Int)(r:cz)(rt:Int×Bool)
 (hrt:At (fO.S n r.A.dW) (fun(q:Int×Bool)=>q=rt)):
 At (lR.c.S n (f,own,k,cr,us,dm,tn,sb,hm,t,r)) (fun m=>m=oO hm (Cf own t sb rt r)):=by
 refine(?_ :cU n (oN f own k cr us dm tn sb hm t r) _);unfold oN;refine .skip (.call _ hrt fun(q:Int×Bool) hq=>.skip ?_)
 subst hq;refine .br (fun h1=>.skip (.tidy rfl (.inl (.done rfl ?_)))) fun h1=>.skip (.br (fun h2=>.skip (.tidy rfl (.inl (.done rfl ?_)))) fun h2=>.skip (.br (fun h3=>.skip (.tidy rfl (.inl (.done rfl ?_)))) fun h3=>.skip (.op () rfl (.skip (.br (fun h4=>.skip (.tidy rfl (.inl (.done rfl ?_)))) fun h4=>.skip (.inl (.di _ (vf n hn f own k cr us dm tn sb hm _) fun m hm2=>.tidy rfl (.inl (.done rfl ?_)))))))))
 ·unfold Cf;rw[if_pos (by rw[h1];rfl)];rfl
 ·unfold Cf;rw[if_pos (by rw[h2];simp)];rfl
 ·unfold Cf;rw[if_pos (by rw[show(!q.2)=true from h3];simp)];rfl
 ·have h4:(getM bx ⟨t,r.N.af⟩ sb).getD false=true:=h4;unfold Cf;rw[if_pos (by rw[h4];simp)];rfl
 ·have h4:(getM bx ⟨t,r.N.af⟩ sb).getD false=false:=h4;unfold Cf;rw[if_neg (by rw[h1,h2,show(!q.2)=false from h3,h4];simp)];exact hm2
def ud(e:dn Int):Bool:=((e.a0==(0:Int))&&((e.a1==(0:Int))&&((e.a2==(0:Int))&&((e.a3==(0:Int))&&((e.a4==(0:Int))&&((e.a5==(0:Int))&&((e.a6==(0:Int))&&((e.a7==(0:Int))&&((e.a8==(0:Int))&&((e.a9==(0:Int))&&true))))))))))
def kW(r:cz)(own:Int):Int:=if r.A.Next=own then 0 else 1
def kX(r:cz):Int:=if ud r.N.aC=true then 1 else 0
def sH(r:cz)(own sq:Int)(h:aB):aj:=⟨h,Go.L.dM.mk 1 (kW r own) sq (kX r) r.A.Next r.N⟩
def Lv(us:List (dn Int×List Int))(e:dn Int)(bd:Int):Bool:=decide (bd∈(getM gF e us).getD [])
def xM(f:aG)(own:Int)(cr:List Bool)(us:List (dn Int×List Int))(dm:List (Int×Int))(t:Int)(eV:af→Bool)(sq:Int)(rt:Int×Bool)(ts:List Int)(r:cz):Option aj:=
 match oS f dm t r.N.IP eV ts with
 |none=>none
 |some bd=>
  if !((cr[bd.toNat]?).getD false)||(!((r.A.Next==own)||Lv us r.N.aC bd)&&(f.cF != 1))then
   if(r.A.Next==own)||(r.N.ee==0)|| !rt.2 then none
   else some (sH r own sq (Go.L.aB.mk t (Go.L.af.mk r.N.IP 32) (-1) r.A.Next r.N.ee 0 rt.1))
  else some (sH r own sq (Go.L.aB.mk t (Go.L.af.mk r.N.IP 32) bd 0 0 r.N.bV 0))
theorem PD(n:Nat)(hn:11≤n)(f:aG)(own:Int)(k:Nat)(cr:List Bool)(us:List (dn Int×List Int))(dm tn:List (Int×Int))(sb:List (aa×Bool))(hm:List (aa×aj))(t:Int)(ts:List Int)(r:cz)(eV:af→Bool)(sq:Int)(rt:Int×Bool)
 (hrt:At (fO.S n r.A.dW) (fun(q:Int×Bool)=>q=rt)) (hmob:At (dV.S n r.A.dW) (fun(q:Bool×Int×Bool)=>q.2.1=sq))
 (hts:ts.length<100000) (htn:ts.length<n) (hdm:∀T bd,getM cV T dm=some bd→0≤bd∧bd<f.aO.length) (hcon:∀d∈f.aO,At (dH.S n (d.bq,r.N.IP)) (fun(b:Bool)=>b=eV d.bq))
 (hk:k=f.aO.length) (hcr:cr.length=f.aO.length) (hus:∀e l,getM gF e us=some l→l.length<n∧l.length<100000):
 At (qu.c.S n (f,own,k,cr,us,dm,tn,sb,hm,t,ts,r)) (fun m=>m=oO hm (xM f own cr us dm t eV sq rt ts r)):=by
 refine(?_ :cU n (qt f own k cr us dm tn sb hm t ts r) _);unfold qt;have hdm2:∀T bd,getM cV T dm=some bd→∃d,ku f.aO bd=some d:=fun T bd h=>by
  obtain⟨h0,h1⟩:=hdm T bd h;refine⟨f.aO[bd.toNat]'(by omega),?_⟩
  have:=cR f.aO bd.toNat;rw[show((bd.toNat:Nat):Int)=bd by omega]at this
  rw[this,List.getElem?_eq_getElem]
 have hrange:∀l:List Int,∀o:Option Int,(∀h:Int,o=some h→0≤h∧h<f.aO.length)→∀h:Int,l.foldl (wq f dm t r.N.IP eV) o=some h→0≤h∧h<f.aO.length:=by
  intro l;induction l with
  |nil=>exact fun o ho=>ho
  |cons T l ih=>
   intro o ho;refine ih _ fun h hh=>?_
   unfold wq at hh;cases hg:getM cV T dm with
   |none=>rw[hg]at hh;exact ho h hh
   |some bd=>
    rw[hg]at hh;simp only at hh;split at hh
    ·exact ho h hh
    ·split at hh
     ·exact ho h hh
     ·split at hh
      ·cases hh;exact hdm T _ hg
      ·exact ho h hh
 refine .skip (.inl (.di _ (PC n f own k cr us dm tn sb hm t r.N.IP ts eV hts htn hdm2 hcon) fun r13 h13=>.skip ?_))
 subst h13;cases hh:oS f dm t r.N.IP eV ts with
 |none=>
  have hs:xM f own cr us dm t eV sq rt ts r=none:=by unfold xM;rw[hh]
  rw[hs];exact .br (fun _=>.skip (.tidy rfl (.inl (.done rfl rfl)))) fun h=>by cases h
 |some bd=>
  obtain⟨hb0,hb1⟩:0≤bd∧bd<f.aO.length:=hrange ts none (fun h e=>by cases e) bd hh
  have hc:bd.toNat<cr.length:=by omega
  have hcb:cr[bd.toNat]? =some (cr[bd.toNat]'hc):=List.getElem?_eq_getElem hc;have hsp:xM f own cr us dm t eV sq rt ts r=if !(cr[bd.toNat]'hc)||(!((r.A.Next==own)||Lv us r.N.aC bd)&&(f.cF != 1))then
   if(r.A.Next==own)||(r.N.ee==0)|| !rt.2 then none
   else some (sH r own sq (Go.L.aB.mk t (Go.L.af.mk r.N.IP 32) (-1) r.A.Next r.N.ee 0 rt.1))
   else some (sH r own sq (Go.L.aB.mk t (Go.L.af.mk r.N.IP 32) bd 0 0 r.N.bV 0)):=by
   unfold xM;rw[hh];simp only[hcb,Option.getD_some]
  generalize xM f own cr us dm t eV sq rt ts r=S at hsp;generalize cr[bd.toNat]'hc=cb at hsp hcb;refine .br (fun h=>by cases h) fun _=>.skip (.br (fun hmine=>.skip (.op () (if_pos ⟨hb0,by rw[hk];exact hb1⟩) (.op cb hcb (.skip ?_)))) fun hmine=>.skip ?_)
  ·rw[hmine]at hsp;refine .br (fun g=>.skip (.call _ hrt fun(q:Int×Bool) hq=>.skip (.br (fun _=>.skip (.tidy rfl (.inl (.done rfl ?_)))) fun h=>?_))) fun g=>.skip ?_
   ·rw[hsp,if_pos (by rw[show(!cb)=true from g];rfl)];rfl
   ·rw[hmine]at h;cases h
   ·have hspec:∀h:aB,h=Go.L.aB.mk t (Go.L.af.mk r.N.IP 32) bd 0 0 r.N.bV 0→oO hm S=gG hm (sH r own sq h):=fun h e=>by
     subst e;rw[hsp,if_neg (by rw[show(!cb)=false from g];simp)];rfl
    refine .call _ hmob fun q hq=>.skip (.join (fun(x:Int)=>x=kW r own) ?_ fun x hx=>.skip (.join (fun(y:Int)=>y=kX r) ?_ fun y hy=>.skip (.inl (.di _ (vf n hn f own k cr us dm tn sb hm _) fun m hm2=>.tidy rfl (.inl (.done rfl ?_))))))
    ·refine .br (fun h=>.skip (.done rfl ?_)) fun h=>.skip (.done rfl ?_)
     ·unfold kW;rw[if_neg (by simpa using h)]
     ·unfold kW;rw[if_pos (by simpa using h)]
    ·refine .br (fun h=>.skip (.done rfl ?_)) fun h=>.skip (.done rfl ?_)
     ·unfold kX;rw[if_pos (show ud r.N.aC=true from h)]
     ·unfold kX;rw[if_neg (by rw[show ud r.N.aC=false from h];simp)]
    ·subst hx hy;rw[hm2,hq];exact(hspec _ rfl).symm
  ·have usd:∀(l:List Int),(getM gF r.N.aC us).getD []=l→Lv us r.N.aC bd=decide (bd∈l):=fun l e=>by unfold Lv;rw[e]
   refine .sp (fun hsome=>?_) fun hnone=>?_
   ·cases hf:bf uq r.N.aC us 0 with
    |none=>rw[hf]at hsome;cases hsome
    |some z=>
    have hgl:getM gF r.N.aC us=some z.2:=by unfold getM;rw[show bf gF r.N.aC us 0=some z from hf];rfl
    obtain⟨l1,l2⟩:=hus _ _ hgl;have hin:=usd z.2 (by rw[hgl];rfl)
    refine .op z.2 (by show(bf uq r.N.aC us 0).map (·.2)=_;rw[hf];rfl) (.skip (.call _ (zM n z.2 bd l1 l2) fun(b:Bool) hb=>.skip (.op () (if_pos ⟨hb0,by rw[hk];exact hb1⟩) (.op cb hcb (.skip ?_)))))
    rw[← hb]at hin;simp only[hmine,hin,Bool.false_or]at hsp;refine .br (fun g=>.skip (.call _ hrt fun(q:Int×Bool) hq=>.skip (.br (fun h=>by rw[hmine]at h;cases h) fun _=>.skip (.br (fun h2=>.skip (.tidy rfl (.inl (.done rfl ?_)))) fun h2=>.skip (.br (fun h3=>.skip (.tidy rfl (.inl (.done rfl ?_)))) fun h3=>.skip ?_))))) fun g=>.skip ?_
    ·rw[hsp,if_pos (by rw[show(!cb)=true from g];rfl),if_pos (by rw[h2];simp)];rfl
    ·subst hq;rw[hsp,if_pos (by rw[show(!cb)=true from g];rfl),if_pos (by rw[show(!q.2)=true from h3];simp)];rfl
    ·subst hq;have hspec:∀h:aB,h=Go.L.aB.mk t (Go.L.af.mk r.N.IP 32) (-1) r.A.Next r.N.ee 0 q.1→oO hm S=gG hm (sH r own sq h):=fun h e=>by
      subst e;rw[hsp,if_pos (by rw[show(!cb)=true from g];rfl),if_neg (by rw[h2,show(!q.2)=false from h3];simp)];rfl
     refine .call _ hmob fun q hq=>.skip (.join (fun(x:Int)=>x=kW r own) ?_ fun x hx=>.skip (.join (fun(y:Int)=>y=kX r) ?_ fun y hy=>.skip (.inl (.di _ (vf n hn f own k cr us dm tn sb hm _) fun m hm2=>.tidy rfl (.inl (.done rfl ?_))))))
     ·refine .br (fun h=>.skip (.done rfl ?_)) fun h=>.skip (.done rfl ?_)
      ·unfold kW;rw[if_neg (by simpa using h)]
      ·unfold kW;rw[if_pos (by simpa using h)]
     ·refine .br (fun h=>.skip (.done rfl ?_)) fun h=>.skip (.done rfl ?_)
      ·unfold kX;rw[if_pos (show ud r.N.aC=true from h)]
      ·unfold kX;rw[if_neg (by rw[show ud r.N.aC=false from h];simp)]
     ·subst hx hy;rw[hm2,hq];exact(hspec _ rfl).symm
    ·rw[show(!cb)=false from g,Bool.false_or]at hsp;refine .br (fun g2=>.skip (.join (fun(x:Unit⊕(Int×Int×Int×Int×Int))=>match x with
      | .inl _=>oO hm S=hm
      | .inr h=>∀m2,m2=gG hm (sH r own sq (Go.L.aB.mk t (Go.L.af.mk r.N.IP 32) h.1 h.2.1 h.2.2.1 h.2.2.2.1 h.2.2.2.2))→oO hm S=m2) ?_ fun x hx=>?_)) fun g2=>.skip ?_
     ·rw[show(!b)=true from g2,Bool.true_and]at hsp;refine .br (fun g3=>.skip (.call _ hrt fun(q:Int×Bool) hq=>.skip (.br (fun h=>by rw[hmine]at h;cases h) fun _=>.skip (.br (fun h2=>.skip (.done rfl ?_)) fun h2=>.skip (.br (fun h3=>.skip (.done rfl ?_)) fun h3=>.skip (.done rfl ?_)))))) fun g3=>.skip (.done rfl ?_)
      ·show oO hm S=hm;rw[hsp,if_pos g3,if_pos (by rw[h2];simp)];rfl
      ·show oO hm S=hm;subst hq;rw[hsp,if_pos g3,if_pos (by rw[show(!q.2)=true from h3];simp)];rfl
      ·subst hq;intro m2 e;rw[e,hsp,if_pos g3,if_neg (by rw[h2,show(!q.2)=false from h3];simp)];rfl
      ·intro m2 e;rw[e,hsp,if_neg (by rw[g3];simp)];rfl
     ·cases x with
      |inl u=>exact .tidy rfl (.inl (.done rfl (show hm=oO hm S from hx.symm)))
      |inr h=>
       refine .skip ?_;have hspec:∀h2:aB,h2=Go.L.aB.mk t (Go.L.af.mk r.N.IP 32) h.1 h.2.1 h.2.2.1 h.2.2.2.1 h.2.2.2.2→oO hm S=gG hm (sH r own sq h2):=fun h2 e=>by
        subst e;exact hx _ rfl
       refine .call _ hmob fun q hq=>.skip (.join (fun(x:Int)=>x=kW r own) ?_ fun x hx=>.skip (.join (fun(y:Int)=>y=kX r) ?_ fun y hy=>.skip (.inl (.di _ (vf n hn f own k cr us dm tn sb hm _) fun m hm2=>.tidy rfl (.inl (.done rfl ?_))))))
       ·refine .br (fun h=>.skip (.done rfl ?_)) fun h=>.skip (.done rfl ?_)
        ·unfold kW;rw[if_neg (by simpa using h)]
        ·unfold kW;rw[if_pos (by simpa using h)]
       ·refine .br (fun h=>.skip (.done rfl ?_)) fun h=>.skip (.done rfl ?_)
        ·unfold kX;rw[if_pos (show ud r.N.aC=true from h)]
        ·unfold kX;rw[if_neg (by rw[show ud r.N.aC=false from h];simp)]
       ·subst hx hy;rw[hm2,hq];exact(hspec _ rfl).symm
     ·have hspec:∀h2:aB,h2=Go.L.aB.mk t (Go.L.af.mk r.N.IP 32) bd 0 0 r.N.bV 0→oO hm S=gG hm (sH r own sq h2):=fun h2 e=>by
       subst e;rw[hsp,if_neg (by rw[show(!b)=false from g2];simp)];rfl
      refine .call _ hmob fun q hq=>.skip (.join (fun(x:Int)=>x=kW r own) ?_ fun x hx=>.skip (.join (fun(y:Int)=>y=kX r) ?_ fun y hy=>.skip (.inl (.di _ (vf n hn f own k cr us dm tn sb hm _) fun m hm2=>.tidy rfl (.inl (.done rfl ?_))))))
      ·refine .br (fun h=>.skip (.done rfl ?_)) fun h=>.skip (.done rfl ?_)
       ·unfold kW;rw[if_neg (by simpa using h)]
       ·unfold kW;rw[if_pos (by simpa using h)]
      ·refine .br (fun h=>.skip (.done rfl ?_)) fun h=>.skip (.done rfl ?_)
       ·unfold kX;rw[if_pos (show ud r.N.aC=true from h)]
       ·unfold kX;rw[if_neg (by rw[show ud r.N.aC=false from h];simp)]
      ·subst hx hy;rw[hm2,hq];exact(hspec _ rfl).symm
   ·have hf:bf uq r.N.aC us 0=none:=by
     cases hf:bf uq r.N.aC us 0 with
     |none=>rfl
     |some z=>rw[hf]at hnone;cases hnone
    have hgl:getM gF r.N.aC us=none:=by unfold getM;rw[show bf gF r.N.aC us 0=none from hf];rfl
    have hin:=usd [] (by rw[hgl];rfl)
    refine .op () (by show(if(bf uq r.N.aC us 0).isSome then none else some ())=_;rw[hf];rfl) (.skip (.call _ (zM n [] bd (by show 0<n;omega) (by decide)) fun(b:Bool) hb=>.skip (.op () (if_pos ⟨hb0,by rw[hk];exact hb1⟩) (.op cb hcb (.skip ?_)))))
    rw[← hb]at hin;simp only[hmine,hin,Bool.false_or]at hsp;refine .br (fun g=>.skip (.call _ hrt fun(q:Int×Bool) hq=>.skip (.br (fun h=>by rw[hmine]at h;cases h) fun _=>.skip (.br (fun h2=>.skip (.tidy rfl (.inl (.done rfl ?_)))) fun h2=>.skip (.br (fun h3=>.skip (.tidy rfl (.inl (.done rfl ?_)))) fun h3=>.skip ?_))))) fun g=>.skip ?_
    ·rw[hsp,if_pos (by rw[show(!cb)=true from g];rfl),if_pos (by rw[h2];simp)];rfl
    ·subst hq;rw[hsp,if_pos (by rw[show(!cb)=true from g];rfl),if_pos (by rw[show(!q.2)=true from h3];simp)];rfl
    ·subst hq;have hspec:∀h:aB,h=Go.L.aB.mk t (Go.L.af.mk r.N.IP 32) (-1) r.A.Next r.N.ee 0 q.1→oO hm S=gG hm (sH r own sq h):=fun h e=>by
      subst e;rw[hsp,if_pos (by rw[show(!cb)=true from g];rfl),if_neg (by rw[h2,show(!q.2)=false from h3];simp)];rfl
     refine .call _ hmob fun q hq=>.skip (.join (fun(x:Int)=>x=kW r own) ?_ fun x hx=>.skip (.join (fun(y:Int)=>y=kX r) ?_ fun y hy=>.skip (.inl (.di _ (vf n hn f own k cr us dm tn sb hm _) fun m hm2=>.tidy rfl (.inl (.done rfl ?_))))))
     ·refine .br (fun h=>.skip (.done rfl ?_)) fun h=>.skip (.done rfl ?_)
      ·unfold kW;rw[if_neg (by simpa using h)]
      ·unfold kW;rw[if_pos (by simpa using h)]
     ·refine .br (fun h=>.skip (.done rfl ?_)) fun h=>.skip (.done rfl ?_)
      ·unfold kX;rw[if_pos (show ud r.N.aC=true from h)]
      ·unfold kX;rw[if_neg (by rw[show ud r.N.aC=false from h];simp)]
     ·subst hx hy;rw[hm2,hq];exact(hspec _ rfl).symm
    ·rw[show(!cb)=false from g,Bool.false_or]at hsp;refine .br (fun g2=>.skip (.join (fun(x:Unit⊕(Int×Int×Int×Int×Int))=>match x with
      | .inl _=>oO hm S=hm
      | .inr h=>∀m2,m2=gG hm (sH r own sq (Go.L.aB.mk t (Go.L.af.mk r.N.IP 32) h.1 h.2.1 h.2.2.1 h.2.2.2.1 h.2.2.2.2))→oO hm S=m2) ?_ fun x hx=>?_)) fun g2=>.skip ?_
     ·rw[show(!b)=true from g2,Bool.true_and]at hsp;refine .br (fun g3=>.skip (.call _ hrt fun(q:Int×Bool) hq=>.skip (.br (fun h=>by rw[hmine]at h;cases h) fun _=>.skip (.br (fun h2=>.skip (.done rfl ?_)) fun h2=>.skip (.br (fun h3=>.skip (.done rfl ?_)) fun h3=>.skip (.done rfl ?_)))))) fun g3=>.skip (.done rfl ?_)
      ·show oO hm S=hm;rw[hsp,if_pos g3,if_pos (by rw[h2];simp)];rfl
      ·show oO hm S=hm;subst hq;rw[hsp,if_pos g3,if_pos (by rw[show(!q.2)=true from h3];simp)];rfl
      ·subst hq;intro m2 e;rw[e,hsp,if_pos g3,if_neg (by rw[h2,show(!q.2)=false from h3];simp)];rfl
      ·intro m2 e;rw[e,hsp,if_neg (by rw[g3];simp)];rfl
     ·cases x with
      |inl u=>exact .tidy rfl (.inl (.done rfl (show hm=oO hm S from hx.symm)))
      |inr h=>
       refine .skip ?_;have hspec:∀h2:aB,h2=Go.L.aB.mk t (Go.L.af.mk r.N.IP 32) h.1 h.2.1 h.2.2.1 h.2.2.2.1 h.2.2.2.2→oO hm S=gG hm (sH r own sq h2):=fun h2 e=>by
        subst e;exact hx _ rfl
       refine .call _ hmob fun q hq=>.skip (.join (fun(x:Int)=>x=kW r own) ?_ fun x hx=>.skip (.join (fun(y:Int)=>y=kX r) ?_ fun y hy=>.skip (.inl (.di _ (vf n hn f own k cr us dm tn sb hm _) fun m hm2=>.tidy rfl (.inl (.done rfl ?_))))))
       ·refine .br (fun h=>.skip (.done rfl ?_)) fun h=>.skip (.done rfl ?_)
        ·unfold kW;rw[if_neg (by simpa using h)]
        ·unfold kW;rw[if_pos (by simpa using h)]
       ·refine .br (fun h=>.skip (.done rfl ?_)) fun h=>.skip (.done rfl ?_)
        ·unfold kX;rw[if_pos (show ud r.N.aC=true from h)]
        ·unfold kX;rw[if_neg (by rw[show ud r.N.aC=false from h];simp)]
       ·subst hx hy;rw[hm2,hq];exact(hspec _ rfl).symm
     ·have hspec:∀h2:aB,h2=Go.L.aB.mk t (Go.L.af.mk r.N.IP 32) bd 0 0 r.N.bV 0→oO hm S=gG hm (sH r own sq h2):=fun h2 e=>by
       subst e;rw[hsp,if_neg (by rw[show(!b)=false from g2];simp)];rfl
      refine .call _ hmob fun q hq=>.skip (.join (fun(x:Int)=>x=kW r own) ?_ fun x hx=>.skip (.join (fun(y:Int)=>y=kX r) ?_ fun y hy=>.skip (.inl (.di _ (vf n hn f own k cr us dm tn sb hm _) fun m hm2=>.tidy rfl (.inl (.done rfl ?_))))))
      ·refine .br (fun h=>.skip (.done rfl ?_)) fun h=>.skip (.done rfl ?_)
       ·unfold kW;rw[if_neg (by simpa using h)]
       ·unfold kW;rw[if_pos (by simpa using h)]
      ·refine .br (fun h=>.skip (.done rfl ?_)) fun h=>.skip (.done rfl ?_)
       ·unfold kX;rw[if_pos (show ud r.N.aC=true from h)]
       ·unfold kX;rw[if_neg (by rw[show ud r.N.aC=false from h];simp)]
      ·subst hx hy;rw[hm2,hq];exact(hspec _ rfl).symm
end Go.L
end
section
namespace Go.L
open Go.AM
set_option maxRecDepth 100000
set_option linter.unusedVariables false
set_option linter.unusedSimpArgs false
def wO(r:cz):Bool:=(r.N.Kind==2)&&r.N.eX
def jm(f:aG)(own:Int)(cr:List Bool)(us:List (dn Int×List Int))(dm tn:List (Int×Int))(sb:List (aa×Bool))(eV:af→Bool)(sq:Int)(rt:Int×Bool)(ts:List Int)(r:cz)(T:Int):List aj:=
 match getM cV T tn with
 |none=>[]
 |some t=>if wO r then(xM f own cr us dm t eV sq rt ts r).toList else(Cf own t sb rt r).toList
def rS(f:aG)(own:Int)(cr:List Bool)(us:List (dn Int×List Int))(dm tn:List (Int×Int))(sb:List (aa×Bool))(eV:af→Bool)(sq:Int)(rt:Int×Bool)(ts:List Int)(r:cz):List aj:=
 if wO r||(r.N.Kind==5)then ts.flatMap (jm f own cr us dm tn sb eV sq rt ts r)else[]
theorem Gz(hm:List (aa×aj))(o:Option aj):oO hm o=o.toList.foldl gG hm:=by cases o<;>rfl
theorem Oc(n:Nat)(hn:11≤n)(f:aG)(own:Int)(k:Nat)(cr:List Bool)(us:List (dn Int×List Int))(dm tn:List (Int×Int))(sb:List (aa×Bool))(hm:List (aa×aj))(ts:List Int)(r:cz)(eV:af→Bool)(sq:Int)(rt:Int×Bool)
 (htg:At (gE.S n r.A.dW) (fun(q:List Int)=>q=ts)) (hrt:At (fO.S n r.A.dW) (fun(q:Int×Bool)=>q=rt)) (hmob:At (dV.S n r.A.dW) (fun(q:Bool×Int×Bool)=>q.2.1=sq))
 (hts:ts.length<100000) (htn:ts.length<n) (hdm:∀T bd,getM cV T dm=some bd→0≤bd∧bd<f.aO.length) (hcon:∀d∈f.aO,At (dH.S n (d.bq,r.N.IP)) (fun(b:Bool)=>b=eV d.bq))
 (hk:k=f.aO.length) (hcr:cr.length=f.aO.length) (hus:∀e l,getM gF e us=some l→l.length<n∧l.length<100000):
 At (ur.c.S n (f,own,k,cr,us,dm,tn,sb,hm,r)) (fun m=>m=(rS f own cr us dm tn sb eV sq rt ts r).foldl gG hm):=by
 refine(?_ :cU n (pJ f own k cr us dm tn sb hm r) _);unfold pJ;have found:∀(T:Int) (x:Nat×Int),bf lD T tn 0=some x→getM cV T tn=some x.2:=fun T x h=>by unfold getM;rw[show bf cV T tn 0=some x from h];rfl
 have lost:∀(T:Int),bf lD T tn 0=none→getM cV T tn=none:=fun T h=>by unfold getM;rw[show bf cV T tn 0=none from h];rfl
 refine .skip (.br (fun k2=>.skip (.br (fun nip=>.skip (.br (fun k5=>.skip (.tidy rfl (.inl (.done rfl ?_)))) fun k5=>?_)) fun nip=>?_)) fun k2=>.skip (.br (fun k5=>.skip (.tidy rfl (.inl (.done rfl ?_)))) fun k5=>?_))
 ·have:rS f own cr us dm tn sb eV sq rt ts r=[]:=by
   unfold rS wO;rw[show r.N.eX=false by simpa using nip]
   rw[if_neg];simp only[bne_iff_ne]at k5;simp[k5]
  rw[this];rfl
 ·simp only[beq_iff_eq]at k2;rw[k2]at k5;exact absurd k5 (by decide)
 ·have hip:r.N.eX=true:=by simpa using nip
  have hh:wO r=true:=by unfold wO;rw[k2,hip];rfl
  have hR:rS f own cr us dm tn sb eV sq rt ts r=ts.flatMap (jm f own cr us dm tn sb eV sq rt ts r):=by unfold rS;rw[hh];rfl
  rw[hR];refine .skip (.call _ htg fun(q:List Int) hq=>?_)
  subst hq;refine .skip (.op () rfl (.skip (.loop (dA q fun pre m=>m=(pre.flatMap (jm f own cr us dm tn sb eV sq rt q r)).foldl gG hm) (fun a=>q.length - a.1.toNat) (fun m=>m=(q.flatMap (jm f own cr us dm tn sb eV sq rt q r)).foldl gG hm) rfl (dA.start rfl) (by simpa using htn) (fun a ha=>?_) (fun m hm2=>.tidy rfl (.inl (.done rfl hm2))))))
  refine .skip (.br (fun g=>?_) fun g=>.skip (.done rfl (ha.fin g)))
  obtain⟨T,pre,h1,h2,h3,_,h5⟩:=ha.get g;have next:∀m,m=(jm f own cr us dm tn sb eV sq rt q r T).foldl gG a.2→m=((pre++[T]).flatMap (jm f own cr us dm tn sb eV sq rt q r)).foldl gG hm:=fun m e=>by
   rw[e,List.flatMap_append,List.foldl_append,← h3];simp
  refine .skip (.op T h1 (.skip (.op () rfl (.skip ?_))));cases hf:bf lD T tn 0 with
  |none=>exact .br (fun _=>.skip (.done rfl (h5 hts _ (next _ (by unfold jm;rw[lost T hf];rfl))))) fun e=>by cases e
  |some x=>
   refine .br (fun e=>by cases e) fun _=>.skip (.join (fun m=>m=oO a.2 (xM f own cr us dm x.2 eV sq rt q r)) ?_ fun m e=>.skip (.done rfl (h5 hts _ (next _ ?_))))
   ·exact .br (fun _=>.skip (.inl (.di _ (PD n hn f own k cr us dm tn sb a.2 x.2 q r eV sq rt hrt hmob hts htn hdm hcon hk hcr hus) fun m e=>.done rfl e))) fun e=>by rw[hip]at e;cases e
   ·rw[e,Gz];unfold jm;rw[found T x hf];simp only[hh,if_true]
 ·have:rS f own cr us dm tn sb eV sq rt ts r=[]:=by
   unfold rS wO;rw[k2,if_neg];simp only[bne_iff_ne]at k5;simp[k5]
  rw[this];rfl
 ·have hk5:r.N.Kind=5:=by simpa using k5
  have hh:wO r=false:=by unfold wO;rw[k2];rfl
  have hR:rS f own cr us dm tn sb eV sq rt ts r=ts.flatMap (jm f own cr us dm tn sb eV sq rt ts r):=by unfold rS;rw[hh,hk5];rfl
  rw[hR];refine .skip (.call _ htg fun(q:List Int) hq=>?_)
  subst hq;refine .skip (.op () rfl (.skip (.loop (dA q fun pre m=>m=(pre.flatMap (jm f own cr us dm tn sb eV sq rt q r)).foldl gG hm) (fun a=>q.length - a.1.toNat) (fun m=>m=(q.flatMap (jm f own cr us dm tn sb eV sq rt q r)).foldl gG hm) rfl (dA.start rfl) (by simpa using htn) (fun a ha=>?_) (fun m hm2=>.tidy rfl (.inl (.done rfl hm2))))))
  refine .skip (.br (fun g=>?_) fun g=>.skip (.done rfl (ha.fin g)))
  obtain⟨T,pre,h1,h2,h3,_,h5⟩:=ha.get g;have next:∀m,m=(jm f own cr us dm tn sb eV sq rt q r T).foldl gG a.2→m=((pre++[T]).flatMap (jm f own cr us dm tn sb eV sq rt q r)).foldl gG hm:=fun m e=>by
   rw[e,List.flatMap_append,List.foldl_append,← h3];simp
  refine .skip (.op T h1 (.skip (.op () rfl (.skip ?_))));cases hf:bf lD T tn 0 with
  |none=>exact .br (fun _=>.skip (.done rfl (h5 hts _ (next _ (by unfold jm;rw[lost T hf];rfl))))) fun e=>by cases e
  |some x=>
   refine .br (fun e=>by cases e) fun _=>.skip (.inl (.di _ (MS n hn f own k cr us dm tn sb a.2 x.2 r rt hrt) fun m e=>.skip (.done rfl (h5 hts _ (next _ ?_)))))
   rw[e,Gz];unfold jm;rw[found T x hf];simp only[hh,Bool.false_eq_true,if_false]
end Go.L
end
section
namespace Go.L
open Go.AM
set_option maxRecDepth 100000
set_option linter.unusedVariables false
set_option linter.unusedSimpArgs false
def kH(x:aB):aa:=⟨x.av,x.af⟩
def jW(k:bK)(x:aB):aB:=Go.L.aB.mk k.To x.af x.BD x.Next x.dz x.bV x.cF
theorem D0(k:bK)(x:aB):kH (jW k x)=⟨k.To,x.af⟩:=rfl
def bW(aS:af→af→Bool)(k:bK)(s:List aB×List (aa×Bool))(x:aB):List aB×List (aa×Bool):=
 if x.av != k.From then s
 else if(getM bx ⟨k.To,x.af⟩ s.2).getD false then s
 else if !aS k.af x.af then s
 else(s.1++[jW k x],bP bx ⟨k.To,x.af⟩ true s.2)
def lE(own:List aB):List (aa×Bool):=own.foldl (fun m x=>bP bx (kH x) true m) []
def EX(aS:af→af→Bool)(leaks:List bK)(own:List aB):List aB×List (aa×Bool):=leaks.foldl (fun s k=>own.foldl (bW aS k) s) (own,lE own)
def mu(aS:af→af→Bool)(k:bK)(all:List aB)(x:aB):Bool:=(x.av==k.From)&& !(decide ((⟨k.To,x.af⟩:aa)∈all.map kH))&&aS k.af x.af
def kY(aS:af→af→Bool)(own:List aB)(all:List aB)(k:bK):List aB:=all++(own.filter (mu aS k all)).map (jW k)
def wu(aS:af→af→Bool)(leaks:List bK)(own:List aB):List aB:=leaks.foldl (kY aS own) own
def Tk(s:List aB×List (aa×Bool)):Prop:=∀p,(getM bx p s.2).getD false=decide (p∈s.1.map kH)
theorem Tk.add{s:List aB×List (aa×Bool)}(h:Tk s)(x:aB):Tk (s.1++[x],bP bx (kH x) true s.2):=by
 intro p;rw[ID IE];by_cases hp:p=kH x
 ·rw[if_pos hp];simp[hp]
 ·rw[if_neg hp,h p];simp only[List.map_append,List.map_cons,List.map_nil,List.mem_append,List.mem_singleton,hp,or_false]
theorem Od(own:List aB):Tk (own,lE own):=by
 have:∀(l:List aB) (s:List aB×List (aa×Bool)),Tk s→Tk (s.1++l,l.foldl (fun m x=>bP bx (kH x) true m) s.2):=by
  intro l;induction l with
  |nil=>intro s h;simpa using h
  |cons x l ih=>
   intro s h;have:=ih _ (h.add x);simpa using this
 have h:=this own ([],[]) (fun p=>by simp[Oa])
 simpa[lE]using h
theorem round_eq(aS:af→af→Bool)(k:bK):∀(own:List aB) (s:List aB×List (aa×Bool)),(own.map kH).Nodup→Tk s→(own.foldl (bW aS k) s).1=kY aS own s.1 k∧Tk (own.foldl (bW aS k) s)
 | [],s,_,h=>⟨by simp[kY],h⟩
 |x::xs,s,hn,h=>by
  simp only[List.map_cons,List.nodup_cons]at hn;simp only[List.foldl_cons];have hc:mu aS k s.1 x=true∨mu aS k s.1 x=false:=by cases mu aS k s.1 x<;>simp
  rcases hc with hc |hc
  ·have hx:bW aS k s x=(s.1++[jW k x],bP bx ⟨k.To,x.af⟩ true s.2):=by
    unfold mu at hc;simp only[Bool.and_eq_true,beq_iff_eq,Bool.not_eq_true',decide_eq_false_iff_not]at hc;unfold bW;rw[if_neg (by simp[hc.1.1]),if_neg (by rw[h];simpa using hc.1.2),if_neg (by simp[hc.2])]
   rw[hx];obtain⟨i1,i2⟩:=round_eq aS k xs (s.1++[jW k x],bP bx ⟨k.To,x.af⟩ true s.2) hn.2 (h.add (jW k x));refine⟨?_,i2⟩;rw[i1];unfold kY;have hfr:x.av=k.From:=by
    unfold mu at hc;simp only[Bool.and_eq_true,beq_iff_eq]at hc;exact hc.1.1
   have:xs.filter (mu aS k (s.1++[jW k x]))=xs.filter (mu aS k s.1):=by
    apply List.filter_congr;intro y hy;unfold mu;by_cases hyt:y.av=k.From
    ·have hne:(⟨k.To,y.af⟩:aa)≠kH (jW k x):=by
      rw[D0];intro e;have e2:y.af=x.af:=by injection e
      exact hn.1 (List.mem_map.2 ⟨y,hy,by unfold kH;rw[hyt,hfr,e2]⟩)
     simp only[List.map_append,List.map_cons,List.map_nil,List.mem_append,List.mem_singleton,hne,or_false]
    ·have hb:(y.av==k.From)=false:=by simpa using hyt
     simp only[hb,Bool.false_and]
   simp only[List.filter_cons,hc,if_true,List.map_cons,List.append_assoc,this,List.cons_append,List.nil_append]
  ·have hx:bW aS k s x=s:=by
    unfold mu at hc;unfold bW;by_cases h1:x.av=k.From
    ·rw[if_neg (by simp[h1])]
     by_cases h2:(⟨k.To,x.af⟩:aa)∈s.1.map kH
     ·rw[if_pos (by rw[h];simpa using h2)]
     ·rw[if_neg (by rw[h];simpa using h2)]
      have h3:aS k.af x.af=false:=by simpa[h1,h2]using hc
      rw[if_pos (by rw[h3];rfl)]
    ·rw[if_pos (by simpa using h1)]
   rw[hx];obtain⟨i1,i2⟩:=round_eq aS k xs s hn.2 h;refine⟨?_,i2⟩;rw[i1];unfold kY;simp only[List.filter_cons,hc,Bool.false_eq_true,if_false]
theorem IG(aS:af→af→Bool)(leaks:List bK)(own:List aB)(hn:(own.map kH).Nodup):(EX aS leaks own).1=wu aS leaks own:=by
 have:∀(ls:List bK) (s:List aB×List (aa×Bool)),Tk s→(ls.foldl (fun s k=>own.foldl (bW aS k) s) s).1=ls.foldl (kY aS own) s.1:=by
  intro ls;induction ls with
  |nil=>intro s _;rfl
  |cons k ls ih=>
   intro s h;obtain⟨h1,h2⟩:=round_eq aS k own s hn h;simp only[List.foldl_cons];rw[ih _ h2,h1]
 exact this leaks _ (Od own)
theorem Lw(aS:af→af→Bool){own own' all all':List aB}(h1:own.Perm own')(h2:all.Perm all')(k:bK):(kY aS own all k).Perm (kY aS own' all' k):=by
 unfold kY;have:mu aS k all=mu aS k all':=funext fun x=>by
  unfold mu;have:(⟨k.To,x.af⟩:aa)∈all.map kH↔(⟨k.To,x.af⟩:aa)∈all'.map kH:=(h2.map kH).mem_iff;simp only[this]
 rw[this];exact h2.append ((h1.filter _).map _)
theorem Lx(aS:af→af→Bool)(leaks:List bK){own own':List aB}(h:own.Perm own'):(wu aS leaks own).Perm (wu aS leaks own'):=by
 have:∀(ls:List bK) (a a':List aB),a.Perm a'→(ls.foldl (kY aS own) a).Perm (ls.foldl (kY aS own') a'):=by
  intro ls;induction ls with
  |nil=>intro a a' h;exact h
  |cons k ls ih=>intro a a' ha;exact ih _ _ (Lw aS h ha k)
 exact this leaks own own' h
theorem JH(aS:af→af→Bool){own all:List aB}(h1:(own.map kH).Nodup)(h2:(all.map kH).Nodup)(k:bK):((kY aS own all k).map kH).Nodup:=by
 unfold kY;rw[List.map_append,List.nodup_append];refine⟨h2,?_,fun p hp q hq=>?_⟩
 ·have hsub:((own.filter (mu aS k all)).map kH).Nodup:=(List.filter_sublist.map kH).nodup h1;have hfrom:∀x∈own.filter (mu aS k all),x.av=k.From:=fun x hx=>by
   have:=(List.mem_filter.1 hx).2;unfold mu at this;simp only[Bool.and_eq_true,beq_iff_eq]at this;exact this.1.1
  generalize own.filter (mu aS k all)=l at hsub hfrom;induction l with
  |nil=>exact List.nodup_nil
  |cons x l ih=>
   simp only[List.map_cons,List.nodup_cons]at hsub ⊢;refine⟨fun hx=>?_,ih hsub.2 fun y hy=>hfrom y (List.mem_cons_of_mem _ hy)⟩
   obtain⟨y',hy',he⟩:=List.mem_map.1 hx;obtain⟨y,hy,rfl⟩:=List.mem_map.1 hy';rw[D0,D0]at he;have e2:y.af=x.af:=by injection he
   exact hsub.1 (List.mem_map.2 ⟨y,hy,by unfold kH;rw[hfrom y (List.mem_cons_of_mem _ hy),hfrom x List.mem_cons_self,e2]⟩)
 ·rintro rfl;obtain⟨y',hy',rfl⟩:=List.mem_map.1 hq;obtain⟨y,hy,rfl⟩:=List.mem_map.1 hy';have:=(List.mem_filter.1 hy).2;unfold mu at this;simp only[Bool.and_eq_true,Bool.not_eq_true',decide_eq_false_iff_not]at this;exact this.1.2 hp
theorem JI(aS:af→af→Bool)(leaks:List bK){own:List aB}(h:(own.map kH).Nodup):((wu aS leaks own).map kH).Nodup:=by
 have:∀(ls:List bK) (a:List aB),(a.map kH).Nodup→((ls.foldl (kY aS own) a).map kH).Nodup:=by
  intro ls;induction ls with
  |nil=>intro a h;exact h
  |cons k ls ih=>intro a ha;exact ih _ (JH aS h ha k)
 exact this leaks own h
end Go.L
end
section
namespace Go.L
open Go.AM
set_option maxRecDepth 100000
set_option linter.unusedVariables false
set_option linter.unusedSimpArgs false
theorem Dy{K V:Type}{eq:K→K→Bool}(heq:∀a b,eq a b=true↔a=b)(l:List (K×V))(k:K)(v:V)(h:getM eq k (jS eq l)=some v):(k,v)∈l:=by
 have hd:∀(a b:K),Decidable (a=b):=fun a b=>decidable_of_iff _ (heq a b)
 have:∀(l:List (K×V)) (m:List (K×V)),getM eq k (l.foldl (fun m p=>bP eq p.1 p.2 m) m)=some v→(k,v)∈l∨getM eq k m=some v:=by
  intro l;induction l with
  |nil=>exact fun m h=>.inr h
  |cons p l ih=>
   intro m h;rcases ih _ h with h |h
   ·exact .inl (List.mem_cons_of_mem _ h)
   ·rw[ID heq]at h;split at h
    ·rename_i he;cases h;exact .inl (by rw[he];exact List.mem_cons_self)
    ·exact .inr h
 rcases this l [] h with h |h
 ·exact h
 ·cases h
theorem GA{α β:Type}{g:Nat→α→List β}{l:List α}{y:β}(h:y∈gY g l):∃i x,l[i]? =some x∧y∈g i x:=by
 unfold gY at h;obtain⟨p,hp,hy⟩:=List.mem_flatMap.1 h;exact⟨p.2,p.1,List.mem_zipIdx_iff_getElem?.1 hp,hy⟩
theorem RS(a b:Int):cV a b=true↔a=b:=by unfold cV;simp
theorem RT(a b:dn Int):gF a b=true↔a=b:=by
 unfold gF;simp only[Bool.and_eq_true,beq_iff_eq,and_true];constructor
 ·rintro⟨h0,h1,h2,h3,h4,h5,h6,h7,h8,h9⟩;cases a;cases b;simp only at h0 h1 h2 h3 h4 h5 h6 h7 h8 h9;subst h0 h1 h2 h3 h4 h5 h6 h7 h8 h9;rfl
 ·rintro rfl;exact⟨rfl,rfl,rfl,rfl,rfl,rfl,rfl,rfl,rfl,rfl⟩
def zi(f:aG)(self:Int):List Bool:=(List.range f.aO.length).map fun b=>decide (((b:Nat):Int)∈f.aH.flatMap (yJ self))
def IJ(f:aG)(self:Int)(up:List Bool)(es:Int→dn Int):List (dn Int×List Int):=jS gF (gY (wN self up es) f.aH)
def Kq(f:aG):List (Int×Int):=jS cV (gY (fun i d=>[(d.Target,(i:Int))]) f.aO)
def O6(f:aG):List (Int×Int):=jS cV (gY (fun i t=>[(t.Target,(i:Int))]) f.aT)
def O7(f:aG)(self:Int):List (aa×Bool):=(xL f (zi f self)).foldl CV []
structure jT where
 lo:Int
 es:Int→dn Int
 eV:af→Int→Bool
 aS:af→af→Bool
 tg:cz→List Int
 rt:cz→Int×Bool
 sq:cz→Int
def CW(f:aG)(self:Int)(up:List Bool)(K:jT)(r:cz):List aj:=
 rS f K.lo (zi f self) (IJ f self up K.es) (Kq f) (O6 f) (O7 f self) (fun p=>K.eV p r.N.IP) (K.sq r) (K.rt r) (K.tg r) r
def mR(f:aG)(self:Int)(up:List Bool)(K:jT)(rs:List cz):List aj:=xL f (zi f self)++rs.flatMap (CW f self up K)
def tF(f:aG)(self:Int)(up:List Bool)(K:jT)(rs:List cz):List (aa×aj):=(mR f self up K rs).foldl gG []
def pN(hm:List (aa×aj)):List aB:=hm.map fun e=>e.2.aB
theorem Qs(f:aG)(T bd:Int)(h:getM cV T (Kq f)=some bd):0≤bd∧bd<f.aO.length:=by
 obtain⟨i,x,h1,h2⟩:=GA (Dy RS _ _ _ h);simp only[List.mem_singleton,Prod.mk.injEq]at h2;have:=(List.getElem?_eq_some_iff.1 h1).1;omega
theorem Qt(f:aG)(self:Int)(up:List Bool)(es:Int→dn Int)(e:dn Int)(l:List Int)(h:getM gF e (IJ f self up es)=some l):∃s∈f.aH,l=s.aO:=by
 obtain⟨i,x,h1,h2⟩:=GA (Dy RT _ _ _ h);unfold wN at h2;split at h2
 ·simp only[List.mem_singleton,Prod.mk.injEq]at h2;exact⟨x,List.mem_of_getElem? h1,h2.2⟩
 ·cases h2
theorem Lt.Rc{f:aG}{self:Int}{up:List Bool}{es:Int→dn Int}{lo:Int}{r:List Bool×List (dn Int×List Int)×List (Int×Int)×List (Int×Int)×List (aa×Bool)×List (aa×aj)×aG×Int×Nat}(h:Lt f self up es lo r):r.1=zi f self:=by
 apply List.ext_getElem?;intro b;unfold zi;by_cases hb:b<f.aO.length
 ·rw[h.cr b hb];simp[hb]
 ·rw[List.getElem?_eq_none (by rw[h.RQ];omega),List.getElem?_eq_none (by simp;omega)]
def wv(hm:List (aa×aj)):Prop:=(hm.map (·.1)).Nodup∧∀e∈hm,e.1=zh e.2
theorem wv.put{hm:List (aa×aj)}(h:wv hm)(x:aj):wv (gG hm x):=by
 refine⟨(EV h.1 x).1,fun e he=>?_⟩
 unfold gG at he;have key:∀e∈bP bx (zh x) x hm,e.1=zh e.2:=fun e he=>by
  obtain⟨p,y⟩:=e;rcases(Qr IE hm (zh x) x h.1 p y).1 he with⟨rfl,rfl⟩ |⟨_,h2⟩
  ·rfl
  ·exact h.2 _ h2
 split at he
 ·exact key e he
 ·split at he
  ·exact key e he
  ·exact h.2 e he
theorem wv.fold{hm:List (aa×aj)}(h:wv hm):∀(cs:List aj),wv (cs.foldl gG hm)
 | []=>h
 |x::cs=>(h.put x).fold cs
theorem Ch:∀(cs:List aj) (hm:List (aa×aj)),(hm.map (·.1)).Nodup→(cs.foldl gG hm).length≤hm.length+cs.length
 | [],hm,_=>Nat.le_refl _
 |x::cs,hm,h=>by
  have h1:=EV h x;have h2:=Ch cs (gG hm x) h1.1;simp only[List.foldl_cons,List.length_cons];omega
theorem FJ(f:aG)(self:Int)(up:List Bool)(K:jT)(rs:List cz):wv (tF f self up K rs):=wv.fold (hm:=[]) ⟨List.nodup_nil,fun _ h=>by cases h⟩ _
theorem EY{hm:List (aa×aj)}(h:wv hm):((pN hm).map kH).Nodup:=by
 have:(pN hm).map kH=hm.map (·.1):=by
  unfold pN;rw[List.map_map];apply List.map_congr_left;intro e he;exact(h.2 e he).symm
 rw[this];exact h.1
def RA:aB:=Go.L.aB.mk 0 (Go.L.af.mk 0 0) 0 0 0 0 0
def IK(hm:List (aa×aj))(i:Nat):aB:=((hm[i]?).map fun e=>e.2.aB).getD RA
theorem Lz(hm:List (aa×aj)):(List.range hm.length).map (IK hm)=pN hm:=by
 apply List.ext_getElem
 ·simp[pN]
 ·intro i h1 h2;have h:i<hm.length:=by simpa using h1
  simp[IK,pN,h]
end Go.L
end
section
namespace Go.L
open Go.AM
set_option maxRecDepth 100000
set_option linter.unusedVariables false
set_option linter.unusedSimpArgs false
structure Ci(n:Nat)(f:aG)(leaf:Int)(up:List Bool)(rs:List cz)(K:jT)(srt:List aB→List aB):Prop where
 hn:11≤n
 ck:At (fI.S n f) (fun(r:Int×ByteArray×Int)=>r.1=0)
 h0:0≤leaf
 h1:leaf<f.Leaves
 lo:At (ig.S n (f,leaf)) (fun r=>r=K.lo)
 seg:EW n f
 es:∀i:Nat,i<f.aH.length→At (kJ.S n (i:Int)) (fun(r:dn Int×Int)=>r.1=K.es i)
 rl:rs.length<100000
 rn:rs.length<n
 tg:∀r∈rs,At (gE.S n r.A.dW) (fun(q:List Int)=>q=K.tg r)
 rt:∀r∈rs,At (fO.S n r.A.dW) (fun(q:Int×Bool)=>q=K.rt r)
 sq:∀r∈rs,At (dV.S n r.A.dW) (fun(q:Bool×Int×Bool)=>q.2.1=K.sq r)
 tl:∀r∈rs,(K.tg r).length<100000∧(K.tg r).length<n
 eV:∀r∈rs,∀d∈f.aO,At (dH.S n (d.bq,r.N.IP)) (fun(b:Bool)=>b=K.eV d.bq r.N.IP)
 aS:∀k∈f.Leaks,∀p,At (jG.S n (k.af,p)) (fun(b:Bool)=>b=K.aS k.af p)
 kl:f.Leaks.length<100000
 kn:f.Leaks.length<n
 cs:(mR f leaf up K rs).length<90000
 sz:((mR f leaf up K rs).length+1)*(f.Leaks.length+2)<1000000000
 cn:(mR f leaf up K rs).length+1<n
 so:∀l:List aB,l.length<1000000000→At (l8.S n l) (fun r=>r=srt l)
 sl:∀l:List aB,(srt l).length=l.length
theorem MU(aS:af→af→Bool)(k:bK)(s:List aB×List (aa×Bool))(x:aB):(bW aS k s x).1.length≤s.1.length+1∧∃e,(bW aS k s x).1=s.1++e:=by
 unfold bW;split
 ·exact⟨Nat.le_succ _,[],by simp⟩
 split
 ·exact⟨Nat.le_succ _,[],by simp⟩
 split
 ·exact⟨Nat.le_succ _,[],by simp⟩
 ·exact⟨by simp,[jW k x],rfl⟩
theorem nr(aS:af→af→Bool)(k:bK):∀(p:List aB) (s:List aB×List (aa×Bool)),(p.foldl (bW aS k) s).1.length≤s.1.length+p.length∧∃e,(p.foldl (bW aS k) s).1=s.1++e
 | [],s=>⟨Nat.le_refl _,[],by simp⟩
 |x::p,s=>by
  obtain⟨h1,e1,h2⟩:=MU aS k s x;obtain⟨h3,e3,h4⟩:=nr aS k p (bW aS k s x);simp only[List.foldl_cons,List.length_cons];exact⟨by omega,e1++e3,by rw[h4,h2,List.append_assoc]⟩
def fT(aS:af→af→Bool)(own:List aB)(pre:List bK):List aB×List (aa×Bool):=pre.foldl (fun s k=>own.foldl (bW aS k) s) (own,lE own)
theorem rU(aS:af→af→Bool)(own:List aB):∀(pre:List bK) (s:List aB×List (aa×Bool)),(pre.foldl (fun s k=>own.foldl (bW aS k) s) s).1.length≤s.1.length+pre.length*own.length∧∃e,(pre.foldl (fun s k=>own.foldl (bW aS k) s) s).1=s.1++e
 | [],s=>⟨by simp,[],by simp⟩
 |k::pre,s=>by
  obtain⟨h1,e1,h2⟩:=nr aS k own s;obtain⟨h3,e3,h4⟩:=rU aS own pre (own.foldl (bW aS k) s);simp only[List.foldl_cons,List.length_cons];refine⟨?_,e1++e3,by rw[h4,h2,List.append_assoc]⟩
  rw[Nat.add_mul];omega
abbrev Dz:=List (aa×Bool)
def qZ:(Int×List aB×Dz)⊕(Int×List aB×List aB×Dz)→Int×(List aB×Dz)
 | .inl a=>(a.1,a.2.1,a.2.2)
 | .inr a=>(a.1,a.2.2.1,a.2.2.2)
def Be:(Int×List aB×Dz)⊕(Int×List aB×List aB×Dz)→List aB
 | .inl a=>a.2.1
 | .inr a=>a.2.1
def CX:(List aB×Dz)⊕(List aB×List aB×Dz)→List aB×Dz
 | .inl a=>a
 | .inr a=>a.2
def CY:(List aB×Dz)⊕(List aB×List aB×Dz)→List aB
 | .inl a=>a.1
 | .inr a=>a.1
def Pre(own l:List aB):Prop:=∃e,l=own++e
theorem Pre.get{own l:List aB}(h:Pre own l){i:Nat}{x:aB}(hx:own[i]? =some x):l[i]? =some x:=by
 obtain⟨e,rfl⟩:=h;rw[List.getElem?_append_left (List.getElem?_eq_some_iff.1 hx).1];exact hx
theorem Pre.snoc{own l:List aB}(h:Pre own l)(x:aB):Pre own (l++[x]):=by
 obtain⟨e,rfl⟩:=h;exact⟨e++[x],by rw[List.append_assoc]⟩
theorem Oe(n:Nat)(f:aG)(leaf:Int)(up:List Bool)(rs:List cz)(K:jT)(srt:List aB→List aB)(H:Ci n f leaf up rs K srt):
 dO n (pM f leaf up rs) (fun r=>∃own:List aB,own.Perm (pN (tF f leaf up K rs))∧r=srt (EX K.aS f.Leaks own).1):=by
 unfold pM;have hn0:0<n:=by have:=H.hn;omega
 have hnew:At (rR.c.S n (f,leaf,up)) (fun r=>r=(zi f leaf,IJ f leaf up K.es,Kq f,O6 f,[],[],f,K.lo,f.aO.length)):=
  (G5 n f leaf K.lo up K.es H.lo H.seg H.es).mono fun r h=>by
   have h1:=h.Rc;obtain⟨a1,a2,a3,a4,a5,a6,a7,a8,a9⟩:=r;have:=h.us;have:=h.dm;have:=h.tn;have:=h.sb;have:=h.hm;have:=h.fb;have:=h.own;have:=h.len;simp only at*
   subst_vars;rfl
 have hcrl:(zi f leaf).length=f.aO.length:=by simp[zi]
 refine .skip (.call _ H.ck fun r5 h5=>.skip (.br (fun h=>by rw[h5]at h;cases h) fun _=>.skip (.br (fun h=>absurd H.h0 (by simpa using h)) fun _=>.skip (.br (fun h=>absurd H.h1 (by simpa using h)) fun _=>.skip (.inl (.di _ hnew fun r9 h9=>?_))))))
 subst h9;refine .skip (.inl (.di _ (IF n H.hn f K.lo _ _ _ _ _ _ _ H.seg.b H.seg.bn rfl hcrl) fun r10 h10=>?_))
 subst h10;have hdm:=Qs f;have hus:∀e l,getM gF e (IJ f leaf up K.es)=some l→l.length<n∧l.length<100000:=fun e l h=>by
  obtain⟨s,hs,rfl⟩:=Qt f leaf up K.es e l h;obtain⟨_,_,q3,q4,_⟩:=H.seg.s s hs;exact⟨q3,q4⟩
 refine .skip (.op () rfl (.skip (.loop (dA rs fun pre m=>m=(pre.flatMap (CW f leaf up K)).foldl gG ((xL f (zi f leaf)).foldl gG [])) (fun a=>rs.length - a.1.toNat) (fun m=>m=tF f leaf up K rs) rfl (dA.start rfl) (by simpa using H.rn) (fun a ha=>?_) (fun t26 h26=>?_))))
 ·refine .skip (.br (fun g=>?_) fun g=>.skip (.done rfl ?_))
  ·obtain⟨r,pre,g1,g2,g3,_,g5⟩:=ha.get g;obtain⟨l1,l2⟩:=H.tl r g2;refine .skip (.op r g1 (.skip (.inl (.di _ (Oc n H.hn f K.lo _ _ _ _ _ _ a.2 (K.tg r) r (fun p=>K.eV p r.N.IP) (K.sq r) (K.rt r) (H.tg r g2) (H.rt r g2) (H.sq r g2) l1 l2 hdm (H.eV r g2) rfl hcrl hus) fun m hm=>.skip (.done rfl (g5 H.rl _ ?_))))))
   rw[hm,g3,List.flatMap_append,List.foldl_append,List.flatMap_cons,List.flatMap_nil,List.append_nil];rfl
  ·have:=ha.fin g;show a.2=tF f leaf up K rs;rw[this];unfold tF mR;rw[List.foldl_append]
 subst h26;generalize hhm:tF f leaf up K rs=hm;have hkey:wv hm:=hhm▸FJ f leaf up K rs;have hlen:hm.length≤(mR f leaf up K rs).length:=by
  rw[← hhm];unfold tF;simpa using Ch (mR f leaf up K rs) [] (by simp)
 have hsz:=H.sz;have hcn:=H.cn;have hcs:=H.cs;have hsm:hm.length<90000:=by omega
 have hroom:roomy (Int.toNat (((List.length hm):Nat):Int)) 56=true:=by
  simp only[roomy,Bool.and_eq_true,decide_eq_true_eq,Int.toNat_natCast];omega
 refine .skip (.inl (.skip (.op () rfl (.op () (if_pos ⟨Int.natCast_nonneg _,hroom⟩) (.skip (.op () rfl (.skip ?_)))))));refine .loop (fun a=>a.2.2.Nodup∧(∀i∈a.2.2,i<hm.length)∧a.1=a.2.2.map (IK hm)∧a.2.1=lE a.1) (fun a=>hm.length - a.2.2.length) (fun t=>t.1.Perm (pN hm)∧t.2.1=lE t.1) rfl ⟨List.nodup_nil,(fun i (h:i∈([]:List Nat))=>(List.not_mem_nil h).elim),rfl,rfl⟩ (by show hm.length - 0<n;omega) (fun a ha=>?_) (fun t42 h42=>?_)
 ·obtain⟨hnd,hlt,hk,htk⟩:=ha;refine .pick (fun hall=>.skip (.done rfl ⟨?_,htk⟩)) (fun i hi hns=>?_)
  ·show a.1.Perm _;rw[hk,← Lz];exact(MT hnd hlt hall).map _
  ·have hi':i<hm.length:=hi;have hl2:a.2.2.length<hm.length:=by
    have h1:(a.2.2++[i]).Nodup:=by
     rw[List.nodup_append];exact⟨hnd,by simp,fun x hx y hy=>by simp only[List.mem_singleton]at hy;subst hy;rintro rfl;exact hns hx⟩
    have h2:(a.2.2++[i]).length≤hm.length:=by
     have:=List.Nodup.length_le_of_subset h1 (l₂:=List.range hm.length) (fun x hx=>by
      rcases List.mem_append.1 hx with h |h
      ·exact List.mem_range.2 (hlt x h)
      ·simp only[List.mem_singleton]at h;subst h;exact List.mem_range.2 hi')
     simpa using this
    simp at h2;omega
   have hal:a.1.length=a.2.2.length:=by rw[hk];simp
   have r1:roomy (a.1.length+[(hm[i]'hi').2.aB].length) 56=true:=by
    simp only[roomy,Bool.and_eq_true,decide_eq_true_eq,List.length_singleton];omega
   have r2:(a.2.2++[i]).Nodup:=by
    rw[List.nodup_append];exact⟨hnd,by simp,fun x hx y hy=>by simp only[List.mem_singleton]at hy;subst hy;rintro rfl;exact hns hx⟩
   have r3:∀x∈a.2.2++[i],x<hm.length:=fun x hx=>by
    rcases List.mem_append.1 hx with h |h
    ·exact hlt x h
    ·simp only[List.mem_singleton]at h;subst h;exact hi'
   have r4:a.1++[(hm[i]'hi').2.aB]=(a.2.2++[i]).map (IK hm):=by
    rw[List.map_append,← hk];simp[IK,hi']
   have r5:bP bx (hm[i]'hi').1 true a.2.1=lE (a.1++[(hm[i]'hi').2.aB]):=by
    rw[htk,hkey.2 _ (List.getElem_mem hi')];simp[lE,kH,zh]
   have r6:hm.length - (a.2.2++[i]).length<hm.length - a.2.2.length:=by simp;omega
   exact .skip (.op (hm[i]'hi') (List.getElem?_eq_getElem hi') (.skip (.op () (if_pos ⟨rfl,r1⟩) (.skip (.op () rfl (.done rfl ⟨⟨r2,r3,r4,r5⟩,r6⟩))))))
 obtain⟨own,tk,seen⟩:=t42;obtain⟨hperm,htk⟩:=h42;simp only at hperm htk;subst htk;have hol:own.length=hm.length:=by rw[hperm.length_eq];simp[pN]
 have hkl:=H.kl;have bound:∀(a b:Nat),a≤f.Leaks.length→b≤own.length→own.length+a*own.length+b<1000000000:=fun a b h1 h2=>by
  have h3:a*own.length≤f.Leaks.length*own.length:=Nat.mul_le_mul_right _ h1;have h4:((mR f leaf up K rs).length+1)*(f.Leaks.length+2)=f.Leaks.length*((mR f leaf up K rs).length+1)+2*((mR f leaf up K rs).length+1):=by rw[Nat.mul_comm,Nat.add_mul]
  have h5:f.Leaks.length*own.length≤f.Leaks.length*((mR f leaf up K rs).length+1):=Nat.mul_le_mul_left _ (by omega)
  omega
 refine .skip (.op () rfl (.skip (.nL (fun a=>dA f.Leaks (fun pre s=>s=fT K.aS own pre) (qZ a)∧Pre own (Be a)) (fun a=>f.Leaks.length - (qZ a).1.toNat) (fun l=>l=(EX K.aS f.Leaks own).1) rfl ⟨dA.start rfl,[],(List.append_nil _).symm⟩ (by have:=H.kn;show f.Leaks.length - 0<n;omega) (fun a ha=>?_) (fun t80 h80=>?_))))
 ·have hol9:own.length<100000:=by omega
  cases a with
  |inl a=>
   obtain⟨ha,hbase⟩:=ha;refine .skip (.br (fun g=>?_) fun g=>.skip (.done rfl (congrArg Prod.fst (ha.fin g))))
   obtain⟨k,pre,g1,g2,g3,⟨gi,gpost,hgp⟩,g5⟩:=ha.get g;have g3:(a.2.1,a.2.2)=fT K.aS own pre:=g3;have hprl:pre.length≤f.Leaks.length:=by
    have:=congrArg List.length hgp;simp only[List.length_append,List.length_cons]at this;omega
   refine .skip (.op k g1 (.skip (.nL (fun a2=>dA own (fun p s=>s=p.foldl (bW K.aS k) (fT K.aS own pre)) (qZ a2)∧Pre own (Be a2)) (fun a2=>own.length - (qZ a2).1.toNat) (fun e=>CX e=own.foldl (bW K.aS k) (fT K.aS own pre)∧Pre own (CY e)) rfl ⟨dA.start g3,hbase⟩ (by show own.length - 0<n;omega) (fun a2 ha2=>?_) (fun e he=>?_))))
   ·cases a2 with
    |inl b=>
     refine .skip (.br (fun c=>?_) fun c=>.skip (.done rfl ⟨ha2.1.fin c,ha2.2⟩))
     obtain⟨x,p,c1,c2,c3,⟨ci,cpost,hcp⟩,c5⟩:=ha2.1.get c;have ci:b.1=((p.length:Nat):Int):=ci;have hpl:p.length<own.length:=by
      have:=congrArg List.length hcp;simp only[List.length_append,List.length_cons]at this;omega
     have hxi:own[b.1.toNat]? =some x:=by
      have c1:ku own b.1=some x:=c1;rw[ci,cR]at c1;rw[ci];exact c1
     have hx1:=ha2.2.get hxi;have c3:(b.2.1,b.2.2)=p.foldl (bW K.aS k) (fT K.aS own pre):=c3;have hbound:(b.2.1).length<1000000000:=by
      have b1:=(nr K.aS k p (fT K.aS own pre)).1;have b2:=(rU K.aS own pre (own,lE own)).1;have b3:=bound pre.length p.length hprl (by omega)
      rw[← c3]at b1;have b2:(fT K.aS own pre).1.length≤own.length+pre.length*own.length:=b2;simp only at b1;omega
     have hroom1:roomy ((b.2.1).length+1) 56=true:=by
      simp only[roomy,Bool.and_eq_true,decide_eq_true_eq];omega
     have step:∀s',s'=bW K.aS k (b.2.1,b.2.2) x→s'=(p++[x]).foldl (bW K.aS k) (fT K.aS own pre):=fun s' e=>by
      rw[e,c3,List.foldl_append];rfl
     have hi0:0≤b.1∧b.1<((own.length:Nat):Int):=by omega
     have keep:bW K.aS k (b.2.1,b.2.2) x=(b.2.1,b.2.2)→_:=fun e=>(⟨⟨(c5 hol9 _ (step _ e.symm)).1,ha2.2⟩,(c5 hol9 _ (step _ e.symm)).2⟩:pH (fun a2=>dA own (fun p s=>s=p.foldl (bW K.aS k) (fT K.aS own pre)) (qZ a2)∧Pre own (Be a2)) (fun a2=>own.length - (qZ a2).1.toNat) (fun e=>CX e=own.foldl (bW K.aS k) (fT K.aS own pre)∧Pre own (CY e)) (.inl b) (.inl (.inl (Go.IntKind.wrap .i64 (b.1+1),b.2.1,b.2.2))))
     refine .skip (.op () (if_pos hi0) (.op x hx1 (.skip (.br (fun d1=>.skip (.done rfl (keep (by unfold bW;rw[if_pos d1])))) fun d1=>.skip (.op () rfl (.skip (.br (fun d2=>.skip (.done rfl (keep ?_))) fun d2=>.skip (.call _ (H.aS k g2 x.af) fun(r68:Bool) h68=>.skip (.br (fun d3=>.skip (.done rfl (keep ?_))) fun d3=>.skip (.op () rfl (.skip ?_)))))))))))
     ·have d2:(getM bx ⟨k.To,x.af⟩ b.2.2).getD false=true:=d2;unfold bW;rw[if_neg (by rw[d1];simp),if_pos d2]
     ·have d2:(getM bx ⟨k.To,x.af⟩ b.2.2).getD false=false:=d2;unfold bW;rw[if_neg (by rw[d1];simp),if_neg (by rw[d2];simp),if_pos (by rw[← h68];exact d3)]
     have d2:(getM bx ⟨k.To,x.af⟩ b.2.2).getD false=false:=d2;have e:bW K.aS k (b.2.1,b.2.2) x=(b.2.1++[jW k x],bP bx ⟨k.To,x.af⟩ true b.2.2):=by
      unfold bW;rw[if_neg (by rw[d1];simp),if_neg (by rw[d2];simp),if_neg (by rw[← h68,d3];simp)]
     have hok:GK.ok {l:=b.2.1,m:=[jW k x],enc:=bB,n:=8,bytes:=56,b:=7,ak:=0,len:=List.length b.2.1}=true:=by
      show(decide ((b.2.1).length=(b.2.1).length)&&roomy ((b.2.1).length+1) 56)=true;rw[hroom1];simp
     refine .grow hok (.skip (.done rfl ⟨⟨(c5 hol9 _ (step _ e.symm)).1,ha2.2.snoc _⟩,(c5 hol9 _ (step _ e.symm)).2⟩)) (.skip (.done rfl ⟨⟨(c5 hol9 _ (step _ e.symm)).1,ha2.2⟩,(c5 hol9 _ (step _ e.symm)).2⟩))
    |inr b=>
     refine .skip (.br (fun c=>?_) fun c=>.skip (.done rfl ⟨ha2.1.fin c,ha2.2⟩))
     obtain⟨x,p,c1,c2,c3,⟨ci,cpost,hcp⟩,c5⟩:=ha2.1.get c;have ci:b.1=((p.length:Nat):Int):=ci;have hpl:p.length<own.length:=by
      have:=congrArg List.length hcp;simp only[List.length_append,List.length_cons]at this;omega
     have hxi:own[b.1.toNat]? =some x:=by
      have c1:ku own b.1=some x:=c1;rw[ci,cR]at c1;rw[ci];exact c1
     have hx1:=ha2.2.get hxi;have c3:(b.2.2.1,b.2.2.2)=p.foldl (bW K.aS k) (fT K.aS own pre):=c3;have hbound:(b.2.2.1).length<1000000000:=by
      have b1:=(nr K.aS k p (fT K.aS own pre)).1;have b2:=(rU K.aS own pre (own,lE own)).1;have b3:=bound pre.length p.length hprl (by omega)
      rw[← c3]at b1;have b2:(fT K.aS own pre).1.length≤own.length+pre.length*own.length:=b2;simp only at b1;omega
     have hroom1:roomy ((b.2.2.1).length+1) 56=true:=by
      simp only[roomy,Bool.and_eq_true,decide_eq_true_eq];omega
     have step:∀s',s'=bW K.aS k (b.2.2.1,b.2.2.2) x→s'=(p++[x]).foldl (bW K.aS k) (fT K.aS own pre):=fun s' e=>by
      rw[e,c3,List.foldl_append];rfl
     have hi0:0≤b.1∧b.1<((own.length:Nat):Int):=by omega
     have keep:bW K.aS k (b.2.2.1,b.2.2.2) x=(b.2.2.1,b.2.2.2)→_:=fun e=>(⟨⟨(c5 hol9 _ (step _ e.symm)).1,ha2.2⟩,(c5 hol9 _ (step _ e.symm)).2⟩:pH (fun a2=>dA own (fun p s=>s=p.foldl (bW K.aS k) (fT K.aS own pre)) (qZ a2)∧Pre own (Be a2)) (fun a2=>own.length - (qZ a2).1.toNat) (fun e=>CX e=own.foldl (bW K.aS k) (fT K.aS own pre)∧Pre own (CY e)) (.inr b) (.inl (.inr (Go.IntKind.wrap .i64 (b.1+1),b.2.1,b.2.2.1,b.2.2.2))))
     refine .skip (.op () (if_pos hi0) (.op x hx1 (.skip (.br (fun d1=>.skip (.done rfl (keep (by unfold bW;rw[if_pos d1])))) fun d1=>.skip (.op () rfl (.skip (.br (fun d2=>.skip (.done rfl (keep ?_))) fun d2=>.skip (.call _ (H.aS k g2 x.af) fun(r68:Bool) h68=>.skip (.br (fun d3=>.skip (.done rfl (keep ?_))) fun d3=>.skip (.op () rfl (.skip ?_)))))))))))
     ·have d2:(getM bx ⟨k.To,x.af⟩ b.2.2.2).getD false=true:=d2;unfold bW;rw[if_neg (by rw[d1];simp),if_pos d2]
     ·have d2:(getM bx ⟨k.To,x.af⟩ b.2.2.2).getD false=false:=d2;unfold bW;rw[if_neg (by rw[d1];simp),if_neg (by rw[d2];simp),if_pos (by rw[← h68];exact d3)]
     have d2:(getM bx ⟨k.To,x.af⟩ b.2.2.2).getD false=false:=d2;have e:bW K.aS k (b.2.2.1,b.2.2.2) x=(b.2.2.1++[jW k x],bP bx ⟨k.To,x.af⟩ true b.2.2.2):=by
      unfold bW;rw[if_neg (by rw[d1];simp),if_neg (by rw[d2];simp),if_neg (by rw[← h68,d3];simp)]
     refine .op () (if_pos ⟨rfl,hroom1⟩) (.skip (.done rfl ⟨⟨(c5 hol9 _ (step _ e.symm)).1,ha2.2⟩,(c5 hol9 _ (step _ e.symm)).2⟩))
   ·have hP:∀s',s'=own.foldl (bW K.aS k) (fT K.aS own pre)→s'=fT K.aS own (pre++[k]):=fun s' e=>by rw[e];unfold fT;rw[List.foldl_append];rfl
    cases e with
    |inl t=>exact .skip (.done rfl ⟨⟨(g5 hkl _ (hP _ he.1)).1,he.2⟩,(g5 hkl _ (hP _ he.1)).2⟩)
    |inr t=>exact .skip (.done rfl ⟨⟨(g5 hkl _ (hP _ he.1)).1,he.2⟩,(g5 hkl _ (hP _ he.1)).2⟩)
  |inr a=>
   obtain⟨ha,hbase⟩:=ha;refine .skip (.br (fun g=>?_) fun g=>.skip (.done rfl (congrArg Prod.fst (ha.fin g))))
   obtain⟨k,pre,g1,g2,g3,⟨gi,gpost,hgp⟩,g5⟩:=ha.get g;have g3:(a.2.2.1,a.2.2.2)=fT K.aS own pre:=g3;have hprl:pre.length≤f.Leaks.length:=by
    have:=congrArg List.length hgp;simp only[List.length_append,List.length_cons]at this;omega
   refine .skip (.op k g1 (.skip (.nL (fun a2=>dA own (fun p s=>s=p.foldl (bW K.aS k) (fT K.aS own pre)) (qZ a2)∧Pre own (Be a2)) (fun a2=>own.length - (qZ a2).1.toNat) (fun e=>CX e=own.foldl (bW K.aS k) (fT K.aS own pre)∧Pre own (CY e)) rfl ⟨dA.start g3,hbase⟩ (by show own.length - 0<n;omega) (fun a2 ha2=>?_) (fun e he=>?_))))
   ·cases a2 with
    |inl b=>
     refine .skip (.br (fun c=>?_) fun c=>.skip (.done rfl ⟨ha2.1.fin c,ha2.2⟩))
     obtain⟨x,p,c1,c2,c3,⟨ci,cpost,hcp⟩,c5⟩:=ha2.1.get c;have ci:b.1=((p.length:Nat):Int):=ci;have hpl:p.length<own.length:=by
      have:=congrArg List.length hcp;simp only[List.length_append,List.length_cons]at this;omega
     have hxi:own[b.1.toNat]? =some x:=by
      have c1:ku own b.1=some x:=c1;rw[ci,cR]at c1;rw[ci];exact c1
     have hx1:=ha2.2.get hxi;have c3:(b.2.1,b.2.2)=p.foldl (bW K.aS k) (fT K.aS own pre):=c3;have hbound:(b.2.1).length<1000000000:=by
      have b1:=(nr K.aS k p (fT K.aS own pre)).1;have b2:=(rU K.aS own pre (own,lE own)).1;have b3:=bound pre.length p.length hprl (by omega)
      rw[← c3]at b1;have b2:(fT K.aS own pre).1.length≤own.length+pre.length*own.length:=b2;simp only at b1;omega
     have hroom1:roomy ((b.2.1).length+1) 56=true:=by
      simp only[roomy,Bool.and_eq_true,decide_eq_true_eq];omega
     have step:∀s',s'=bW K.aS k (b.2.1,b.2.2) x→s'=(p++[x]).foldl (bW K.aS k) (fT K.aS own pre):=fun s' e=>by
      rw[e,c3,List.foldl_append];rfl
     have hi0:0≤b.1∧b.1<((own.length:Nat):Int):=by omega
     have keep:bW K.aS k (b.2.1,b.2.2) x=(b.2.1,b.2.2)→_:=fun e=>(⟨⟨(c5 hol9 _ (step _ e.symm)).1,ha2.2⟩,(c5 hol9 _ (step _ e.symm)).2⟩:pH (fun a2=>dA own (fun p s=>s=p.foldl (bW K.aS k) (fT K.aS own pre)) (qZ a2)∧Pre own (Be a2)) (fun a2=>own.length - (qZ a2).1.toNat) (fun e=>CX e=own.foldl (bW K.aS k) (fT K.aS own pre)∧Pre own (CY e)) (.inl b) (.inl (.inl (Go.IntKind.wrap .i64 (b.1+1),b.2.1,b.2.2))))
     refine .skip (.op () (if_pos hi0) (.op x hx1 (.skip (.br (fun d1=>.skip (.done rfl (keep (by unfold bW;rw[if_pos d1])))) fun d1=>.skip (.op () rfl (.skip (.br (fun d2=>.skip (.done rfl (keep ?_))) fun d2=>.skip (.call _ (H.aS k g2 x.af) fun(r68:Bool) h68=>.skip (.br (fun d3=>.skip (.done rfl (keep ?_))) fun d3=>.skip (.op () rfl (.skip ?_)))))))))))
     ·have d2:(getM bx ⟨k.To,x.af⟩ b.2.2).getD false=true:=d2;unfold bW;rw[if_neg (by rw[d1];simp),if_pos d2]
     ·have d2:(getM bx ⟨k.To,x.af⟩ b.2.2).getD false=false:=d2;unfold bW;rw[if_neg (by rw[d1];simp),if_neg (by rw[d2];simp),if_pos (by rw[← h68];exact d3)]
     have d2:(getM bx ⟨k.To,x.af⟩ b.2.2).getD false=false:=d2;have e:bW K.aS k (b.2.1,b.2.2) x=(b.2.1++[jW k x],bP bx ⟨k.To,x.af⟩ true b.2.2):=by
      unfold bW;rw[if_neg (by rw[d1];simp),if_neg (by rw[d2];simp),if_neg (by rw[← h68,d3];simp)]
     have hok:GK.ok {l:=b.2.1,m:=[jW k x],enc:=bB,n:=8,bytes:=56,b:=7,ak:=0,len:=List.length b.2.1}=true:=by
      show(decide ((b.2.1).length=(b.2.1).length)&&roomy ((b.2.1).length+1) 56)=true;rw[hroom1];simp
     refine .grow hok (.skip (.done rfl ⟨⟨(c5 hol9 _ (step _ e.symm)).1,ha2.2.snoc _⟩,(c5 hol9 _ (step _ e.symm)).2⟩)) (.skip (.done rfl ⟨⟨(c5 hol9 _ (step _ e.symm)).1,ha2.2⟩,(c5 hol9 _ (step _ e.symm)).2⟩))
    |inr b=>
     refine .skip (.br (fun c=>?_) fun c=>.skip (.done rfl ⟨ha2.1.fin c,ha2.2⟩))
     obtain⟨x,p,c1,c2,c3,⟨ci,cpost,hcp⟩,c5⟩:=ha2.1.get c;have ci:b.1=((p.length:Nat):Int):=ci;have hpl:p.length<own.length:=by
      have:=congrArg List.length hcp;simp only[List.length_append,List.length_cons]at this;omega
     have hxi:own[b.1.toNat]? =some x:=by
      have c1:ku own b.1=some x:=c1;rw[ci,cR]at c1;rw[ci];exact c1
     have hx1:=ha2.2.get hxi;have c3:(b.2.2.1,b.2.2.2)=p.foldl (bW K.aS k) (fT K.aS own pre):=c3;have hbound:(b.2.2.1).length<1000000000:=by
      have b1:=(nr K.aS k p (fT K.aS own pre)).1;have b2:=(rU K.aS own pre (own,lE own)).1;have b3:=bound pre.length p.length hprl (by omega)
      rw[← c3]at b1;have b2:(fT K.aS own pre).1.length≤own.length+pre.length*own.length:=b2;simp only at b1;omega
     have hroom1:roomy ((b.2.2.1).length+1) 56=true:=by
      simp only[roomy,Bool.and_eq_true,decide_eq_true_eq];omega
     have step:∀s',s'=bW K.aS k (b.2.2.1,b.2.2.2) x→s'=(p++[x]).foldl (bW K.aS k) (fT K.aS own pre):=fun s' e=>by
      rw[e,c3,List.foldl_append];rfl
     have hi0:0≤b.1∧b.1<((own.length:Nat):Int):=by omega
     have keep:bW K.aS k (b.2.2.1,b.2.2.2) x=(b.2.2.1,b.2.2.2)→_:=fun e=>(⟨⟨(c5 hol9 _ (step _ e.symm)).1,ha2.2⟩,(c5 hol9 _ (step _ e.symm)).2⟩:pH (fun a2=>dA own (fun p s=>s=p.foldl (bW K.aS k) (fT K.aS own pre)) (qZ a2)∧Pre own (Be a2)) (fun a2=>own.length - (qZ a2).1.toNat) (fun e=>CX e=own.foldl (bW K.aS k) (fT K.aS own pre)∧Pre own (CY e)) (.inr b) (.inl (.inr (Go.IntKind.wrap .i64 (b.1+1),b.2.1,b.2.2.1,b.2.2.2))))
     refine .skip (.op () (if_pos hi0) (.op x hx1 (.skip (.br (fun d1=>.skip (.done rfl (keep (by unfold bW;rw[if_pos d1])))) fun d1=>.skip (.op () rfl (.skip (.br (fun d2=>.skip (.done rfl (keep ?_))) fun d2=>.skip (.call _ (H.aS k g2 x.af) fun(r68:Bool) h68=>.skip (.br (fun d3=>.skip (.done rfl (keep ?_))) fun d3=>.skip (.op () rfl (.skip ?_)))))))))))
     ·have d2:(getM bx ⟨k.To,x.af⟩ b.2.2.2).getD false=true:=d2;unfold bW;rw[if_neg (by rw[d1];simp),if_pos d2]
     ·have d2:(getM bx ⟨k.To,x.af⟩ b.2.2.2).getD false=false:=d2;unfold bW;rw[if_neg (by rw[d1];simp),if_neg (by rw[d2];simp),if_pos (by rw[← h68];exact d3)]
     have d2:(getM bx ⟨k.To,x.af⟩ b.2.2.2).getD false=false:=d2;have e:bW K.aS k (b.2.2.1,b.2.2.2) x=(b.2.2.1++[jW k x],bP bx ⟨k.To,x.af⟩ true b.2.2.2):=by
      unfold bW;rw[if_neg (by rw[d1];simp),if_neg (by rw[d2];simp),if_neg (by rw[← h68,d3];simp)]
     refine .op () (if_pos ⟨rfl,hroom1⟩) (.skip (.done rfl ⟨⟨(c5 hol9 _ (step _ e.symm)).1,ha2.2⟩,(c5 hol9 _ (step _ e.symm)).2⟩))
   ·have hP:∀s',s'=own.foldl (bW K.aS k) (fT K.aS own pre)→s'=fT K.aS own (pre++[k]):=fun s' e=>by rw[e];unfold fT;rw[List.foldl_append];rfl
    cases e with
    |inl t=>exact .skip (.done rfl ⟨⟨(g5 hkl _ (hP _ he.1)).1,he.2⟩,(g5 hkl _ (hP _ he.1)).2⟩)
    |inr t=>exact .skip (.done rfl ⟨⟨(g5 hkl _ (hP _ he.1)).1,he.2⟩,(g5 hkl _ (hP _ he.1)).2⟩)
 ·subst h80;have hll:(EX K.aS f.Leaks own).1.length<1000000000:=by
   have h1:=(rU K.aS own f.Leaks (own,lE own)).1;have h2:=bound f.Leaks.length 0 (Nat.le_refl _) (Nat.zero_le _);show(f.Leaks.foldl (fun s k=>own.foldl (bW K.aS k) s) (own,lE own)).1.length<1000000000
   simp only at h1;omega
  refine .skip (.tidy rfl (.inl (.skip (.aF _ (H.so _ hll) fun r75 h75=>.skip (.done ?_ ⟨own,hperm,h75⟩)))))
  simp only[aX,gA,Bool.and_true];subst h75;exact decide_eq_true (by rw[List.length_map];exact(H.sl _).symm)
end Go.L
end
section
namespace Go.L
open Go.AM
set_option maxRecDepth 100000
set_option linter.unusedVariables false
set_option linter.unusedSimpArgs false
theorem JJ{a b:aB}(h:ji a=ji b):kH a=kH b:=by
 unfold ji at h;simp only[List.cons.injEq,and_true]at h;obtain⟨h1,h2,h3⟩:=h;unfold kH;have:a.af=b.af:=by
  cases ha:a.af;cases hb:b.af;rw[ha,hb]at h2 h3;simp only at h2 h3;rw[h2,h3]
 rw[h1,this]
theorem GB{α β:Type}{g:α→β}:∀{l:List α},(l.map g).Nodup→∀{a b:α},a∈l→b∈l→g a=g b→a=b
 |x::l,hn,a,b,ha,hb,h=>by
  simp only[List.map_cons,List.nodup_cons]at hn;rcases List.mem_cons.1 ha with e1 |ha2<;>rcases List.mem_cons.1 hb with e2 |hb2
  ·rw[e1,e2]
  ·exact absurd (List.mem_map.2 ⟨b,hb2,by rw[← h,e1]⟩) hn.1
  ·exact absurd (List.mem_map.2 ⟨a,ha2,by rw[h,e2]⟩) hn.1
  ·exact GB hn.2 ha2 hb2 h
theorem LA{l l':List aB}(h:l.Perm l')(hn:(l.map kH).Nodup):hU l=hU l':=by
 refine List.Perm.eq_of_pairwise (le:=fun a b=>¬zL b a) (fun a b ha hb h1 h2=>?_) (jx l).2 (jx l').2 ((jx l).1.trans (h.trans (jx l').1.symm))
 have ha:=(jx l).1.mem_iff.1 ha;have hb:=h.mem_iff.2 ((jx l').1.mem_iff.1 hb);refine GB hn ha hb (JJ ?_);unfold zL s7 at h1 h2;rw[wL]at h1;exact(wK (show(ji a).length=(ji b).length from rfl)).1 (by omega)
noncomputable def Kc(n:Nat)(f:aG)(leaf:Int):jT where
 lo:=(ig.S n (f,leaf)).getD (0:Int)
 es:=fun i=>((kJ.S n i).getD ((Lr,(0:Int)):dn Int×Int)).1
 eV:=fun p ip=>(dH.S n (p,ip)).getD false
 aS:=fun p q=>(jG.S n (p,q)).getD false
 tg:=fun r=>(gE.S n r.A.dW).getD ([]:List Int)
 rt:=fun r=>(fO.S n r.A.dW).getD ((0,false):Int×Bool)
 sq:=fun r=>((dV.S n r.A.dW).getD ((false,0,false):Bool×Int×Bool)).2.1
noncomputable def mw(f:aG)(leaf:Int)(up:List Bool)(rs:List cz)(K:jT):List aB:=hU (wu K.aS f.Leaks (pN (tF f leaf up K rs)))
def IL(n:Nat)(f:aG)(leaf:Int):Prop:=At (fI.S n f) (fun(r:Int×ByteArray×Int)=>r.1≠0∨leaf<0∨f.Leaves≤leaf)
open Classical in
noncomputable def Ht(n:Nat)(x:aG×Int×List Bool×List cz):Option (List aB):=
 if Ci n x.1 x.2.1 x.2.2.1 x.2.2.2 (Kc n x.1 x.2.1) hU then some (mw x.1 x.2.1 x.2.2.1 x.2.2.2 (Kc n x.1 x.2.1))
 else if IL n x.1 x.2.1 then some []else none
theorem Og(n:Nat)(f:aG)(leaf:Int)(up:List Bool)(rs:List cz)(K:jT)(H:Ci n f leaf up rs K hU):dO n (pM f leaf up rs) (fun r=>r=mw f leaf up rs K):=
 G.dF n _ (fun r ⟨own,h1,h2⟩=>by
  have hn:=EY (FJ f leaf up K rs);have hn2:(own.map kH).Nodup:=(h1.map kH).nodup_iff.2 hn;rw[h2,IG _ _ _ hn2];exact LA (Lx _ _ h1) (JI _ _ hn2)) (Oe n f leaf up rs K hU H)
theorem MV(n:Nat)(f:aG)(leaf:Int)(up:List Bool)(rs:List cz)(H:IL n f leaf):dO n (pM f leaf up rs) (fun(r:List aB)=>r=[]):=by
 unfold pM;refine .skip (.call _ H fun r5 h5=>.skip (.br (fun h=>.skip (.done rfl rfl)) fun g0=>.skip (.br (fun h=>.skip (.done rfl rfl)) fun g1=>.skip (.br (fun h=>.skip (.done rfl rfl)) fun g2=>?_))))
 simp only[bne_eq_false_iff_eq]at g0;simp only[decide_eq_false_iff_not]at g1 g2;rcases h5 with h5 |h5 |h5
 ·exact absurd g0 h5
 ·exact absurd h5 g1
 ·exact absurd h5 g2
noncomputable def pO:aK prog:=II.all Ht fun n x r h=>by
 unfold Ht at h;split at h
 ·rename_i H;cases h;exact⟨n,G.dF n _ (fun y hy=>by rw[hy]) (Og n x.1 x.2.1 x.2.2.1 x.2.2.2 _ H)⟩
 ·split at h
  ·rename_i H;cases h;exact⟨n,G.dF n _ (fun y hy=>by rw[hy]) (MV n x.1 x.2.1 x.2.2.1 x.2.2.2 H)⟩
  ·cases h
theorem Kr(n:Nat)(f:aG)(leaf:Int)(up:List Bool)(rs:List cz)(H:Ci n f leaf up rs (Kc n f leaf) hU):At (pO.S n (f,leaf,up,rs)) (fun(r:List aB)=>r=mw f leaf up rs (Kc n f leaf)):=
 ⟨_,if_pos H,rfl⟩
end Go.L
end
