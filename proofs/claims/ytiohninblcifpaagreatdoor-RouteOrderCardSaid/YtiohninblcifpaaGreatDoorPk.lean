/- Put together out of parts: Routes' keys compared: a total order on keys. No conditions. -/
import Derived.Test.YtiohninblcifpaaGreatDoorWh
import Derived.Test.YtiohninblcifpaaGreatDoorPa
import Derived.Test.YtiohninblcifpaaGreatDoorPb
set_option linter.unusedSimpArgs false
set_option linter.unusedVariables false
set_option maxRecDepth 100000
section
namespace Go.L
open Go.AM
theorem FV(n:Nat)(a b:Int):At (qB.S n (a,b)) (fun(r:Int)=>r=cH a b):=by
 refine(?_ :cz n (qA a b) _);unfold qA;have e:∀x:Int,At (gK.S n x) (fun(r:Bool)=>r=false):=fun x=>⟨x != x,rfl,by simp⟩
 refine .skip (.call _ (e a) fun r3 h3=>.skip (.call _ (e b) fun r4 h4=>.skip (.br (fun h=>by rw[h3]at h;cases h) fun _=>.skip (.br (fun h=>by rw[h4]at h;cases h) fun _=>.skip (.br (fun h=>.skip (.done rfl ?_)) fun h=>.skip (.br (fun h2=>.skip (.done rfl ?_)) fun h2=>.skip (.done rfl ?_)))))))
 all_goals (simp only[decide_eq_true_eq,decide_eq_false_iff_not]at*;unfold cH)
 ·rw[if_pos h]
 ·rw[if_neg h,if_pos h2]
 ·rw[if_neg h,if_neg h2]
theorem QL(n:Nat)(a b:Int):At (yh.S n (a,b)) (fun(r:Int)=>r=cH a b):=by
 refine(?_ :cz n (tK a b) _);unfold tK;have e:∀x:Int,At (vF.S n x) (fun(r:Bool)=>r=false):=fun x=>⟨x != x,rfl,by simp⟩
 refine .skip (.call _ (e a) fun r3 h3=>.skip (.call _ (e b) fun r4 h4=>.skip (.br (fun h=>by rw[h3]at h;cases h) fun _=>.skip (.br (fun h=>by rw[h4]at h;cases h) fun _=>.skip (.br (fun h=>.skip (.done rfl ?_)) fun h=>.skip (.br (fun h2=>.skip (.done rfl ?_)) fun h2=>.skip (.done rfl ?_)))))))
 all_goals (simp only[decide_eq_true_eq,decide_eq_false_iff_not]at*;unfold cH)
 ·rw[if_pos h]
 ·rw[if_neg h,if_pos h2]
 ·rw[if_neg h,if_neg h2]
theorem Mp(n:Nat)(a b:Int):At (vE.S n (a,b)) (fun(r:Int)=>r=cH a b):=by
 refine(?_ :cz n (qz a b) _);unfold qz;have e:∀x:Int,At (sg.S n x) (fun(r:Bool)=>r=false):=fun x=>⟨x != x,rfl,by simp⟩
 refine .skip (.call _ (e a) fun r3 h3=>.skip (.call _ (e b) fun r4 h4=>.skip (.br (fun h=>by rw[h3]at h;cases h) fun _=>.skip (.br (fun h=>by rw[h4]at h;cases h) fun _=>.skip (.br (fun h=>.skip (.done rfl ?_)) fun h=>.skip (.br (fun h2=>.skip (.done rfl ?_)) fun h2=>.skip (.done rfl ?_)))))))
 all_goals (simp only[decide_eq_true_eq,decide_eq_false_iff_not]at*;unfold cH)
 ·rw[if_pos h]
 ·rw[if_neg h,if_pos h2]
 ·rw[if_neg h,if_neg h2]
theorem oW(n:Nat)(a b:Int):At (eG.S n (a,b)) (fun(r:Int)=>r=cH a b):=by
 refine(?_ :cz n (sj a b) _);unfold sj;have e:∀x:Int,At (uD.S n x) (fun(r:Bool)=>r=false):=fun x=>⟨x != x,rfl,by simp⟩
 refine .skip (.call _ (e a) fun r3 h3=>.skip (.call _ (e b) fun r4 h4=>.skip (.br (fun h=>by rw[h3]at h;cases h) fun _=>.skip (.br (fun h=>by rw[h4]at h;cases h) fun _=>.skip (.br (fun h=>.skip (.done rfl ?_)) fun h=>.skip (.br (fun h2=>.skip (.done rfl ?_)) fun h2=>.skip (.done rfl ?_)))))))
 all_goals (simp only[decide_eq_true_eq,decide_eq_false_iff_not]at*;unfold cH)
 ·rw[if_pos h]
 ·rw[if_neg h,if_pos h2]
 ·rw[if_neg h,if_neg h2]
def qC(x:cA Int):List Int:=[x.a0,x.a1,x.a2,x.a3,x.a4,x.a5,x.a6,x.a7,x.a8,x.a9]
theorem RG(n:Nat)(x y:cA Int):At (yg.S n (x,y)) (fun(r:Int)=>r=dX (qC x) (qC y)):=by
 refine(?_ :cz n (tJ x y) _);unfold tJ;refine .skip (.call (fun r=>r=(x.a0,x.a1,x.a2,x.a3,x.a4,x.a5,x.a6,x.a7,x.a8,x.a9)) ⟨_,rfl,rfl⟩ fun r3 h3=>?_)
 subst h3;refine .inl (.skip (.gH (.skip ?_)));refine .inl (.skip (.call _ (oW n _ _) fun q0 hq0=>.skip (.br (fun h=>?_) fun h0=>?_)))
 ·refine .skip (.tidy rfl (.skip (.tidy rfl (.inl (.done rfl ?_)))));subst hq0;have hne:cH x.a0 y.a0≠0:=by simpa using h
  simp only[qC,dX,if_true,if_neg hne]
 have e0:cH x.a0 y.a0=0:=by subst hq0;simpa using h0
 refine .skip (.tidy rfl (.skip ?_));refine .inl (.skip (.call _ (oW n _ _) fun q1 hq1=>.skip (.br (fun h=>?_) fun h1=>?_)))
 ·refine .skip (.tidy rfl (.skip (.tidy rfl (.inl (.done rfl ?_)))));subst hq1;have hne:cH x.a1 y.a1≠0:=by simpa using h
  simp only[qC,dX,e0,if_true,if_neg hne]
 have e1:cH x.a1 y.a1=0:=by subst hq1;simpa using h1
 refine .skip (.tidy rfl (.skip ?_));refine .inl (.skip (.call _ (oW n _ _) fun q2 hq2=>.skip (.br (fun h=>?_) fun h2=>?_)))
 ·refine .skip (.tidy rfl (.skip (.tidy rfl (.inl (.done rfl ?_)))));subst hq2;have hne:cH x.a2 y.a2≠0:=by simpa using h
  simp only[qC,dX,e0,e1,if_true,if_neg hne]
 have e2:cH x.a2 y.a2=0:=by subst hq2;simpa using h2
 refine .skip (.tidy rfl (.skip ?_));refine .inl (.skip (.call _ (oW n _ _) fun q3 hq3=>.skip (.br (fun h=>?_) fun h3=>?_)))
 ·refine .skip (.tidy rfl (.skip (.tidy rfl (.inl (.done rfl ?_)))));subst hq3;have hne:cH x.a3 y.a3≠0:=by simpa using h
  simp only[qC,dX,e0,e1,e2,if_true,if_neg hne]
 have e3:cH x.a3 y.a3=0:=by subst hq3;simpa using h3
 refine .skip (.tidy rfl (.skip ?_));refine .inl (.skip (.call _ (oW n _ _) fun q4 hq4=>.skip (.br (fun h=>?_) fun h4=>?_)))
 ·refine .skip (.tidy rfl (.skip (.tidy rfl (.inl (.done rfl ?_)))));subst hq4;have hne:cH x.a4 y.a4≠0:=by simpa using h
  simp only[qC,dX,e0,e1,e2,e3,if_true,if_neg hne]
 have e4:cH x.a4 y.a4=0:=by subst hq4;simpa using h4
 refine .skip (.tidy rfl (.skip ?_));refine .inl (.skip (.call _ (oW n _ _) fun q5 hq5=>.skip (.br (fun h=>?_) fun h5=>?_)))
 ·refine .skip (.tidy rfl (.skip (.tidy rfl (.inl (.done rfl ?_)))));subst hq5;have hne:cH x.a5 y.a5≠0:=by simpa using h
  simp only[qC,dX,e0,e1,e2,e3,e4,if_true,if_neg hne]
 have e5:cH x.a5 y.a5=0:=by subst hq5;simpa using h5
 refine .skip (.tidy rfl (.skip ?_));refine .inl (.skip (.call _ (oW n _ _) fun q6 hq6=>.skip (.br (fun h=>?_) fun h6=>?_)))
 ·refine .skip (.tidy rfl (.skip (.tidy rfl (.inl (.done rfl ?_)))));subst hq6;have hne:cH x.a6 y.a6≠0:=by simpa using h
  simp only[qC,dX,e0,e1,e2,e3,e4,e5,if_true,if_neg hne]
 have e6:cH x.a6 y.a6=0:=by subst hq6;simpa using h6
 refine .skip (.tidy rfl (.skip ?_));refine .inl (.skip (.call _ (oW n _ _) fun q7 hq7=>.skip (.br (fun h=>?_) fun h7=>?_)))
 ·refine .skip (.tidy rfl (.skip (.tidy rfl (.inl (.done rfl ?_)))));subst hq7;have hne:cH x.a7 y.a7≠0:=by simpa using h
  simp only[qC,dX,e0,e1,e2,e3,e4,e5,e6,if_true,if_neg hne]
 have e7:cH x.a7 y.a7=0:=by subst hq7;simpa using h7
 refine .skip (.tidy rfl (.skip ?_));refine .inl (.skip (.call _ (oW n _ _) fun q8 hq8=>.skip (.br (fun h=>?_) fun h8=>?_)))
 ·refine .skip (.tidy rfl (.skip (.tidy rfl (.inl (.done rfl ?_)))));subst hq8;have hne:cH x.a8 y.a8≠0:=by simpa using h
  simp only[qC,dX,e0,e1,e2,e3,e4,e5,e6,e7,if_true,if_neg hne]
 have e8:cH x.a8 y.a8=0:=by subst hq8;simpa using h8
 refine .skip (.tidy rfl (.skip ?_));refine .inl (.skip (.call _ (oW n _ _) fun q9 hq9=>.skip (.br (fun h=>?_) fun h9=>?_)))
 ·refine .skip (.tidy rfl (.skip (.tidy rfl (.inl (.done rfl ?_)))));subst hq9;have hne:cH x.a9 y.a9≠0:=by simpa using h
  simp only[qC,dX,e0,e1,e2,e3,e4,e5,e6,e7,e8,if_true,if_neg hne]
 have e9:cH x.a9 y.a9=0:=by subst hq9;simpa using h9
 refine .skip (.tidy rfl (.skip (.tidy rfl (.inl (.skip (.done rfl ?_))))));simp only[qC,dX,e0,e1,e2,e3,e4,e5,e6,e7,e8,e9,if_true]
def Mq:cA Int:=⟨0,0,0,0,0,0,0,0,0,0⟩
def wJ(x:eE):eE:=
 if x.Kind=5 then Go.L.eE.mk x.Kind x.RD Mq x.Tag x.bO x.IP x.dG x.ah 0 0 0
 else if x.Kind=2 then Go.L.eE.mk x.Kind x.RD Mq x.Tag x.bO x.IP x.dG x.ah x.aS 0 0
 else Go.L.eE.mk x.Kind x.RD x.aA x.Tag x.bO x.IP x.dG x.ah x.aS 0 0
theorem NS(n:Nat)(x:eE):At (BV.S n x) (fun(r:eE)=>r=wJ x):=by
 refine(?_ :cz n (BU x) _);unfold BU wJ;refine .skip (.br (fun h=>.skip (.done rfl ?_)) fun h=>.skip (.br (fun h2=>.skip (.done rfl ?_)) fun h2=>.skip (.done rfl ?_)))
 all_goals (simp only[beq_iff_eq,beq_eq_false_iff_ne]at*)
 ·rw[if_pos h];rfl
 ·rw[if_neg h,if_pos h2];rfl
 ·rw[if_neg h,if_neg h2]
theorem Po(n:Nat)(x y:Bool):At (C3.S n (x,y)) (fun(r:Int)=>r=cH (C0 x) (C0 y)):=by cases x<;>cases y<;>exact⟨_,rfl,rfl⟩
def qD(k:eE):List Int:=[k.Kind,k.RD]++(qC k.aA++[k.Tag,k.bO,C0 k.dG,k.IP,k.ah.IP,k.ah.Len,k.aS])
def nh(x y:eE):Int:=dX (qD (wJ x)) (qD (wJ y))
theorem xl:∀{a a':List Int} (b b':List Int),a.length=a'.length→dX (a++b) (a'++b')=if dX a a'=0 then dX b b' else dX a a'
 | [],[],b,b',_=>by simp[dX]
 |x::a,y::a',b,b',h=>by
  simp only[List.cons_append,dX,xl b b' (Nat.succ.inj h)];split
  ·rfl
  ·rfl
theorem QM(k k':eE):dX (qD k) (qD k')=qy [cH k.Kind k'.Kind,cH k.RD k'.RD,dX (qC k.aA) (qC k'.aA),cH k.Tag k'.Tag,cH k.bO k'.bO,cH (C0 k.dG) (C0 k'.dG),cH k.IP k'.IP,cH k.ah.IP k'.ah.IP,cH k.ah.Len k'.ah.Len,cH k.aS k'.aS]:=by
 unfold qD;rw[xl (a:=[k.Kind,k.RD]) (a':=[k'.Kind,k'.RD]) _ _ rfl,xl (a:=qC k.aA) (a':=qC k'.aA) _ _ rfl];simp only[qy,dX];by_cases h0:cH k.Kind k'.Kind=0
 ·by_cases h1:cH k.RD k'.RD=0
  ·simp[h0,h1]
  ·simp[h0,h1]
 ·simp[h0]
theorem QN(n:Nat)(hn:11≤n)(x y:eE):At (Bc.S n (x,y)) (fun(r:Int)=>r=nh x y):=by
 refine(?_ :cz n (wI x y) _);unfold wI;refine .skip (.call _ (NS n x) fun r3 h3=>.skip (.call _ (NS n y) fun r4 h4=>?_))
 refine .skip (.call _ (wH n _ _) fun q0 e0=>.skip (.call _ (Mp n _ _) fun q1 e1=>.skip (.call _ (RG n _ _) fun q2 e2=>.skip (.call _ (FV n _ _) fun q3 e3=>.skip (.call _ (QL n _ _) fun q4 e4=>.skip (.call _ (Po n _ _) fun q5 e5=>?_))))))
 refine .skip (.call _ (C1 n _ _) fun q6 e6=>.skip (.call _ (C1 n _ _) fun q7 e7=>.skip (.call _ (wH n _ _) fun q8 e8=>.skip (.call _ (C1 n _ _) fun q9 e9=>.skip (.call _ (Iy n _ (by show 10<n;omega) (by show 10<100000;omega)) fun r hr=>.skip (.done rfl ?_))))))
 subst h3 h4 e0 e1 e2 e3 e4 e5 e6 e7 e8 e9;refine Eq.trans hr ?_;rw[nh,QM]
theorem HC(x y:eE):nh x y=0↔qD (wJ x)=qD (wJ y):=l7 rfl
theorem NT(x y:eE):nh y x= - nh x y:=nA _ _
end Go.L
end
section
namespace Go.L
open Go.AM
def jV(r:cT):List Int:=[r.level,r.zf,-r.seq,r.bare,r.next]++qD (wJ r.n)
def o7(r s:cT):Bool:=decide (dX (jV r) (jV s)<0)
theorem NX(a b:Int):cH (-a) (-b)=cH b a:=by
 unfold cH
 repeat' split
 all_goals omega
theorem QO(r s:cT):dX (jV r) (jV s)=qy [cH r.level s.level,cH r.zf s.zf,cH s.seq r.seq,cH r.bare s.bare,cH r.next s.next,nh r.n s.n]:=by
 unfold jV nh;rw[xl (a:=[r.level,r.zf,-r.seq,r.bare,r.next]) (a':=[s.level,s.zf,-s.seq,s.bare,s.next]) _ _ rfl];generalize dX (qD (wJ r.n)) (qD (wJ s.n))=e;simp only[qy,dX,NX];by_cases h0:cH r.level s.level=0
 ·by_cases h1:cH r.zf s.zf=0
  ·by_cases h2:cH s.seq r.seq=0
   ·by_cases h3:cH r.bare s.bare=0
    ·by_cases h4:cH r.next s.next=0
     ·simp only[h0,h1,h2,h3,h4,if_true];split<;>omega
     ·simp[h0,h1,h2,h3,h4]
    ·simp[h0,h1,h2,h3]
   ·simp[h0,h1,h2]
  ·simp[h0,h1]
 ·simp[h0]
theorem QS(n:Nat)(hn:11≤n)(r s:cT):At (yl.S n (r,s)) (fun(b:Bool)=>b=o7 r s):=by
 refine(?_ :cz n (tO r s) _);unfold tO;refine .skip (.call _ (wH n _ _) fun q0 e0=>.skip (.call _ (wH n _ _) fun q1 e1=>.skip (.call _ (FV n _ _) fun q2 e2=>.skip (.call _ (wH n _ _) fun q3 e3=>.skip (.call _ (C1 n _ _) fun q4 e4=>.skip (.call _ (QN n hn _ _) fun q5 e5=>?_))))))
 refine .skip (.call _ (Iy n _ (by show 6<n;omega) (by show 6<100000;omega)) fun(q:Int) hq=>.skip (.done rfl ?_))
 subst e0 e1 e2 e3 e4 e5;show decide (q<0)=o7 r s;unfold o7;rw[QO];have:q=_:=hq;rw[this]
theorem vI(r:cT):o7 r r=false:=by
 unfold o7;rw[(l7 rfl).2 rfl];rfl
theorem NY{r s t:cT}(h1:o7 r s=true)(h2:o7 s t=true):o7 r t=true:=by
 unfold o7 at*;simp only[decide_eq_true_eq]at*;exact s6 h1 h2
theorem QT{r s:cT}(h1:o7 r s=false)(h2:o7 s r=false):jV r=jV s:=by
 unfold o7 at*;simp only[decide_eq_false_iff_not]at h1 h2;refine(l7 (show(jV r).length=(jV s).length from rfl)).1 ?_;rw[nA]at h2;omega
theorem xX(a b:aa):bw a b=true↔a=b:=by
 unfold bw;simp only[Bool.and_eq_true,beq_iff_eq,and_true];constructor
 ·rintro⟨h1,h2,h3⟩;obtain⟨a1,⟨a2,a3⟩⟩:=a;obtain⟨b1,⟨b2,b3⟩⟩:=b;simp only at h1 h2 h3;subst h1;subst h2;subst h3;rfl
 ·rintro rfl;exact⟨rfl,rfl,rfl⟩
def o8(x:ai):aa:=⟨x.aF.au,x.aF.ah⟩
def eV(hm:List (aa×ai))(x:ai):List (aa×ai):=
 match getM bw (o8 x) hm with
 |none=>bL bw (o8 x) x hm
 |some y=>if o7 x.bX y.bX then bL bw (o8 x) x hm else hm
theorem vJ(n:Nat)(hn:11≤n)(f:aG)(own:Int)(k:Nat)(cr:List Bool)(us:List (cA Int×List Int))(dm tn:List (Int×Int))(sb:List (aa×Bool))(hm:List (aa×ai))(x:ai):
 At (eU.c.S n (f,own,k,cr,us,dm,tn,sb,hm,x)) (fun r=>r=eV hm x):=by
 refine(?_ :cz n (rA f own k cr us dm tn sb hm x) _);unfold rA;refine .skip (.op () rfl (.skip ?_));cases hf:bh bw (Go.L.aa.mk x.aF.au x.aF.ah) hm 0 with
 |none=>
  have hp:eV hm x=bL bw (o8 x) x hm:=by unfold eV getM o8;rw[hf];rfl
  refine .br (fun h=>.skip (.op () rfl (.tidy rfl (.inl (.done rfl hp.symm))))) fun h=>?_
  simp at h
 |some y=>
  have hp:eV hm x=if o7 x.bX y.2.bX then bL bw (o8 x) x hm else hm:=by unfold eV getM o8;rw[hf];rfl
  refine .br (fun h=>?_) fun h=>.skip (.call _ (QS n hn _ _) fun b hb=>.skip (.br (fun h2=>.skip (.op () rfl (.tidy rfl (.inl (.done rfl ?_))))) fun h2=>.skip (.tidy rfl (.inl (.done rfl ?_)))))
  ·simp at h
  ·subst h2;simp only[Option.map_some,Option.getD_some]at hb;rw[hp,← hb];rfl
  ·subst h2;simp only[Option.map_some,Option.getD_some]at hb;rw[hp,← hb];rfl
def xm(o:Option ai)(x:ai):Option ai:=match o with
 |none=>some x
 |some y=>if o7 x.bX y.bX then some x else some y
instance :DecidableEq aa:=fun a b=>decidable_of_iff (bw a b=true) (xX a b)
theorem NZ(hm:List (aa×ai))(x:ai)(p:aa):getM bw p (eV hm x)=if p=o8 x then xm (getM bw p hm) x else getM bw p hm:=by
 unfold eV;by_cases h:p=o8 x
 ·subst h;rw[if_pos rfl];cases hg:getM bw (o8 x) hm with
  |none=>simp only[xm];rw[wK xX,if_pos rfl]
  |some y=>
   simp only[xm];split
   ·rw[wK xX,if_pos rfl]
   ·exact hg
 ·rw[if_neg h];cases hg:getM bw (o8 x) hm with
  |none=>simp only;rw[wK xX,if_neg h]
  |some y=>
   simp only
   split
   ·rw[wK xX,if_neg h]
   ·rfl
theorem FX{hm:List (aa×ai)}(h:(hm.map (·.1)).Nodup)(x:ai):((eV hm x).map (·.1)).Nodup∧(eV hm x).length≤hm.length+1:=by
 unfold eV;cases getM bw (o8 x) hm with
 |none=>exact JF xX hm _ _ h
 |some y=>
  simp only
  split
  ·exact JF xX hm _ _ h
  ·exact⟨h,Nat.le_succ _⟩
theorem BW(p:aa):∀(cs:List ai) (hm:List (aa×ai)),getM bw p (cs.foldl eV hm)=(cs.filter fun x=>decide (p=o8 x)).foldl xm (getM bw p hm)
 | [],hm=>rfl
 |x::cs,hm=>by
  simp only[List.foldl_cons,BW p cs,NZ,List.filter_cons];split
  ·rename_i h;simp[h]
  ·rename_i h;simp[h]
end Go.L
end
section
namespace Go.L
open Go.AM
def zo(leaf:Int)(s:bq):List Int:=if decide (leaf∈s.Leaves)then s.aR else[]
structure FY(n:Nat)(f:aG):Prop where
 l:f.aH.length<100000
 nn:f.aH.length<n
 s:∀s∈f.aH,s.Leaves.length<n∧s.Leaves.length<100000∧s.aR.length<n∧s.aR.length<100000∧∀b∈s.aR,0≤b∧b<f.aR.length
 b:f.aR.length<100000
 bn:f.aR.length<n
 t:f.bf.length<100000
 tn:f.bf.length<n
def gW{α β:Type}(g:Nat→α→List β)(l:List α):List β:=l.zipIdx.flatMap fun p=>g p.2 p.1
theorem qF{α β:Type}(g:Nat→α→List β)(pre:List α)(x:α):gW g (pre++[x])=gW g pre++g pre.length x:=by
 unfold gW;rw[List.zipIdx_append,List.flatMap_append];simp
def xG(self:Int)(up:List Bool)(es:Int→cA Int)(i:Nat)(s:bq):List (cA Int×List Int):=
 if decide (self∈s.Leaves)&&decide (1<s.Leaves.length)&&(up[i]? ==some true)then[(es i,s.aR)]else[]
def jS{K V:Type}(eq:K→K→Bool)(l:List (K×V)):List (K×V):=l.foldl (fun m p=>bL eq p.1 p.2 m) []
theorem AA{K V:Type}(eq:K→K→Bool)(l:List (K×V))(p:K×V):jS eq (l++[p])=bL eq p.1 p.2 (jS eq l):=by simp[jS]
structure Mr(f:aG)(leaf:Int)(up:List Bool)(es:Int→cA Int)(lo:Int)(r:List Bool×List (cA Int×List Int)×List (Int×Int)×List (Int×Int)×List (aa×Bool)×List (aa×ai)×aG×Int×Nat):Prop where
 Tg:r.1.length=f.aR.length
 cr:∀b:Nat,b<f.aR.length→r.1[b]? =some (decide ((b:Int)∈f.aH.flatMap (zo leaf)))
 us:r.2.1=jS gI (gW (xG leaf up es) f.aH)
 dm:r.2.2.1=jS cU (gW (fun i d=>[(d.Target,(i:Int))]) f.aR)
 tn:r.2.2.2.1=jS cU (gW (fun i t=>[(t.Target,(i:Int))]) f.bf)
 sb:r.2.2.2.2.1=[]
 hm:r.2.2.2.2.2.1=[]
 fb:r.2.2.2.2.2.2.1=f
 own:r.2.2.2.2.2.2.2.1=lo
 len:r.2.2.2.2.2.2.2.2=f.aR.length
def HD(f:aG)(pre:List Int)(c:List Bool):Prop:=c.length=f.aR.length∧∀b:Nat,b<f.aR.length→c[b]? =some (decide ((b:Int)∈pre))
theorem HD.set{f:aG}{pre:List Int}{c:List Bool}(h:HD f pre c){x:Int}(h0:0≤x)(h1:x<f.aR.length):HD f (pre++[x]) (c.set x.toNat true):=by
 refine⟨by simpa using h.1,fun b hb=>?_⟩
 rw[List.getElem?_set];by_cases he:x.toNat=b
 ·rw[if_pos he,if_pos (by rw[h.1];omega)]
  have:(b:Int)=x:=by omega
  simp[this]
 ·rw[if_neg he,h.2 b hb];have:(b:Int)≠x:=by omega
  simp[this]
theorem Ig(n:Nat)(f:aG)(self lo:Int)(up:List Bool)(es:Int→cA Int)(hlo:At (mO.S n (f,self)) (fun r=>r=lo))(hf:FY n f)
 (hes:∀i:Nat,i<f.aH.length→At (kI.S n (i:Int)) (fun(r:cA Int×Int)=>r.1=es i)):
 At (sr.c.S n (f,self,up)) (Mr f self up es lo):=by
 refine(?_ :cz n (sk f self up) _);unfold sk;have hrep:(List.replicate (Int.toNat (((List.length f.aR):Nat):Int)) false).length=f.aR.length:=by simp
 have hroom:roomy (Int.toNat (((List.length f.aR):Nat):Int)) 1=true:=by
  have:=hf.b;simp only[roomy,Bool.and_eq_true,decide_eq_true_eq,Int.toNat_natCast];omega
 refine .skip (.call _ hlo fun r4 h4=>.skip (.op () rfl (.op () (if_pos ⟨by omega,hroom⟩) (.skip (.op () rfl (.skip ?_))))))
 refine .loop (ep f.aH fun pre (s:List Bool×List (cA Int×List Int))=>HD f (pre.flatMap (zo self)) s.1∧s.2=jS gI (gW (xG self up es) pre)) (fun a=>f.aH.length - a.1.toNat)
  (fun t=>HD f (f.aH.flatMap (zo self)) t.1∧t.2=jS gI (gW (xG self up es) f.aH)) rfl (ep.start ⟨⟨hrep,fun b hb=>?_⟩,rfl⟩) (by simpa using hf.nn) (fun a ha=>?_) (fun t67 ht67=>?_)
 ·rw[List.getElem?_replicate,if_pos (by simpa using hb)];simp
 ·refine .skip (.br (fun h=>?_) fun h=>.skip (.done rfl (ha.fin h)))
  obtain⟨s,pre,h1,h2,⟨h3,h3u⟩,⟨hidx,hpost⟩,h5⟩:=ha.get h;obtain⟨q1,q2,q3,q4,q5⟩:=hf.s s h2;have hlt:pre.length<f.aH.length:=by
   obtain⟨post,hp⟩:=hpost;have:=congrArg List.length hp;simp only[List.length_append,List.length_cons]at this;omega
  refine .skip (.op s h1 (.skip (.call _ (Az n s.Leaves self q1 q2) fun r50 h50=>.skip (.br (fun hc=>.skip (.done rfl ?_)) fun hc=>?_))))
  ·have hn:¬self∈s.Leaves:=by rw[h50]at hc;simpa using hc
   refine h5 hf.l _ ⟨?_,?_⟩
   ·rw[List.flatMap_append,List.flatMap_cons,List.flatMap_nil,List.append_nil];have:zo self s=[]:=by unfold zo;simp[hn]
    rw[this,List.append_nil];exact h3
   ·rw[qF];have:xG self up es pre.length s=[]:=by unfold xG;simp[hn]
    rw[this,List.append_nil];exact h3u
  ·have hin:self∈s.Leaves:=by rw[h50]at hc;simpa using hc
   have hcar:zo self s=s.aR:=by unfold zo;simp[hin]
   refine .skip (.op () rfl (.skip (.loop (ep s.aR fun p c=>HD f (pre.flatMap (zo self)++p) c) (fun a=>s.aR.length - a.1.toNat) (fun t=>HD f (pre.flatMap (zo self)++s.aR) t) rfl (ep.start (by rw[List.append_nil];exact h3)) (by simpa using q3) (fun a2 ha2=>?_) (fun t57 ht57=>?_))))
   ·refine .skip (.br (fun g=>?_) fun g=>.skip (.done rfl (ha2.fin g)))
    obtain⟨x,p2,g1,g2,g3,_,g5⟩:=ha2.get g;obtain⟨b0,b1⟩:=q5 x g2;have hx:x.toNat<a2.2.length:=by rw[g3.1];omega
    refine .skip (.op x g1 (.skip (.op () (if_pos ⟨b0,by rw[hrep];exact b1⟩) (.op (a2.2[x.toNat]'hx) (List.getElem?_eq_getElem hx) (.skip (.done rfl (g5 q4 _ ?_)))))))
    rw[← List.append_assoc];exact g3.set b0 b1
   ·have fin:∀us,us=jS gI (gW (xG self up es) (pre++[s]))→(ep f.aH (fun pre (s:List Bool×List (cA Int×List Int))=>HD f (pre.flatMap (zo self)) s.1∧s.2=jS gI (gW (xG self up es) pre)) (Go.IntKind.wrap .i64 (a.1+1),(t57,us))∧f.aH.length - (Go.IntKind.wrap .i64 (a.1+1)).toNat<f.aH.length - a.1.toNat):=fun us hus=>h5 hf.l (t57,us) ⟨by
     rw[List.flatMap_append,List.flatMap_cons,List.flatMap_nil,List.append_nil,hcar];exact ht57,hus⟩
    have none_:xG self up es pre.length s=[]→a.2.2=jS gI (gW (xG self up es) (pre++[s])):=fun e=>by rw[qF,e,List.append_nil];exact h3u
    refine .skip (.op () rfl (.skip (.br (fun g=>?_) fun g=>.skip (.done rfl (fin _ (none_ ?_))))))
    ·have g1:1<s.Leaves.length:=by simp only[gt_iff_lt,decide_eq_true_eq]at g;omega
     refine .skip (.op () rfl (.skip (.br (fun g2=>?_) fun g2=>.skip (.done rfl (fin _ (none_ ?_))))))
     ·simp only[decide_eq_true_eq]at g2;have hu:pre.length<up.length:=by rw[hidx]at g2;omega
      have hat:jd up a.1=some (up[pre.length]'hu):=by rw[hidx,cK,List.getElem?_eq_getElem hu]
      refine .skip (.op _ hat (.skip (.join (fun us=>us=jS gI (gW (xG self up es) (pre++[s]))) ?_ fun us hus=>.skip (.done rfl (fin us hus)))))
      refine .br (fun g3=>?_) fun g3=>.skip (.done rfl (none_ ?_))
      ·have hes':=hes pre.length hlt;rw[← hidx]at hes';refine .skip (.call _ hes' fun r59 h59=>.skip (.op () rfl (.done rfl ?_)))
       have:xG self up es pre.length s=[(es a.1,s.aR)]:=by
        unfold xG;rw[hidx];simp[hin,g1,List.getElem?_eq_getElem hu,g3]
       rw[qF,this,AA,← h3u,h59]
      ·unfold xG;simp[List.getElem?_eq_getElem hu,g3]
     ·simp only[decide_eq_false_iff_not]at g2;have hu:¬pre.length<up.length:=by rw[hidx]at g2;omega
      unfold xG;simp[List.getElem?_eq_none (Nat.le_of_not_lt hu)]
    ·have g1:¬1<s.Leaves.length:=by simp only[gt_iff_lt,decide_eq_false_iff_not]at g;omega
     unfold xG;simp[g1]
 ·refine .skip (.op () rfl (.skip (.loop (ep f.aR fun pre m=>m=jS cU (gW (fun i (d:BD)=>[(d.Target,(i:Int))]) pre)) (fun a=>f.aR.length - a.1.toNat) (fun t=>t=jS cU (gW (fun i (d:BD)=>[(d.Target,(i:Int))]) f.aR)) rfl (ep.start rfl) (by simpa using hf.bn) (fun a ha=>?_) (fun t80 ht80=>?_))))
  ·refine .skip (.br (fun h=>?_) fun h=>.skip (.done rfl (ha.fin h)))
   obtain⟨x,pre,h1,h2,h3,⟨hidx,_⟩,h5⟩:=ha.get h;refine .skip (.op x h1 (.skip (.op () rfl (.skip (.done rfl (h5 hf.b _ ?_))))));rw[qF,AA,← h3,hidx]
  ·refine .skip (.op () rfl (.skip (.loop (ep f.bf fun pre m=>m=jS cU (gW (fun i (d:au)=>[(d.Target,(i:Int))]) pre)) (fun a=>f.bf.length - a.1.toNat) (fun t=>t=jS cU (gW (fun i (d:au)=>[(d.Target,(i:Int))]) f.bf)) rfl (ep.start rfl) (by simpa using hf.tn) (fun a ha=>?_) (fun t93 ht93=>?_))))
   ·refine .skip (.br (fun h=>?_) fun h=>.skip (.done rfl (ha.fin h)))
    obtain⟨x,pre,h1,h2,h3,⟨hidx,_⟩,h5⟩:=ha.get h;refine .skip (.op x h1 (.skip (.op () rfl (.skip (.done rfl (h5 hf.t _ ?_))))));rw[qF,AA,← h3,hidx]
   ·exact .skip (.tidy rfl (.inl (.done rfl ⟨ht67.1.1,ht67.1.2,ht67.2,ht80,ht93,rfl,rfl,rfl,h4,hrep⟩)))
end Go.L
end
section
namespace Go.L
open Go.AM
def Sw:eE:=Go.L.eE.mk 0 0 Mq 0 0 0 false (Go.L.ah.mk 0 0) 0 0 0
def DQ(i:Nat)(d:BD):ai:=⟨Go.L.aF.mk d.au d.bt (i:Int) 0 0 0 0,Go.L.cT.mk 0 0 0 0 0 Sw⟩
def qI(cr:List Bool)(i:Nat)(d:BD):List ai:=if(d.aS != 0)&&(cr[i]? ==some true)then[DQ i d]else[]
def xo(f:aG)(cr:List Bool):List ai:=gW (qI cr) f.aR
def DR(sb:List (aa×Bool))(x:ai):List (aa×Bool):=bL bw (o8 x) true sb
theorem JK(n:Nat)(hn:11≤n)(f:aG)(own:Int)(k:Nat)(cr:List Bool)(us:List (cA Int×List Int))(dm tn:List (Int×Int))(sb:List (aa×Bool))(hm:List (aa×ai))
 (hb:f.aR.length<100000) (hbn:f.aR.length<n) (hk:k=f.aR.length) (hcr:cr.length=f.aR.length):
 At (rD.c.S n (f,own,k,cr,us,dm,tn,sb,hm)) (fun r=>r=((xo f cr).foldl DR sb,(xo f cr).foldl eV hm)):=by
 refine(?_ :cz n (nj f own k cr us dm tn sb hm) _);unfold nj;refine .skip (.op () rfl (.skip (.loop (ep f.aR fun pre s=>s=((gW (qI cr) pre).foldl DR sb,(gW (qI cr) pre).foldl eV hm)) (fun a=>f.aR.length - a.1.toNat) (fun t=>t=((xo f cr).foldl DR sb,(xo f cr).foldl eV hm)) rfl (ep.start rfl) (by simpa using hbn) (fun a ha=>?_) (fun t ht=>?_))))
 ·refine .skip (.br (fun h=>?_) fun h=>.skip (.done rfl (ha.fin h)))
  obtain⟨d,pre,h1,h2,h3,⟨hidx,post,hpost⟩,h5⟩:=ha.get h;have hlt:pre.length<f.aR.length:=by
   have:=congrArg List.length hpost;simp only[List.length_append,List.length_cons]at this;omega
  have e1:a.2.1=(gW (qI cr) pre).foldl DR sb:=by rw[h3]
  have e2:a.2.2=(gW (qI cr) pre).foldl eV hm:=by rw[h3]
  have none_:qI cr pre.length d=[]→(a.2.1,a.2.2)=((gW (qI cr) (pre++[d])).foldl DR sb,(gW (qI cr) (pre++[d])).foldl eV hm):=fun e=>by
   rw[qF,e,List.append_nil,← e1,← e2]
  refine .skip (.op d h1 (.skip (.br (fun g=>?_) fun g=>.skip (.done rfl (h5 hb _ (none_ ?_))))))
  ·have hc:pre.length<cr.length:=by omega
   refine .skip (.op () (if_pos ⟨by omega,by rw[hidx,hk];omega⟩) (.op (cr[pre.length]'hc) (by rw[show a.1.toNat=pre.length by omega];exact List.getElem?_eq_getElem hc) (.skip (.br (fun g2=>?_) fun g2=>.skip (.done rfl (h5 hb _ (none_ ?_)))))))
   ·refine .skip (.op () rfl (.skip (.inl (.cM _ (vJ n hn f own k cr us dm tn _ a.2.2 _) fun r29 h29=>.skip (.done rfl (h5 hb _ ?_))))))
    have:qI cr pre.length d=[DQ pre.length d]:=by unfold qI;simp only[g,List.getElem?_eq_getElem hc,g2];rfl
    rw[qF,this,List.foldl_append,List.foldl_append,← e1,← e2,h29,hidx];rfl
   ·unfold qI;simp only[List.getElem?_eq_getElem hc,g2];simp
  ·unfold qI;simp only[g];rfl
 ·exact .tidy rfl (.inl (.done rfl ht))
def Ms(o:Option Int)(bd:Int):Bool:=match o with
 |some h=>decide (bd>h)
 |none=>false
def xq(f:aG)(dm:List (Int×Int))(t ip:Int)(ez:ah→Bool)(o:Option Int)(T:Int):Option Int:=
 match getM cU T dm with
 |none=>o
 |some bd=>if Ms o bd then o else
  match jd f.aR bd with
  |none=>o
  |some d=>if(d.au==t)&&(d.aS != 0)&&ez d.bt then some bd else o
def pn(f:aG)(dm:List (Int×Int))(t ip:Int)(ez:ah→Bool)(ts:List Int):Option Int:=ts.foldl (xq f dm t ip ez) none
theorem QU(n:Nat)(f:aG)(own:Int)(k:Nat)(cr:List Bool)(us:List (cA Int×List Int))(dm tn:List (Int×Int))(sb:List (aa×Bool))(hm:List (aa×ai))(t ip:Int)(ts:List Int)(ez:ah→Bool)
 (hts:ts.length<100000) (htn:ts.length<n) (hdm:∀T bd,getM cU T dm=some bd→∃d,jd f.aR bd=some d) (hcon:∀d∈f.aR,At (dQ.S n (d.bt,ip)) (fun(b:Bool)=>b=ez d.bt)):
 At (vH.c.S n (f,own,k,cr,us,dm,tn,sb,hm,t,ts,ip)) (fun r=>r=((pn f dm t ip ez ts).getD 0,(pn f dm t ip ez ts).isSome)):=by
 refine(?_ :cz n (qE f own k cr us dm tn sb hm t ts ip) _);unfold qE;have atmem:∀{bd:Int} {d:BD},jd f.aR bd=some d→d∈f.aR:=fun {bd d} h=>by
  unfold jd at h;split at h
  ·exact List.mem_of_getElem? h
  ·cases h
 let st:Int×Bool×Int→Int×Option Int:=fun a=>(a.2.2,if a.2.1 then some a.1 else none)
 refine .skip (.op () rfl (.skip (.loop (fun a=>ep ts (fun pre o=>o=pn f dm t ip ez pre) (st a)∧(a.2.1=false→a.1=0)) (fun a=>ts.length - a.2.2.toNat) (fun r=>r=((pn f dm t ip ez ts).getD 0,(pn f dm t ip ez ts).isSome)) rfl ⟨ep.start rfl,fun _=>rfl⟩ (by simpa using htn) (fun a ha=>?_) (fun r hr=>?_))))
 ·obtain⟨ha,ha0⟩:=ha;obtain⟨a1,a2,a3⟩:=a;have ha0:a2=false→a1=0:=ha0;have hval:∀o,(if a2=true then some a1 else none)=o→(a1,a2)=(o.getD 0,o.isSome):=fun o ho=>by
   cases a2 with
   |true=>subst ho;rfl
   |false=>subst ho;rw[ha0 rfl];rfl
  refine .skip (.br (fun h=>?_) fun h=>.skip (.done rfl (hval _ (ha.fin h))))
  obtain⟨T,pre,h1,h2,h3,_,h5⟩:=ha.get h;have h3:(if a2=true then some a1 else none)=pn f dm t ip ez pre:=h3
  have step:∀o',o'=xq f dm t ip ez (if a2=true then some a1 else none) T→o'=pn f dm t ip ez (pre++[T]):=fun o' ho=>by
   rw[ho,h3];unfold pn;rw[List.foldl_append];rfl
  have keep:xq f dm t ip ez (if a2=true then some a1 else none) T=(if a2=true then some a1 else none)→pV (fun a=>ep ts (fun pre o=>o=pn f dm t ip ez pre) (st a)∧(a.2.1=false→a.1=0)) (fun a=>ts.length - a.2.2.toNat) (fun r=>r=((pn f dm t ip ez ts).getD 0,(pn f dm t ip ez ts).isSome)) (a1,a2,a3) (.inl (a1,a2,Go.IntKind.wrap .i64 (a3+1))):=fun e=>by
   obtain⟨q1,q2⟩:=h5 hts _ (step _ e.symm);exact⟨⟨q1,ha0⟩,q2⟩
  have put:∀bd,xq f dm t ip ez (if a2=true then some a1 else none) T=some bd→pV (fun a=>ep ts (fun pre o=>o=pn f dm t ip ez pre) (st a)∧(a.2.1=false→a.1=0)) (fun a=>ts.length - a.2.2.toNat) (fun r=>r=((pn f dm t ip ez ts).getD 0,(pn f dm t ip ez ts).isSome)) (a1,a2,a3) (.inl (bd,true,Go.IntKind.wrap .i64 (a3+1))):=fun bd e=>by
   obtain⟨q1,q2⟩:=h5 hts _ (step _ e.symm);exact⟨⟨q1,fun h=>by cases h⟩,q2⟩
  refine .skip (.op T h1 (.skip (.op () rfl (.skip ?_))));cases hf:bh cU T dm 0 with
  |none=>
   have hg:getM cU T dm=none:=by unfold getM;rw[hf];rfl
   exact .br (fun g=>.skip (.done rfl (keep (by unfold xq;rw[hg])))) fun g=>by simp at g
  |some x=>
   have hg:getM cU T dm=some x.2:=by unfold getM;rw[hf];rfl
   obtain⟨d,hd⟩:=hdm T x.2 hg;refine .br (fun g=>by simp at g) fun g=>.skip ?_
   have hat:jd f.aR ((Option.map (fun x:Nat×Int=>x.2) (some x)).getD 0)=some d:=hd
   have rest:Ms (if a2=true then some a1 else none) x.2=false→
    xq f dm t ip ez (if a2=true then some a1 else none) T=if(d.au==t)&&(d.aS != 0)&&ez d.bt then some x.2 else(if a2=true then some a1 else none):=fun e=>by
    unfold xq;rw[hg];simp only[e,hd];rw[if_neg (by simp)]
   refine .br (fun g1=>.skip (.br (fun g2=>.skip (.done rfl (keep ?_))) fun g2=>?_)) fun g1=>?_
   ·have g1:a2=true:=g1;have e:Ms (if a2=true then some a1 else none) x.2=true:=by rw[if_pos g1];exact g2
    unfold xq;rw[hg];simp only[e,if_true]
   ·have hr:=rest (by rw[if_pos (show a2=true from g1)];exact g2)
    refine .skip (.op d hat (.skip (.br (fun c1=>.skip (.br (fun c2=>.skip (.call _ (hcon d (atmem hd)) fun r35 h35=>.skip (.br (fun c3=>.skip (.done rfl (put _ ?_))) fun c3=>.skip (.done rfl (keep ?_))))) fun c2=>.skip (.done rfl (keep ?_)))) fun c1=>.skip (.done rfl (keep ?_)))))
    ·rw[hr,if_pos (by rw[c1,c2,← h35,c3];rfl)];rfl
    ·rw[hr,if_neg (by rw[← h35,c3];simp)]
    ·rw[hr,if_neg (by rw[c2];simp)]
    ·rw[hr,if_neg (by rw[c1];simp)]
   ·have hr:=rest (by rw[if_neg (by rw[show a2=false from g1];simp)];rfl)
    refine .skip (.op d hat (.skip (.br (fun c1=>.skip (.br (fun c2=>.skip (.call _ (hcon d (atmem hd)) fun r35 h35=>.skip (.br (fun c3=>.skip (.done rfl (put _ ?_))) fun c3=>.skip (.done rfl (keep ?_))))) fun c2=>.skip (.done rfl (keep ?_)))) fun c1=>.skip (.done rfl (keep ?_)))))
    ·rw[hr,if_pos (by rw[c1,c2,← h35,c3];rfl)];rfl
    ·rw[hr,if_neg (by rw[← h35,c3];simp)]
    ·rw[hr,if_neg (by rw[c2];simp)]
    ·rw[hr,if_neg (by rw[c1];simp)]
 ·subst hr;exact .skip (.tidy rfl (.inl (.done rfl rfl)))
end Go.L
end
section
namespace Go.L
open Go.AM
def zu(own:Int)(t:Int)(sb:List (aa×Bool))(rt:Int×Bool)(r:aK):Option ai:=
 if(r.A.Next==own)||(r.N.Label==0)|| !rt.2||((getM bw ⟨t,r.N.ah⟩ sb).getD false)then none
 else some ⟨Go.L.aF.mk t r.N.ah (-1) r.A.Next r.N.Label 0 rt.1,Go.L.cT.mk 2 0 0 0 r.A.Next r.N⟩
def o6(hm:List (aa×ai))(o:Option ai):List (aa×ai):=match o with
 |none=>hm
 |some x=>eV hm x
theorem N0(n:Nat)(hn:11≤n)(f:aG)(own:Int)(k:Nat)(cr:List Bool)(us:List (cA Int×List Int))(dm tn:List (Int×Int))(sb:List (aa×Bool))(hm:List (aa×ai))(t:Int)(r:aK)(rt:Int×Bool)
 (hrt:At (fP.S n r.A.dy) (fun(q:Int×Bool)=>q=rt)):
 At (lN.c.S n (f,own,k,cr,us,dm,tn,sb,hm,t,r)) (fun m=>m=o6 hm (zu own t sb rt r)):=by
 refine(?_ :cz n (o5 f own k cr us dm tn sb hm t r) _);unfold o5;refine .skip (.call _ hrt fun(q:Int×Bool) hq=>.skip ?_)
 subst hq;refine .br (fun h1=>.skip (.tidy rfl (.inl (.done rfl ?_)))) fun h1=>.skip (.br (fun h2=>.skip (.tidy rfl (.inl (.done rfl ?_)))) fun h2=>.skip (.br (fun h3=>.skip (.tidy rfl (.inl (.done rfl ?_)))) fun h3=>.skip (.op () rfl (.skip (.br (fun h4=>.skip (.tidy rfl (.inl (.done rfl ?_)))) fun h4=>.skip (.inl (.cM _ (vJ n hn f own k cr us dm tn sb hm _) fun m hm2=>.tidy rfl (.inl (.done rfl ?_)))))))))
 ·unfold zu;rw[if_pos (by rw[h1];rfl)];rfl
 ·unfold zu;rw[if_pos (by rw[h2];simp)];rfl
 ·unfold zu;rw[if_pos (by rw[show(!q.2)=true from h3];simp)];rfl
 ·have h4:(getM bw ⟨t,r.N.ah⟩ sb).getD false=true:=h4;unfold zu;rw[if_pos (by rw[h4];simp)];rfl
 ·have h4:(getM bw ⟨t,r.N.ah⟩ sb).getD false=false:=h4;unfold zu;rw[if_neg (by rw[h1,h2,show(!q.2)=false from h3,h4];simp)];exact hm2
def uF(e:cA Int):Bool:=((e.a0==(0:Int))&&((e.a1==(0:Int))&&((e.a2==(0:Int))&&((e.a3==(0:Int))&&((e.a4==(0:Int))&&((e.a5==(0:Int))&&((e.a6==(0:Int))&&((e.a7==(0:Int))&&((e.a8==(0:Int))&&((e.a9==(0:Int))&&true))))))))))
def kV(r:aK)(own:Int):Int:=if r.A.Next=own then 0 else 1
def kW(r:aK):Int:=if uF r.N.aA=true then 1 else 0
def s7(r:aK)(own sq:Int)(h:aF):ai:=⟨h,Go.L.cT.mk 1 (kV r own) sq (kW r) r.A.Next r.N⟩
def Mt(us:List (cA Int×List Int))(e:cA Int)(bd:Int):Bool:=decide (bd∈(getM gI e us).getD [])
def uu(f:aG)(own:Int)(cr:List Bool)(us:List (cA Int×List Int))(dm:List (Int×Int))(t:Int)(ez:ah→Bool)(sq:Int)(rt:Int×Bool)(ts:List Int)(r:aK):Option ai:=
 match pn f dm t r.N.IP ez ts with
 |none=>none
 |some bd=>
  if !((cr[bd.toNat]?).getD false)||(!((r.A.Next==own)||Mt us r.N.aA bd)&&(f.dP != 1))then
   if(r.A.Next==own)||(r.N.ee==0)|| !rt.2 then none
   else some (s7 r own sq (Go.L.aF.mk t (Go.L.ah.mk r.N.IP 32) (-1) r.A.Next r.N.ee 0 rt.1))
  else some (s7 r own sq (Go.L.aF.mk t (Go.L.ah.mk r.N.IP 32) bd 0 0 r.N.bO 0))
theorem QV(n:Nat)(hn:11≤n)(f:aG)(own:Int)(k:Nat)(cr:List Bool)(us:List (cA Int×List Int))(dm tn:List (Int×Int))(sb:List (aa×Bool))(hm:List (aa×ai))(t:Int)(ts:List Int)(r:aK)(ez:ah→Bool)(sq:Int)(rt:Int×Bool)
 (hrt:At (fP.S n r.A.dy) (fun(q:Int×Bool)=>q=rt)) (hmob:At (dW.S n r.A.dy) (fun(q:Bool×Int×Bool)=>q.2.1=sq))
 (hts:ts.length<100000) (htn:ts.length<n) (hdm:∀T bd,getM cU T dm=some bd→0≤bd∧bd<f.aR.length) (hcon:∀d∈f.aR,At (dQ.S n (d.bt,r.N.IP)) (fun(b:Bool)=>b=ez d.bt))
 (hk:k=f.aR.length) (hcr:cr.length=f.aR.length) (hus:∀e l,getM gI e us=some l→l.length<n∧l.length<100000):
 At (qH.c.S n (f,own,k,cr,us,dm,tn,sb,hm,t,ts,r)) (fun m=>m=o6 hm (uu f own cr us dm t ez sq rt ts r)):=by
 refine(?_ :cz n (qG f own k cr us dm tn sb hm t ts r) _);unfold qG;have hdm2:∀T bd,getM cU T dm=some bd→∃d,jd f.aR bd=some d:=fun T bd h=>by
  obtain⟨h0,h1⟩:=hdm T bd h;refine⟨f.aR[bd.toNat]'(by omega),?_⟩
  have:=cK f.aR bd.toNat;rw[show((bd.toNat:Nat):Int)=bd by omega]at this
  rw[this,List.getElem?_eq_getElem]
 have hrange:∀l:List Int,∀o:Option Int,(∀h:Int,o=some h→0≤h∧h<f.aR.length)→∀h:Int,l.foldl (xq f dm t r.N.IP ez) o=some h→0≤h∧h<f.aR.length:=by
  intro l;induction l with
  |nil=>exact fun o ho=>ho
  |cons T l ih=>
   intro o ho;refine ih _ fun h hh=>?_
   unfold xq at hh;cases hg:getM cU T dm with
   |none=>rw[hg]at hh;exact ho h hh
   |some bd=>
    rw[hg]at hh;simp only at hh;split at hh
    ·exact ho h hh
    ·split at hh
     ·exact ho h hh
     ·split at hh
      ·cases hh;exact hdm T _ hg
      ·exact ho h hh
 refine .skip (.inl (.cM _ (QU n f own k cr us dm tn sb hm t r.N.IP ts ez hts htn hdm2 hcon) fun r13 h13=>.skip ?_))
 subst h13;cases hh:pn f dm t r.N.IP ez ts with
 |none=>
  have hs:uu f own cr us dm t ez sq rt ts r=none:=by unfold uu;rw[hh]
  rw[hs];exact .br (fun _=>.skip (.tidy rfl (.inl (.done rfl rfl)))) fun h=>by cases h
 |some bd=>
  obtain⟨hb0,hb1⟩:0≤bd∧bd<f.aR.length:=hrange ts none (fun h e=>by cases e) bd hh
  have hc:bd.toNat<cr.length:=by omega
  have hcb:cr[bd.toNat]? =some (cr[bd.toNat]'hc):=List.getElem?_eq_getElem hc;have hsp:uu f own cr us dm t ez sq rt ts r=if !(cr[bd.toNat]'hc)||(!((r.A.Next==own)||Mt us r.N.aA bd)&&(f.dP != 1))then
   if(r.A.Next==own)||(r.N.ee==0)|| !rt.2 then none
   else some (s7 r own sq (Go.L.aF.mk t (Go.L.ah.mk r.N.IP 32) (-1) r.A.Next r.N.ee 0 rt.1))
   else some (s7 r own sq (Go.L.aF.mk t (Go.L.ah.mk r.N.IP 32) bd 0 0 r.N.bO 0)):=by
   unfold uu;rw[hh];simp only[hcb,Option.getD_some]
  generalize uu f own cr us dm t ez sq rt ts r=S at hsp;generalize cr[bd.toNat]'hc=cb at hsp hcb;refine .br (fun h=>by cases h) fun _=>.skip (.br (fun hmine=>.skip (.op () (if_pos ⟨hb0,by rw[hk];exact hb1⟩) (.op cb hcb (.skip ?_)))) fun hmine=>.skip ?_)
  ·rw[hmine]at hsp;refine .br (fun g=>.skip (.call _ hrt fun(q:Int×Bool) hq=>.skip (.br (fun _=>.skip (.tidy rfl (.inl (.done rfl ?_)))) fun h=>?_))) fun g=>.skip ?_
   ·rw[hsp,if_pos (by rw[show(!cb)=true from g];rfl)];rfl
   ·rw[hmine]at h;cases h
   ·have hspec:∀h:aF,h=Go.L.aF.mk t (Go.L.ah.mk r.N.IP 32) bd 0 0 r.N.bO 0→o6 hm S=eV hm (s7 r own sq h):=fun h e=>by
     subst e;rw[hsp,if_neg (by rw[show(!cb)=false from g];simp)];rfl
    refine .call _ hmob fun q hq=>.skip (.join (fun(x:Int)=>x=kV r own) ?_ fun x hx=>.skip (.join (fun(y:Int)=>y=kW r) ?_ fun y hy=>.skip (.inl (.cM _ (vJ n hn f own k cr us dm tn sb hm _) fun m hm2=>.tidy rfl (.inl (.done rfl ?_))))))
    ·refine .br (fun h=>.skip (.done rfl ?_)) fun h=>.skip (.done rfl ?_)
     ·unfold kV;rw[if_neg (by simpa using h)]
     ·unfold kV;rw[if_pos (by simpa using h)]
    ·refine .br (fun h=>.skip (.done rfl ?_)) fun h=>.skip (.done rfl ?_)
     ·unfold kW;rw[if_pos (show uF r.N.aA=true from h)]
     ·unfold kW;rw[if_neg (by rw[show uF r.N.aA=false from h];simp)]
    ·subst hx hy;rw[hm2,hq];exact(hspec _ rfl).symm
  ·have usd:∀(l:List Int),(getM gI r.N.aA us).getD []=l→Mt us r.N.aA bd=decide (bd∈l):=fun l e=>by unfold Mt;rw[e]
   refine .sp (fun hsome=>?_) fun hnone=>?_
   ·cases hf:bh uQ r.N.aA us 0 with
    |none=>rw[hf]at hsome;cases hsome
    |some z=>
    have hgl:getM gI r.N.aA us=some z.2:=by unfold getM;rw[show bh gI r.N.aA us 0=some z from hf];rfl
    obtain⟨l1,l2⟩:=hus _ _ hgl;have hin:=usd z.2 (by rw[hgl];rfl)
    refine .op z.2 (by show(bh uQ r.N.aA us 0).map (·.2)=_;rw[hf];rfl) (.skip (.call _ (Az n z.2 bd l1 l2) fun(b:Bool) hb=>.skip (.op () (if_pos ⟨hb0,by rw[hk];exact hb1⟩) (.op cb hcb (.skip ?_)))))
    rw[← hb]at hin;simp only[hmine,hin,Bool.false_or]at hsp;refine .br (fun g=>.skip (.call _ hrt fun(q:Int×Bool) hq=>.skip (.br (fun h=>by rw[hmine]at h;cases h) fun _=>.skip (.br (fun h2=>.skip (.tidy rfl (.inl (.done rfl ?_)))) fun h2=>.skip (.br (fun h3=>.skip (.tidy rfl (.inl (.done rfl ?_)))) fun h3=>.skip ?_))))) fun g=>.skip ?_
    ·rw[hsp,if_pos (by rw[show(!cb)=true from g];rfl),if_pos (by rw[h2];simp)];rfl
    ·subst hq;rw[hsp,if_pos (by rw[show(!cb)=true from g];rfl),if_pos (by rw[show(!q.2)=true from h3];simp)];rfl
    ·subst hq;have hspec:∀h:aF,h=Go.L.aF.mk t (Go.L.ah.mk r.N.IP 32) (-1) r.A.Next r.N.ee 0 q.1→o6 hm S=eV hm (s7 r own sq h):=fun h e=>by
      subst e;rw[hsp,if_pos (by rw[show(!cb)=true from g];rfl),if_neg (by rw[h2,show(!q.2)=false from h3];simp)];rfl
     refine .call _ hmob fun q hq=>.skip (.join (fun(x:Int)=>x=kV r own) ?_ fun x hx=>.skip (.join (fun(y:Int)=>y=kW r) ?_ fun y hy=>.skip (.inl (.cM _ (vJ n hn f own k cr us dm tn sb hm _) fun m hm2=>.tidy rfl (.inl (.done rfl ?_))))))
     ·refine .br (fun h=>.skip (.done rfl ?_)) fun h=>.skip (.done rfl ?_)
      ·unfold kV;rw[if_neg (by simpa using h)]
      ·unfold kV;rw[if_pos (by simpa using h)]
     ·refine .br (fun h=>.skip (.done rfl ?_)) fun h=>.skip (.done rfl ?_)
      ·unfold kW;rw[if_pos (show uF r.N.aA=true from h)]
      ·unfold kW;rw[if_neg (by rw[show uF r.N.aA=false from h];simp)]
     ·subst hx hy;rw[hm2,hq];exact(hspec _ rfl).symm
    ·rw[show(!cb)=false from g,Bool.false_or]at hsp;refine .br (fun g2=>.skip (.join (fun(x:Unit⊕(Int×Int×Int×Int×Int))=>match x with
      | .inl _=>o6 hm S=hm
      | .inr h=>∀m2,m2=eV hm (s7 r own sq (Go.L.aF.mk t (Go.L.ah.mk r.N.IP 32) h.1 h.2.1 h.2.2.1 h.2.2.2.1 h.2.2.2.2))→o6 hm S=m2) ?_ fun x hx=>?_)) fun g2=>.skip ?_
     ·rw[show(!b)=true from g2,Bool.true_and]at hsp;refine .br (fun g3=>.skip (.call _ hrt fun(q:Int×Bool) hq=>.skip (.br (fun h=>by rw[hmine]at h;cases h) fun _=>.skip (.br (fun h2=>.skip (.done rfl ?_)) fun h2=>.skip (.br (fun h3=>.skip (.done rfl ?_)) fun h3=>.skip (.done rfl ?_)))))) fun g3=>.skip (.done rfl ?_)
      ·show o6 hm S=hm;rw[hsp,if_pos g3,if_pos (by rw[h2];simp)];rfl
      ·show o6 hm S=hm;subst hq;rw[hsp,if_pos g3,if_pos (by rw[show(!q.2)=true from h3];simp)];rfl
      ·subst hq;intro m2 e;rw[e,hsp,if_pos g3,if_neg (by rw[h2,show(!q.2)=false from h3];simp)];rfl
      ·intro m2 e;rw[e,hsp,if_neg (by rw[g3];simp)];rfl
     ·cases x with
      |inl u=>exact .tidy rfl (.inl (.done rfl (show hm=o6 hm S from hx.symm)))
      |inr h=>
       refine .skip ?_;have hspec:∀h2:aF,h2=Go.L.aF.mk t (Go.L.ah.mk r.N.IP 32) h.1 h.2.1 h.2.2.1 h.2.2.2.1 h.2.2.2.2→o6 hm S=eV hm (s7 r own sq h2):=fun h2 e=>by
        subst e;exact hx _ rfl
       refine .call _ hmob fun q hq=>.skip (.join (fun(x:Int)=>x=kV r own) ?_ fun x hx=>.skip (.join (fun(y:Int)=>y=kW r) ?_ fun y hy=>.skip (.inl (.cM _ (vJ n hn f own k cr us dm tn sb hm _) fun m hm2=>.tidy rfl (.inl (.done rfl ?_))))))
       ·refine .br (fun h=>.skip (.done rfl ?_)) fun h=>.skip (.done rfl ?_)
        ·unfold kV;rw[if_neg (by simpa using h)]
        ·unfold kV;rw[if_pos (by simpa using h)]
       ·refine .br (fun h=>.skip (.done rfl ?_)) fun h=>.skip (.done rfl ?_)
        ·unfold kW;rw[if_pos (show uF r.N.aA=true from h)]
        ·unfold kW;rw[if_neg (by rw[show uF r.N.aA=false from h];simp)]
       ·subst hx hy;rw[hm2,hq];exact(hspec _ rfl).symm
     ·have hspec:∀h2:aF,h2=Go.L.aF.mk t (Go.L.ah.mk r.N.IP 32) bd 0 0 r.N.bO 0→o6 hm S=eV hm (s7 r own sq h2):=fun h2 e=>by
       subst e;rw[hsp,if_neg (by rw[show(!b)=false from g2];simp)];rfl
      refine .call _ hmob fun q hq=>.skip (.join (fun(x:Int)=>x=kV r own) ?_ fun x hx=>.skip (.join (fun(y:Int)=>y=kW r) ?_ fun y hy=>.skip (.inl (.cM _ (vJ n hn f own k cr us dm tn sb hm _) fun m hm2=>.tidy rfl (.inl (.done rfl ?_))))))
      ·refine .br (fun h=>.skip (.done rfl ?_)) fun h=>.skip (.done rfl ?_)
       ·unfold kV;rw[if_neg (by simpa using h)]
       ·unfold kV;rw[if_pos (by simpa using h)]
      ·refine .br (fun h=>.skip (.done rfl ?_)) fun h=>.skip (.done rfl ?_)
       ·unfold kW;rw[if_pos (show uF r.N.aA=true from h)]
       ·unfold kW;rw[if_neg (by rw[show uF r.N.aA=false from h];simp)]
      ·subst hx hy;rw[hm2,hq];exact(hspec _ rfl).symm
   ·have hf:bh uQ r.N.aA us 0=none:=by
     cases hf:bh uQ r.N.aA us 0 with
     |none=>rfl
     |some z=>rw[hf]at hnone;cases hnone
    have hgl:getM gI r.N.aA us=none:=by unfold getM;rw[show bh gI r.N.aA us 0=none from hf];rfl
    have hin:=usd [] (by rw[hgl];rfl)
    refine .op () (by show(if(bh uQ r.N.aA us 0).isSome then none else some ())=_;rw[hf];rfl) (.skip (.call _ (Az n [] bd (by show 0<n;omega) (by decide)) fun(b:Bool) hb=>.skip (.op () (if_pos ⟨hb0,by rw[hk];exact hb1⟩) (.op cb hcb (.skip ?_)))))
    rw[← hb]at hin;simp only[hmine,hin,Bool.false_or]at hsp;refine .br (fun g=>.skip (.call _ hrt fun(q:Int×Bool) hq=>.skip (.br (fun h=>by rw[hmine]at h;cases h) fun _=>.skip (.br (fun h2=>.skip (.tidy rfl (.inl (.done rfl ?_)))) fun h2=>.skip (.br (fun h3=>.skip (.tidy rfl (.inl (.done rfl ?_)))) fun h3=>.skip ?_))))) fun g=>.skip ?_
    ·rw[hsp,if_pos (by rw[show(!cb)=true from g];rfl),if_pos (by rw[h2];simp)];rfl
    ·subst hq;rw[hsp,if_pos (by rw[show(!cb)=true from g];rfl),if_pos (by rw[show(!q.2)=true from h3];simp)];rfl
    ·subst hq;have hspec:∀h:aF,h=Go.L.aF.mk t (Go.L.ah.mk r.N.IP 32) (-1) r.A.Next r.N.ee 0 q.1→o6 hm S=eV hm (s7 r own sq h):=fun h e=>by
      subst e;rw[hsp,if_pos (by rw[show(!cb)=true from g];rfl),if_neg (by rw[h2,show(!q.2)=false from h3];simp)];rfl
     refine .call _ hmob fun q hq=>.skip (.join (fun(x:Int)=>x=kV r own) ?_ fun x hx=>.skip (.join (fun(y:Int)=>y=kW r) ?_ fun y hy=>.skip (.inl (.cM _ (vJ n hn f own k cr us dm tn sb hm _) fun m hm2=>.tidy rfl (.inl (.done rfl ?_))))))
     ·refine .br (fun h=>.skip (.done rfl ?_)) fun h=>.skip (.done rfl ?_)
      ·unfold kV;rw[if_neg (by simpa using h)]
      ·unfold kV;rw[if_pos (by simpa using h)]
     ·refine .br (fun h=>.skip (.done rfl ?_)) fun h=>.skip (.done rfl ?_)
      ·unfold kW;rw[if_pos (show uF r.N.aA=true from h)]
      ·unfold kW;rw[if_neg (by rw[show uF r.N.aA=false from h];simp)]
     ·subst hx hy;rw[hm2,hq];exact(hspec _ rfl).symm
    ·rw[show(!cb)=false from g,Bool.false_or]at hsp;refine .br (fun g2=>.skip (.join (fun(x:Unit⊕(Int×Int×Int×Int×Int))=>match x with
      | .inl _=>o6 hm S=hm
      | .inr h=>∀m2,m2=eV hm (s7 r own sq (Go.L.aF.mk t (Go.L.ah.mk r.N.IP 32) h.1 h.2.1 h.2.2.1 h.2.2.2.1 h.2.2.2.2))→o6 hm S=m2) ?_ fun x hx=>?_)) fun g2=>.skip ?_
     ·rw[show(!b)=true from g2,Bool.true_and]at hsp;refine .br (fun g3=>.skip (.call _ hrt fun(q:Int×Bool) hq=>.skip (.br (fun h=>by rw[hmine]at h;cases h) fun _=>.skip (.br (fun h2=>.skip (.done rfl ?_)) fun h2=>.skip (.br (fun h3=>.skip (.done rfl ?_)) fun h3=>.skip (.done rfl ?_)))))) fun g3=>.skip (.done rfl ?_)
      ·show o6 hm S=hm;rw[hsp,if_pos g3,if_pos (by rw[h2];simp)];rfl
      ·show o6 hm S=hm;subst hq;rw[hsp,if_pos g3,if_pos (by rw[show(!q.2)=true from h3];simp)];rfl
      ·subst hq;intro m2 e;rw[e,hsp,if_pos g3,if_neg (by rw[h2,show(!q.2)=false from h3];simp)];rfl
      ·intro m2 e;rw[e,hsp,if_neg (by rw[g3];simp)];rfl
     ·cases x with
      |inl u=>exact .tidy rfl (.inl (.done rfl (show hm=o6 hm S from hx.symm)))
      |inr h=>
       refine .skip ?_;have hspec:∀h2:aF,h2=Go.L.aF.mk t (Go.L.ah.mk r.N.IP 32) h.1 h.2.1 h.2.2.1 h.2.2.2.1 h.2.2.2.2→o6 hm S=eV hm (s7 r own sq h2):=fun h2 e=>by
        subst e;exact hx _ rfl
       refine .call _ hmob fun q hq=>.skip (.join (fun(x:Int)=>x=kV r own) ?_ fun x hx=>.skip (.join (fun(y:Int)=>y=kW r) ?_ fun y hy=>.skip (.inl (.cM _ (vJ n hn f own k cr us dm tn sb hm _) fun m hm2=>.tidy rfl (.inl (.done rfl ?_))))))
       ·refine .br (fun h=>.skip (.done rfl ?_)) fun h=>.skip (.done rfl ?_)
        ·unfold kV;rw[if_neg (by simpa using h)]
        ·unfold kV;rw[if_pos (by simpa using h)]
       ·refine .br (fun h=>.skip (.done rfl ?_)) fun h=>.skip (.done rfl ?_)
        ·unfold kW;rw[if_pos (show uF r.N.aA=true from h)]
        ·unfold kW;rw[if_neg (by rw[show uF r.N.aA=false from h];simp)]
       ·subst hx hy;rw[hm2,hq];exact(hspec _ rfl).symm
     ·have hspec:∀h2:aF,h2=Go.L.aF.mk t (Go.L.ah.mk r.N.IP 32) bd 0 0 r.N.bO 0→o6 hm S=eV hm (s7 r own sq h2):=fun h2 e=>by
       subst e;rw[hsp,if_neg (by rw[show(!b)=false from g2];simp)];rfl
      refine .call _ hmob fun q hq=>.skip (.join (fun(x:Int)=>x=kV r own) ?_ fun x hx=>.skip (.join (fun(y:Int)=>y=kW r) ?_ fun y hy=>.skip (.inl (.cM _ (vJ n hn f own k cr us dm tn sb hm _) fun m hm2=>.tidy rfl (.inl (.done rfl ?_))))))
      ·refine .br (fun h=>.skip (.done rfl ?_)) fun h=>.skip (.done rfl ?_)
       ·unfold kV;rw[if_neg (by simpa using h)]
       ·unfold kV;rw[if_pos (by simpa using h)]
      ·refine .br (fun h=>.skip (.done rfl ?_)) fun h=>.skip (.done rfl ?_)
       ·unfold kW;rw[if_pos (show uF r.N.aA=true from h)]
       ·unfold kW;rw[if_neg (by rw[show uF r.N.aA=false from h];simp)]
      ·subst hx hy;rw[hm2,hq];exact(hspec _ rfl).symm
end Go.L
end
section
namespace Go.L
open Go.AM
def sv(r:aK):Bool:=(r.N.Kind==2)&&r.N.dG
def iT(f:aG)(own:Int)(cr:List Bool)(us:List (cA Int×List Int))(dm tn:List (Int×Int))(sb:List (aa×Bool))(ez:ah→Bool)(sq:Int)(rt:Int×Bool)(ts:List Int)(r:aK)(T:Int):List ai:=
 match getM cU T tn with
 |none=>[]
 |some t=>if sv r then(uu f own cr us dm t ez sq rt ts r).toList else(zu own t sb rt r).toList
def pX(f:aG)(own:Int)(cr:List Bool)(us:List (cA Int×List Int))(dm tn:List (Int×Int))(sb:List (aa×Bool))(ez:ah→Bool)(sq:Int)(rt:Int×Bool)(ts:List Int)(r:aK):List ai:=
 if sv r||(r.N.Kind==5)then ts.flatMap (iT f own cr us dm tn sb ez sq rt ts r)else[]
theorem HE(hm:List (aa×ai))(o:Option ai):o6 hm o=o.toList.foldl eV hm:=by cases o<;>rfl
theorem Pr(n:Nat)(hn:11≤n)(f:aG)(own:Int)(k:Nat)(cr:List Bool)(us:List (cA Int×List Int))(dm tn:List (Int×Int))(sb:List (aa×Bool))(hm:List (aa×ai))(ts:List Int)(r:aK)(ez:ah→Bool)(sq:Int)(rt:Int×Bool)
 (htg:At (dV.S n r.A.dy) (fun(q:List Int)=>q=ts)) (hrt:At (fP.S n r.A.dy) (fun(q:Int×Bool)=>q=rt)) (hmob:At (dW.S n r.A.dy) (fun(q:Bool×Int×Bool)=>q.2.1=sq))
 (hts:ts.length<100000) (htn:ts.length<n) (hdm:∀T bd,getM cU T dm=some bd→0≤bd∧bd<f.aR.length) (hcon:∀d∈f.aR,At (dQ.S n (d.bt,r.N.IP)) (fun(b:Bool)=>b=ez d.bt))
 (hk:k=f.aR.length) (hcr:cr.length=f.aR.length) (hus:∀e l,getM gI e us=some l→l.length<n∧l.length<100000):
 At (uR.c.S n (f,own,k,cr,us,dm,tn,sb,hm,r)) (fun m=>m=(pX f own cr us dm tn sb ez sq rt ts r).foldl eV hm):=by
 refine(?_ :cz n (pW f own k cr us dm tn sb hm r) _);unfold pW;have found:∀(T:Int) (x:Nat×Int),bh lB T tn 0=some x→getM cU T tn=some x.2:=fun T x h=>by unfold getM;rw[show bh cU T tn 0=some x from h];rfl
 have lost:∀(T:Int),bh lB T tn 0=none→getM cU T tn=none:=fun T h=>by unfold getM;rw[show bh cU T tn 0=none from h];rfl
 refine .skip (.br (fun k2=>.skip (.br (fun nip=>.skip (.br (fun k5=>.skip (.tidy rfl (.inl (.done rfl ?_)))) fun k5=>?_)) fun nip=>?_)) fun k2=>.skip (.br (fun k5=>.skip (.tidy rfl (.inl (.done rfl ?_)))) fun k5=>?_))
 ·have:pX f own cr us dm tn sb ez sq rt ts r=[]:=by
   unfold pX sv;rw[show r.N.dG=false by simpa using nip]
   rw[if_neg];simp only[bne_iff_ne]at k5;simp[k5]
  rw[this];rfl
 ·simp only[beq_iff_eq]at k2;rw[k2]at k5;exact absurd k5 (by decide)
 ·have hip:r.N.dG=true:=by simpa using nip
  have hh:sv r=true:=by unfold sv;rw[k2,hip];rfl
  have hR:pX f own cr us dm tn sb ez sq rt ts r=ts.flatMap (iT f own cr us dm tn sb ez sq rt ts r):=by unfold pX;rw[hh];rfl
  rw[hR];refine .skip (.call _ htg fun(q:List Int) hq=>?_)
  subst hq;refine .skip (.op () rfl (.skip (.loop (ep q fun pre m=>m=(pre.flatMap (iT f own cr us dm tn sb ez sq rt q r)).foldl eV hm) (fun a=>q.length - a.1.toNat) (fun m=>m=(q.flatMap (iT f own cr us dm tn sb ez sq rt q r)).foldl eV hm) rfl (ep.start rfl) (by simpa using htn) (fun a ha=>?_) (fun m hm2=>.tidy rfl (.inl (.done rfl hm2))))))
  refine .skip (.br (fun g=>?_) fun g=>.skip (.done rfl (ha.fin g)))
  obtain⟨T,pre,h1,h2,h3,_,h5⟩:=ha.get g;have next:∀m,m=(iT f own cr us dm tn sb ez sq rt q r T).foldl eV a.2→m=((pre++[T]).flatMap (iT f own cr us dm tn sb ez sq rt q r)).foldl eV hm:=fun m e=>by
   rw[e,List.flatMap_append,List.foldl_append,← h3];simp
  refine .skip (.op T h1 (.skip (.op () rfl (.skip ?_))));cases hf:bh lB T tn 0 with
  |none=>exact .br (fun _=>.skip (.done rfl (h5 hts _ (next _ (by unfold iT;rw[lost T hf];rfl))))) fun e=>by cases e
  |some x=>
   refine .br (fun e=>by cases e) fun _=>.skip (.join (fun m=>m=o6 a.2 (uu f own cr us dm x.2 ez sq rt q r)) ?_ fun m e=>.skip (.done rfl (h5 hts _ (next _ ?_))))
   ·exact .br (fun _=>.skip (.inl (.cM _ (QV n hn f own k cr us dm tn sb a.2 x.2 q r ez sq rt hrt hmob hts htn hdm hcon hk hcr hus) fun m e=>.done rfl e))) fun e=>by rw[hip]at e;cases e
   ·rw[e,HE];unfold iT;rw[found T x hf];simp only[hh,if_true]
 ·have:pX f own cr us dm tn sb ez sq rt ts r=[]:=by
   unfold pX sv;rw[k2,if_neg];simp only[bne_iff_ne]at k5;simp[k5]
  rw[this];rfl
 ·have hk5:r.N.Kind=5:=by simpa using k5
  have hh:sv r=false:=by unfold sv;rw[k2];rfl
  have hR:pX f own cr us dm tn sb ez sq rt ts r=ts.flatMap (iT f own cr us dm tn sb ez sq rt ts r):=by unfold pX;rw[hh,hk5];rfl
  rw[hR];refine .skip (.call _ htg fun(q:List Int) hq=>?_)
  subst hq;refine .skip (.op () rfl (.skip (.loop (ep q fun pre m=>m=(pre.flatMap (iT f own cr us dm tn sb ez sq rt q r)).foldl eV hm) (fun a=>q.length - a.1.toNat) (fun m=>m=(q.flatMap (iT f own cr us dm tn sb ez sq rt q r)).foldl eV hm) rfl (ep.start rfl) (by simpa using htn) (fun a ha=>?_) (fun m hm2=>.tidy rfl (.inl (.done rfl hm2))))))
  refine .skip (.br (fun g=>?_) fun g=>.skip (.done rfl (ha.fin g)))
  obtain⟨T,pre,h1,h2,h3,_,h5⟩:=ha.get g;have next:∀m,m=(iT f own cr us dm tn sb ez sq rt q r T).foldl eV a.2→m=((pre++[T]).flatMap (iT f own cr us dm tn sb ez sq rt q r)).foldl eV hm:=fun m e=>by
   rw[e,List.flatMap_append,List.foldl_append,← h3];simp
  refine .skip (.op T h1 (.skip (.op () rfl (.skip ?_))));cases hf:bh lB T tn 0 with
  |none=>exact .br (fun _=>.skip (.done rfl (h5 hts _ (next _ (by unfold iT;rw[lost T hf];rfl))))) fun e=>by cases e
  |some x=>
   refine .br (fun e=>by cases e) fun _=>.skip (.inl (.cM _ (N0 n hn f own k cr us dm tn sb a.2 x.2 r rt hrt) fun m e=>.skip (.done rfl (h5 hts _ (next _ ?_)))))
   rw[e,HE];unfold iT;rw[found T x hf];simp only[hh,Bool.false_eq_true,if_false]
end Go.L
end
section
namespace Go.L
open Go.AM
def jZ(x:aF):aa:=⟨x.au,x.ah⟩
def nW(k:bP)(x:aF):aF:=Go.L.aF.mk k.To x.ah x.BD x.Next x.dM x.bO x.dP
theorem EY(k:bP)(x:aF):jZ (nW k x)=⟨k.To,x.ah⟩:=rfl
def bU(aY:ah→ah→Bool)(k:bP)(s:List aF×List (aa×Bool))(x:aF):List aF×List (aa×Bool):=
 if x.au != k.From then s
 else if(getM bw ⟨k.To,x.ah⟩ s.2).getD false then s
 else if !aY k.ah x.ah then s
 else(s.1++[nW k x],bL bw ⟨k.To,x.ah⟩ true s.2)
def lC(own:List aF):List (aa×Bool):=own.foldl (fun m x=>bL bw (jZ x) true m) []
def F0(aY:ah→ah→Bool)(leaks:List bP)(own:List aF):List aF×List (aa×Bool):=leaks.foldl (fun s k=>own.foldl (bU aY k) s) (own,lC own)
def mw(aY:ah→ah→Bool)(k:bP)(all:List aF)(x:aF):Bool:=(x.au==k.From)&& !(decide ((⟨k.To,x.ah⟩:aa)∈all.map jZ))&&aY k.ah x.ah
def kX(aY:ah→ah→Bool)(own:List aF)(all:List aF)(k:bP):List aF:=all++(own.filter (mw aY k all)).map (nW k)
def z8(aY:ah→ah→Bool)(leaks:List bP)(own:List aF):List aF:=leaks.foldl (kX aY own) own
def Tk(s:List aF×List (aa×Bool)):Prop:=∀p,(getM bw p s.2).getD false=decide (p∈s.1.map jZ)
theorem Tk.add{s:List aF×List (aa×Bool)}(h:Tk s)(x:aF):Tk (s.1++[x],bL bw (jZ x) true s.2):=by
 intro p;rw[wK xX];by_cases hp:p=jZ x
 ·rw[if_pos hp];simp[hp]
 ·rw[if_neg hp,h p];simp only[List.map_append,List.map_cons,List.map_nil,List.mem_append,List.mem_singleton,hp,or_false]
theorem Pt(own:List aF):Tk (own,lC own):=by
 have:∀(l:List aF) (s:List aF×List (aa×Bool)),Tk s→Tk (s.1++l,l.foldl (fun m x=>bL bw (jZ x) true m) s.2):=by
  intro l;induction l with
  |nil=>intro s h;simpa using h
  |cons x l ih=>
   intro s h;have:=ih _ (h.add x);simpa using this
 have h:=this own ([],[]) (fun p=>by simp[Pp])
 simpa[lC]using h
theorem round_eq(aY:ah→ah→Bool)(k:bP):∀(own:List aF) (s:List aF×List (aa×Bool)),(own.map jZ).Nodup→Tk s→(own.foldl (bU aY k) s).1=kX aY own s.1 k∧Tk (own.foldl (bU aY k) s)
 | [],s,_,h=>⟨by simp[kX],h⟩
 |x::xs,s,hn,h=>by
  simp only[List.map_cons,List.nodup_cons]at hn;simp only[List.foldl_cons];have hc:mw aY k s.1 x=true∨mw aY k s.1 x=false:=by cases mw aY k s.1 x<;>simp
  rcases hc with hc |hc
  ·have hx:bU aY k s x=(s.1++[nW k x],bL bw ⟨k.To,x.ah⟩ true s.2):=by
    unfold mw at hc;simp only[Bool.and_eq_true,beq_iff_eq,Bool.not_eq_true',decide_eq_false_iff_not]at hc;unfold bU;rw[if_neg (by simp[hc.1.1]),if_neg (by rw[h];simpa using hc.1.2),if_neg (by simp[hc.2])]
   rw[hx];obtain⟨i1,i2⟩:=round_eq aY k xs (s.1++[nW k x],bL bw ⟨k.To,x.ah⟩ true s.2) hn.2 (h.add (nW k x));refine⟨?_,i2⟩;rw[i1];unfold kX;have hfr:x.au=k.From:=by
    unfold mw at hc;simp only[Bool.and_eq_true,beq_iff_eq]at hc;exact hc.1.1
   have:xs.filter (mw aY k (s.1++[nW k x]))=xs.filter (mw aY k s.1):=by
    apply List.filter_congr;intro y hy;unfold mw;by_cases hyt:y.au=k.From
    ·have hne:(⟨k.To,y.ah⟩:aa)≠jZ (nW k x):=by
      rw[EY];intro e;have e2:y.ah=x.ah:=by injection e
      exact hn.1 (List.mem_map.2 ⟨y,hy,by unfold jZ;rw[hyt,hfr,e2]⟩)
     simp only[List.map_append,List.map_cons,List.map_nil,List.mem_append,List.mem_singleton,hne,or_false]
    ·have hb:(y.au==k.From)=false:=by simpa using hyt
     simp only[hb,Bool.false_and]
   simp only[List.filter_cons,hc,if_true,List.map_cons,List.append_assoc,this,List.cons_append,List.nil_append]
  ·have hx:bU aY k s x=s:=by
    unfold mw at hc;unfold bU;by_cases h1:x.au=k.From
    ·rw[if_neg (by simp[h1])]
     by_cases h2:(⟨k.To,x.ah⟩:aa)∈s.1.map jZ
     ·rw[if_pos (by rw[h];simpa using h2)]
     ·rw[if_neg (by rw[h];simpa using h2)]
      have h3:aY k.ah x.ah=false:=by simpa[h1,h2]using hc
      rw[if_pos (by rw[h3];rfl)]
    ·rw[if_pos (by simpa using h1)]
   rw[hx];obtain⟨i1,i2⟩:=round_eq aY k xs s hn.2 h;refine⟨?_,i2⟩;rw[i1];unfold kX;simp only[List.filter_cons,hc,Bool.false_eq_true,if_false]
theorem JL(aY:ah→ah→Bool)(leaks:List bP)(own:List aF)(hn:(own.map jZ).Nodup):(F0 aY leaks own).1=z8 aY leaks own:=by
 have:∀(ls:List bP) (s:List aF×List (aa×Bool)),Tk s→(ls.foldl (fun s k=>own.foldl (bU aY k) s) s).1=ls.foldl (kX aY own) s.1:=by
  intro ls;induction ls with
  |nil=>intro s _;rfl
  |cons k ls ih=>
   intro s h;obtain⟨h1,h2⟩:=round_eq aY k own s hn h;simp only[List.foldl_cons];rw[ih _ h2,h1]
 exact this leaks _ (Pt own)
theorem Mu(aY:ah→ah→Bool){own own' all all':List aF}(h1:own.Perm own')(h2:all.Perm all')(k:bP):(kX aY own all k).Perm (kX aY own' all' k):=by
 unfold kX;have:mw aY k all=mw aY k all':=funext fun x=>by
  unfold mw;have:(⟨k.To,x.ah⟩:aa)∈all.map jZ↔(⟨k.To,x.ah⟩:aa)∈all'.map jZ:=(h2.map jZ).mem_iff;simp only[this]
 rw[this];exact h2.append ((h1.filter _).map _)
theorem F1(aY:ah→ah→Bool)(leaks:List bP){own own':List aF}(h:own.Perm own'):(z8 aY leaks own).Perm (z8 aY leaks own'):=by
 have:∀(ls:List bP) (a a':List aF),a.Perm a'→(ls.foldl (kX aY own) a).Perm (ls.foldl (kX aY own') a'):=by
  intro ls;induction ls with
  |nil=>intro a a' h;exact h
  |cons k ls ih=>intro a a' ha;exact ih _ _ (Mu aY h ha k)
 exact this leaks own own' h
theorem KF(aY:ah→ah→Bool){own all:List aF}(h1:(own.map jZ).Nodup)(h2:(all.map jZ).Nodup)(k:bP):((kX aY own all k).map jZ).Nodup:=by
 unfold kX;rw[List.map_append,List.nodup_append];refine⟨h2,?_,fun p hp q hq=>?_⟩
 ·have hsub:((own.filter (mw aY k all)).map jZ).Nodup:=(List.filter_sublist.map jZ).nodup h1;have hfrom:∀x∈own.filter (mw aY k all),x.au=k.From:=fun x hx=>by
   have:=(List.mem_filter.1 hx).2;unfold mw at this;simp only[Bool.and_eq_true,beq_iff_eq]at this;exact this.1.1
  generalize own.filter (mw aY k all)=l at hsub hfrom;induction l with
  |nil=>exact List.nodup_nil
  |cons x l ih=>
   simp only[List.map_cons,List.nodup_cons]at hsub ⊢;refine⟨fun hx=>?_,ih hsub.2 fun y hy=>hfrom y (List.mem_cons_of_mem _ hy)⟩
   obtain⟨y',hy',he⟩:=List.mem_map.1 hx;obtain⟨y,hy,rfl⟩:=List.mem_map.1 hy';rw[EY,EY]at he;have e2:y.ah=x.ah:=by injection he
   exact hsub.1 (List.mem_map.2 ⟨y,hy,by unfold jZ;rw[hfrom y (List.mem_cons_of_mem _ hy),hfrom x List.mem_cons_self,e2]⟩)
 ·rintro rfl;obtain⟨y',hy',rfl⟩:=List.mem_map.1 hq;obtain⟨y,hy,rfl⟩:=List.mem_map.1 hy';have:=(List.mem_filter.1 hy).2;unfold mw at this;simp only[Bool.and_eq_true,Bool.not_eq_true',decide_eq_false_iff_not]at this;exact this.1.2 hp
theorem AB(aY:ah→ah→Bool)(leaks:List bP){own:List aF}(h:(own.map jZ).Nodup):((z8 aY leaks own).map jZ).Nodup:=by
 have:∀(ls:List bP) (a:List aF),(a.map jZ).Nodup→((ls.foldl (kX aY own) a).map jZ).Nodup:=by
  intro ls;induction ls with
  |nil=>intro a h;exact h
  |cons k ls ih=>intro a ha;exact ih _ (KF aY h ha k)
 exact this leaks own h
end Go.L
end
section
namespace Go.L
open Go.AM
theorem Ew{K V:Type}{eq:K→K→Bool}(heq:∀a b,eq a b=true↔a=b)(l:List (K×V))(k:K)(v:V)(h:getM eq k (jS eq l)=some v):(k,v)∈l:=by
 have hd:∀(a b:K),Decidable (a=b):=fun a b=>decidable_of_iff _ (heq a b)
 have:∀(l:List (K×V)) (m:List (K×V)),getM eq k (l.foldl (fun m p=>bL eq p.1 p.2 m) m)=some v→(k,v)∈l∨getM eq k m=some v:=by
  intro l;induction l with
  |nil=>exact fun m h=>.inr h
  |cons p l ih=>
   intro m h;rcases ih _ h with h |h
   ·exact .inl (List.mem_cons_of_mem _ h)
   ·rw[wK heq]at h;split at h
    ·rename_i he;cases h;exact .inl (by rw[he];exact List.mem_cons_self)
    ·exact .inr h
 rcases this l [] h with h |h
 ·exact h
 ·cases h
theorem C5{α β:Type}{g:Nat→α→List β}{l:List α}{y:β}(h:y∈gW g l):∃i x,l[i]? =some x∧y∈g i x:=by
 unfold gW at h;obtain⟨p,hp,hy⟩:=List.mem_flatMap.1 h;exact⟨p.2,p.1,List.mem_zipIdx_iff_getElem?.1 hp,hy⟩
theorem Th(a b:Int):cU a b=true↔a=b:=by unfold cU;simp
theorem Ti(a b:cA Int):gI a b=true↔a=b:=by
 unfold gI;simp only[Bool.and_eq_true,beq_iff_eq,and_true];constructor
 ·rintro⟨h0,h1,h2,h3,h4,h5,h6,h7,h8,h9⟩;cases a;cases b;simp only at h0 h1 h2 h3 h4 h5 h6 h7 h8 h9;subst h0 h1 h2 h3 h4 h5 h6 h7 h8 h9;rfl
 ·rintro rfl;exact⟨rfl,rfl,rfl,rfl,rfl,rfl,rfl,rfl,rfl,rfl⟩
def Aa(f:aG)(self:Int):List Bool:=(List.range f.aR.length).map fun b=>decide (((b:Nat):Int)∈f.aH.flatMap (zo self))
def JN(f:aG)(self:Int)(up:List Bool)(es:Int→cA Int):List (cA Int×List Int):=jS gI (gW (xG self up es) f.aH)
def Lj(f:aG):List (Int×Int):=jS cU (gW (fun i d=>[(d.Target,(i:Int))]) f.aR)
def Qn(f:aG):List (Int×Int):=jS cU (gW (fun i t=>[(t.Target,(i:Int))]) f.bf)
def Qo(f:aG)(self:Int):List (aa×Bool):=(xo f (Aa f self)).foldl DR []
structure jT where
 lo:Int
 es:Int→cA Int
 ez:ah→Int→Bool
 aY:ah→ah→Bool
 tg:aK→List Int
 rt:aK→Int×Bool
 sq:aK→Int
def B5(f:aG)(self:Int)(up:List Bool)(K:jT)(r:aK):List ai:=
 pX f K.lo (Aa f self) (JN f self up K.es) (Lj f) (Qn f) (Qo f self) (fun p=>K.ez p r.N.IP) (K.sq r) (K.rt r) (K.tg r) r
def iK(f:aG)(self:Int)(up:List Bool)(K:jT)(rs:List aK):List ai:=xo f (Aa f self)++rs.flatMap (B5 f self up K)
def tr(f:aG)(self:Int)(up:List Bool)(K:jT)(rs:List aK):List (aa×ai):=(iK f self up K rs).foldl eV []
def oc(hm:List (aa×ai)):List aF:=hm.map fun e=>e.2.aF
theorem RI(f:aG)(T bd:Int)(h:getM cU T (Lj f)=some bd):0≤bd∧bd<f.aR.length:=by
 obtain⟨i,x,h1,h2⟩:=C5 (Ew Th _ _ _ h);simp only[List.mem_singleton,Prod.mk.injEq]at h2;have:=(List.getElem?_eq_some_iff.1 h1).1;omega
theorem RJ(f:aG)(self:Int)(up:List Bool)(es:Int→cA Int)(e:cA Int)(l:List Int)(h:getM gI e (JN f self up es)=some l):∃s∈f.aH,l=s.aR:=by
 obtain⟨i,x,h1,h2⟩:=C5 (Ew Ti _ _ _ h);unfold xG at h2;split at h2
 ·simp only[List.mem_singleton,Prod.mk.injEq]at h2;exact⟨x,List.mem_of_getElem? h1,h2.2⟩
 ·cases h2
theorem Mr.Sx{f:aG}{self:Int}{up:List Bool}{es:Int→cA Int}{lo:Int}{r:List Bool×List (cA Int×List Int)×List (Int×Int)×List (Int×Int)×List (aa×Bool)×List (aa×ai)×aG×Int×Nat}(h:Mr f self up es lo r):r.1=Aa f self:=by
 apply List.ext_getElem?;intro b;unfold Aa;by_cases hb:b<f.aR.length
 ·rw[h.cr b hb];simp[hb]
 ·rw[List.getElem?_eq_none (by rw[h.Tg];omega),List.getElem?_eq_none (by simp;omega)]
def rE(hm:List (aa×ai)):Prop:=(hm.map (·.1)).Nodup∧∀e∈hm,e.1=o8 e.2
theorem rE.put{hm:List (aa×ai)}(h:rE hm)(x:ai):rE (eV hm x):=by
 refine⟨(FX h.1 x).1,fun e he=>?_⟩
 unfold eV at he;have key:∀e∈bL bw (o8 x) x hm,e.1=o8 e.2:=fun e he=>by
  obtain⟨p,y⟩:=e;rcases(RH xX hm (o8 x) x h.1 p y).1 he with⟨rfl,rfl⟩ |⟨_,h2⟩
  ·rfl
  ·exact h.2 _ h2
 split at he
 ·exact key e he
 ·split at he
  ·exact key e he
  ·exact h.2 e he
theorem rE.fold{hm:List (aa×ai)}(h:rE hm):∀(cs:List ai),rE (cs.foldl eV hm)
 | []=>h
 |x::cs=>(h.put x).fold cs
theorem C6:∀(cs:List ai) (hm:List (aa×ai)),(hm.map (·.1)).Nodup→(cs.foldl eV hm).length≤hm.length+cs.length
 | [],hm,_=>Nat.le_refl _
 |x::cs,hm,h=>by
  have h1:=FX h x;have h2:=C6 cs (eV hm x) h1.1;simp only[List.foldl_cons,List.length_cons];omega
theorem yJ(f:aG)(self:Int)(up:List Bool)(K:jT)(rs:List aK):rE (tr f self up K rs):=rE.fold (hm:=[]) ⟨List.nodup_nil,fun _ h=>by cases h⟩ _
theorem yz{hm:List (aa×ai)}(h:rE hm):((oc hm).map jZ).Nodup:=by
 have:(oc hm).map jZ=hm.map (·.1):=by
  unfold oc;rw[List.map_map];apply List.map_congr_left;intro e he;exact(h.2 e he).symm
 rw[this];exact h.1
def SZ:aF:=Go.L.aF.mk 0 (Go.L.ah.mk 0 0) 0 0 0 0 0
def JO(hm:List (aa×ai))(i:Nat):aF:=((hm[i]?).map fun e=>e.2.aF).getD SZ
theorem Mv(hm:List (aa×ai)):(List.range hm.length).map (JO hm)=oc hm:=by
 apply List.ext_getElem
 ·simp[oc]
 ·intro i h1 h2;have h:i<hm.length:=by simpa using h1
  simp[JO,oc,h]
end Go.L
end
section
namespace Go.L
open Go.AM
structure C7(n:Nat)(f:aG)(leaf:Int)(up:List Bool)(rs:List aK)(K:jT)(srt:List aF→List aF):Prop where
 hn:11≤n
 ck:At (gm.S n f) (fun(r:Int×ByteArray×Int)=>r.1=0)
 h0:0≤leaf
 h1:leaf<f.Leaves
 lo:At (mO.S n (f,leaf)) (fun r=>r=K.lo)
 seg:FY n f
 es:∀i:Nat,i<f.aH.length→At (kI.S n (i:Int)) (fun(r:cA Int×Int)=>r.1=K.es i)
 rl:rs.length<100000
 rn:rs.length<n
 tg:∀r∈rs,At (dV.S n r.A.dy) (fun(q:List Int)=>q=K.tg r)
 rt:∀r∈rs,At (fP.S n r.A.dy) (fun(q:Int×Bool)=>q=K.rt r)
 sq:∀r∈rs,At (dW.S n r.A.dy) (fun(q:Bool×Int×Bool)=>q.2.1=K.sq r)
 tl:∀r∈rs,(K.tg r).length<100000∧(K.tg r).length<n
 ez:∀r∈rs,∀d∈f.aR,At (dQ.S n (d.bt,r.N.IP)) (fun(b:Bool)=>b=K.ez d.bt r.N.IP)
 aY:∀k∈f.Leaks,∀p,At (mL.S n (k.ah,p)) (fun(b:Bool)=>b=K.aY k.ah p)
 kl:f.Leaks.length<100000
 kn:f.Leaks.length<n
 cs:(iK f leaf up K rs).length<90000
 sz:((iK f leaf up K rs).length+1)*(f.Leaks.length+2)<1000000000
 cn:(iK f leaf up K rs).length+1<n
 so:∀l:List aF,l.length<1000000000→At (l8.S n l) (fun r=>r=srt l)
 sl:∀l:List aF,(srt l).length=l.length
theorem N2(aY:ah→ah→Bool)(k:bP)(s:List aF×List (aa×Bool))(x:aF):(bU aY k s x).1.length≤s.1.length+1∧∃e,(bU aY k s x).1=s.1++e:=by
 unfold bU;split
 ·exact⟨Nat.le_succ _,[],by simp⟩
 split
 ·exact⟨Nat.le_succ _,[],by simp⟩
 split
 ·exact⟨Nat.le_succ _,[],by simp⟩
 ·exact⟨by simp,[nW k x],rfl⟩
theorem nE(aY:ah→ah→Bool)(k:bP):∀(p:List aF) (s:List aF×List (aa×Bool)),(p.foldl (bU aY k) s).1.length≤s.1.length+p.length∧∃e,(p.foldl (bU aY k) s).1=s.1++e
 | [],s=>⟨Nat.le_refl _,[],by simp⟩
 |x::p,s=>by
  obtain⟨h1,e1,h2⟩:=N2 aY k s x;obtain⟨h3,e3,h4⟩:=nE aY k p (bU aY k s x);simp only[List.foldl_cons,List.length_cons];exact⟨by omega,e1++e3,by rw[h4,h2,List.append_assoc]⟩
def fS(aY:ah→ah→Bool)(own:List aF)(pre:List bP):List aF×List (aa×Bool):=pre.foldl (fun s k=>own.foldl (bU aY k) s) (own,lC own)
theorem sy(aY:ah→ah→Bool)(own:List aF):∀(pre:List bP) (s:List aF×List (aa×Bool)),(pre.foldl (fun s k=>own.foldl (bU aY k) s) s).1.length≤s.1.length+pre.length*own.length∧∃e,(pre.foldl (fun s k=>own.foldl (bU aY k) s) s).1=s.1++e
 | [],s=>⟨by simp,[],by simp⟩
 |k::pre,s=>by
  obtain⟨h1,e1,h2⟩:=nE aY k own s;obtain⟨h3,e3,h4⟩:=sy aY own pre (own.foldl (bU aY k) s);simp only[List.foldl_cons,List.length_cons];refine⟨?_,e1++e3,by rw[h4,h2,List.append_assoc]⟩
  rw[Nat.add_mul];omega
abbrev Ex:=List (aa×Bool)
def rF:(Int×List aF×Ex)⊕(Int×List aF×List aF×Ex)→Int×(List aF×Ex)
 | .inl a=>(a.1,a.2.1,a.2.2)
 | .inr a=>(a.1,a.2.2.1,a.2.2.2)
def B6:(Int×List aF×Ex)⊕(Int×List aF×List aF×Ex)→List aF
 | .inl a=>a.2.1
 | .inr a=>a.2.1
def DS:(List aF×Ex)⊕(List aF×List aF×Ex)→List aF×Ex
 | .inl a=>a
 | .inr a=>a.2
def DU:(List aF×Ex)⊕(List aF×List aF×Ex)→List aF
 | .inl a=>a.1
 | .inr a=>a.1
def Pre(own l:List aF):Prop:=∃e,l=own++e
theorem Pre.get{own l:List aF}(h:Pre own l){i:Nat}{x:aF}(hx:own[i]? =some x):l[i]? =some x:=by
 obtain⟨e,rfl⟩:=h;rw[List.getElem?_append_left (List.getElem?_eq_some_iff.1 hx).1];exact hx
theorem Pre.snoc{own l:List aF}(h:Pre own l)(x:aF):Pre own (l++[x]):=by
 obtain⟨e,rfl⟩:=h;exact⟨e++[x],by rw[List.append_assoc]⟩
theorem Pu(n:Nat)(f:aG)(leaf:Int)(up:List Bool)(rs:List aK)(K:jT)(srt:List aF→List aF)(H:C7 n f leaf up rs K srt):
 dK n (pZ f leaf up rs) (fun r=>∃own:List aF,own.Perm (oc (tr f leaf up K rs))∧r=srt (F0 K.aY f.Leaks own).1):=by
 unfold pZ;have hn0:0<n:=by have:=H.hn;omega
 have hnew:At (sr.c.S n (f,leaf,up)) (fun r=>r=(Aa f leaf,JN f leaf up K.es,Lj f,Qn f,[],[],f,K.lo,f.aR.length)):=
  (Ig n f leaf K.lo up K.es H.lo H.seg H.es).mono fun r h=>by
   have h1:=h.Sx;obtain⟨a1,a2,a3,a4,a5,a6,a7,a8,a9⟩:=r;have:=h.us;have:=h.dm;have:=h.tn;have:=h.sb;have:=h.hm;have:=h.fb;have:=h.own;have:=h.len;simp only at*
   subst_vars;rfl
 have hcrl:(Aa f leaf).length=f.aR.length:=by simp[Aa]
 refine .skip (.call _ H.ck fun r5 h5=>.skip (.br (fun h=>by rw[h5]at h;cases h) fun _=>.skip (.br (fun h=>absurd H.h0 (by simpa using h)) fun _=>.skip (.br (fun h=>absurd H.h1 (by simpa using h)) fun _=>.skip (.inl (.cM _ hnew fun r9 h9=>?_))))))
 subst h9;refine .skip (.inl (.cM _ (JK n H.hn f K.lo _ _ _ _ _ _ _ H.seg.b H.seg.bn rfl hcrl) fun r10 h10=>?_))
 subst h10;have hdm:=RI f;have hus:∀e l,getM gI e (JN f leaf up K.es)=some l→l.length<n∧l.length<100000:=fun e l h=>by
  obtain⟨s,hs,rfl⟩:=RJ f leaf up K.es e l h;obtain⟨_,_,q3,q4,_⟩:=H.seg.s s hs;exact⟨q3,q4⟩
 refine .skip (.op () rfl (.skip (.loop (ep rs fun pre m=>m=(pre.flatMap (B5 f leaf up K)).foldl eV ((xo f (Aa f leaf)).foldl eV [])) (fun a=>rs.length - a.1.toNat) (fun m=>m=tr f leaf up K rs) rfl (ep.start rfl) (by simpa using H.rn) (fun a ha=>?_) (fun t26 h26=>?_))))
 ·refine .skip (.br (fun g=>?_) fun g=>.skip (.done rfl ?_))
  ·obtain⟨r,pre,g1,g2,g3,_,g5⟩:=ha.get g;obtain⟨l1,l2⟩:=H.tl r g2;refine .skip (.op r g1 (.skip (.inl (.cM _ (Pr n H.hn f K.lo _ _ _ _ _ _ a.2 (K.tg r) r (fun p=>K.ez p r.N.IP) (K.sq r) (K.rt r) (H.tg r g2) (H.rt r g2) (H.sq r g2) l1 l2 hdm (H.ez r g2) rfl hcrl hus) fun m hm=>.skip (.done rfl (g5 H.rl _ ?_))))))
   rw[hm,g3,List.flatMap_append,List.foldl_append,List.flatMap_cons,List.flatMap_nil,List.append_nil];rfl
  ·have:=ha.fin g;show a.2=tr f leaf up K rs;rw[this];unfold tr iK;rw[List.foldl_append]
 subst h26;generalize hhm:tr f leaf up K rs=hm;have hkey:rE hm:=hhm▸yJ f leaf up K rs;have hlen:hm.length≤(iK f leaf up K rs).length:=by
  rw[← hhm];unfold tr;simpa using C6 (iK f leaf up K rs) [] (by simp)
 have hsz:=H.sz;have hcn:=H.cn;have hcs:=H.cs;have hsm:hm.length<90000:=by omega
 have hroom:roomy (Int.toNat (((List.length hm):Nat):Int)) 56=true:=by
  simp only[roomy,Bool.and_eq_true,decide_eq_true_eq,Int.toNat_natCast];omega
 refine .skip (.inl (.skip (.op () rfl (.op () (if_pos ⟨Int.natCast_nonneg _,hroom⟩) (.skip (.op () rfl (.skip ?_)))))));refine .loop (fun a=>a.2.2.Nodup∧(∀i∈a.2.2,i<hm.length)∧a.1=a.2.2.map (JO hm)∧a.2.1=lC a.1) (fun a=>hm.length - a.2.2.length) (fun t=>t.1.Perm (oc hm)∧t.2.1=lC t.1) rfl ⟨List.nodup_nil,(fun i (h:i∈([]:List Nat))=>(List.not_mem_nil h).elim),rfl,rfl⟩ (by show hm.length - 0<n;omega) (fun a ha=>?_) (fun t42 h42=>?_)
 ·obtain⟨hnd,hlt,hk,htk⟩:=ha;refine .pick (fun hall=>.skip (.done rfl ⟨?_,htk⟩)) (fun i hi hns=>?_)
  ·show a.1.Perm _;rw[hk,← Mv];exact(N1 hnd hlt hall).map _
  ·have hi':i<hm.length:=hi;have hl2:a.2.2.length<hm.length:=by
    have h1:(a.2.2++[i]).Nodup:=by
     rw[List.nodup_append];exact⟨hnd,by simp,fun x hx y hy=>by simp only[List.mem_singleton]at hy;subst hy;rintro rfl;exact hns hx⟩
    have h2:(a.2.2++[i]).length≤hm.length:=by
     have:=List.Nodup.length_le_of_subset h1 (l₂:=List.range hm.length) (fun x hx=>by
      rcases List.mem_append.1 hx with h |h
      ·exact List.mem_range.2 (hlt x h)
      ·simp only[List.mem_singleton]at h;subst h;exact List.mem_range.2 hi')
     simpa using this
    simp at h2;omega
   have hal:a.1.length=a.2.2.length:=by rw[hk];simp
   have r1:roomy (a.1.length+[(hm[i]'hi').2.aF].length) 56=true:=by
    simp only[roomy,Bool.and_eq_true,decide_eq_true_eq,List.length_singleton];omega
   have r2:(a.2.2++[i]).Nodup:=by
    rw[List.nodup_append];exact⟨hnd,by simp,fun x hx y hy=>by simp only[List.mem_singleton]at hy;subst hy;rintro rfl;exact hns hx⟩
   have r3:∀x∈a.2.2++[i],x<hm.length:=fun x hx=>by
    rcases List.mem_append.1 hx with h |h
    ·exact hlt x h
    ·simp only[List.mem_singleton]at h;subst h;exact hi'
   have r4:a.1++[(hm[i]'hi').2.aF]=(a.2.2++[i]).map (JO hm):=by
    rw[List.map_append,← hk];simp[JO,hi']
   have r5:bL bw (hm[i]'hi').1 true a.2.1=lC (a.1++[(hm[i]'hi').2.aF]):=by
    rw[htk,hkey.2 _ (List.getElem_mem hi')];simp[lC,jZ,o8]
   have r6:hm.length - (a.2.2++[i]).length<hm.length - a.2.2.length:=by simp;omega
   exact .skip (.op (hm[i]'hi') (List.getElem?_eq_getElem hi') (.skip (.op () (if_pos ⟨rfl,r1⟩) (.skip (.op () rfl (.done rfl ⟨⟨r2,r3,r4,r5⟩,r6⟩))))))
 obtain⟨own,tk,seen⟩:=t42;obtain⟨hperm,htk⟩:=h42;simp only at hperm htk;subst htk;have hol:own.length=hm.length:=by rw[hperm.length_eq];simp[oc]
 have hkl:=H.kl;have bound:∀(a b:Nat),a≤f.Leaks.length→b≤own.length→own.length+a*own.length+b<1000000000:=fun a b h1 h2=>by
  have h3:a*own.length≤f.Leaks.length*own.length:=Nat.mul_le_mul_right _ h1;have h4:((iK f leaf up K rs).length+1)*(f.Leaks.length+2)=f.Leaks.length*((iK f leaf up K rs).length+1)+2*((iK f leaf up K rs).length+1):=by rw[Nat.mul_comm,Nat.add_mul]
  have h5:f.Leaks.length*own.length≤f.Leaks.length*((iK f leaf up K rs).length+1):=Nat.mul_le_mul_left _ (by omega)
  omega
 refine .skip (.op () rfl (.skip (.nV (fun a=>ep f.Leaks (fun pre s=>s=fS K.aY own pre) (rF a)∧Pre own (B6 a)) (fun a=>f.Leaks.length - (rF a).1.toNat) (fun l=>l=(F0 K.aY f.Leaks own).1) rfl ⟨ep.start rfl,[],(List.append_nil _).symm⟩ (by have:=H.kn;show f.Leaks.length - 0<n;omega) (fun a ha=>?_) (fun t80 h80=>?_))))
 ·have hol9:own.length<100000:=by omega
  cases a with
  |inl a=>
   obtain⟨ha,hbase⟩:=ha;refine .skip (.br (fun g=>?_) fun g=>.skip (.done rfl (congrArg Prod.fst (ha.fin g))))
   obtain⟨k,pre,g1,g2,g3,⟨gi,gpost,hgp⟩,g5⟩:=ha.get g;have g3:(a.2.1,a.2.2)=fS K.aY own pre:=g3;have hprl:pre.length≤f.Leaks.length:=by
    have:=congrArg List.length hgp;simp only[List.length_append,List.length_cons]at this;omega
   refine .skip (.op k g1 (.skip (.nV (fun a2=>ep own (fun p s=>s=p.foldl (bU K.aY k) (fS K.aY own pre)) (rF a2)∧Pre own (B6 a2)) (fun a2=>own.length - (rF a2).1.toNat) (fun e=>DS e=own.foldl (bU K.aY k) (fS K.aY own pre)∧Pre own (DU e)) rfl ⟨ep.start g3,hbase⟩ (by show own.length - 0<n;omega) (fun a2 ha2=>?_) (fun e he=>?_))))
   ·cases a2 with
    |inl b=>
     refine .skip (.br (fun c=>?_) fun c=>.skip (.done rfl ⟨ha2.1.fin c,ha2.2⟩))
     obtain⟨x,p,c1,c2,c3,⟨ci,cpost,hcp⟩,c5⟩:=ha2.1.get c;have ci:b.1=((p.length:Nat):Int):=ci;have hpl:p.length<own.length:=by
      have:=congrArg List.length hcp;simp only[List.length_append,List.length_cons]at this;omega
     have hxi:own[b.1.toNat]? =some x:=by
      have c1:jd own b.1=some x:=c1;rw[ci,cK]at c1;rw[ci];exact c1
     have hx1:=ha2.2.get hxi;have c3:(b.2.1,b.2.2)=p.foldl (bU K.aY k) (fS K.aY own pre):=c3;have hbound:(b.2.1).length<1000000000:=by
      have b1:=(nE K.aY k p (fS K.aY own pre)).1;have b2:=(sy K.aY own pre (own,lC own)).1;have b3:=bound pre.length p.length hprl (by omega)
      rw[← c3]at b1;have b2:(fS K.aY own pre).1.length≤own.length+pre.length*own.length:=b2;simp only at b1;omega
     have hroom1:roomy ((b.2.1).length+1) 56=true:=by
      simp only[roomy,Bool.and_eq_true,decide_eq_true_eq];omega
     have step:∀s',s'=bU K.aY k (b.2.1,b.2.2) x→s'=(p++[x]).foldl (bU K.aY k) (fS K.aY own pre):=fun s' e=>by
      rw[e,c3,List.foldl_append];rfl
     have hi0:0≤b.1∧b.1<((own.length:Nat):Int):=by omega
     have keep:bU K.aY k (b.2.1,b.2.2) x=(b.2.1,b.2.2)→_:=fun e=>(⟨⟨(c5 hol9 _ (step _ e.symm)).1,ha2.2⟩,(c5 hol9 _ (step _ e.symm)).2⟩:pV (fun a2=>ep own (fun p s=>s=p.foldl (bU K.aY k) (fS K.aY own pre)) (rF a2)∧Pre own (B6 a2)) (fun a2=>own.length - (rF a2).1.toNat) (fun e=>DS e=own.foldl (bU K.aY k) (fS K.aY own pre)∧Pre own (DU e)) (.inl b) (.inl (.inl (Go.IntKind.wrap .i64 (b.1+1),b.2.1,b.2.2))))
     refine .skip (.op () (if_pos hi0) (.op x hx1 (.skip (.br (fun d1=>.skip (.done rfl (keep (by unfold bU;rw[if_pos d1])))) fun d1=>.skip (.op () rfl (.skip (.br (fun d2=>.skip (.done rfl (keep ?_))) fun d2=>.skip (.call _ (H.aY k g2 x.ah) fun(r68:Bool) h68=>.skip (.br (fun d3=>.skip (.done rfl (keep ?_))) fun d3=>.skip (.op () rfl (.skip ?_)))))))))))
     ·have d2:(getM bw ⟨k.To,x.ah⟩ b.2.2).getD false=true:=d2;unfold bU;rw[if_neg (by rw[d1];simp),if_pos d2]
     ·have d2:(getM bw ⟨k.To,x.ah⟩ b.2.2).getD false=false:=d2;unfold bU;rw[if_neg (by rw[d1];simp),if_neg (by rw[d2];simp),if_pos (by rw[← h68];exact d3)]
     have d2:(getM bw ⟨k.To,x.ah⟩ b.2.2).getD false=false:=d2;have e:bU K.aY k (b.2.1,b.2.2) x=(b.2.1++[nW k x],bL bw ⟨k.To,x.ah⟩ true b.2.2):=by
      unfold bU;rw[if_neg (by rw[d1];simp),if_neg (by rw[d2];simp),if_neg (by rw[← h68,d3];simp)]
     have hok:GK.ok {l:=b.2.1,m:=[nW k x],enc:=dz,n:=8,bytes:=56,b:=7,ak:=0,len:=List.length b.2.1}=true:=by
      show(decide ((b.2.1).length=(b.2.1).length)&&roomy ((b.2.1).length+1) 56)=true;rw[hroom1];simp
     refine .grow hok (.skip (.done rfl ⟨⟨(c5 hol9 _ (step _ e.symm)).1,ha2.2.snoc _⟩,(c5 hol9 _ (step _ e.symm)).2⟩)) (.skip (.done rfl ⟨⟨(c5 hol9 _ (step _ e.symm)).1,ha2.2⟩,(c5 hol9 _ (step _ e.symm)).2⟩))
    |inr b=>
     refine .skip (.br (fun c=>?_) fun c=>.skip (.done rfl ⟨ha2.1.fin c,ha2.2⟩))
     obtain⟨x,p,c1,c2,c3,⟨ci,cpost,hcp⟩,c5⟩:=ha2.1.get c;have ci:b.1=((p.length:Nat):Int):=ci;have hpl:p.length<own.length:=by
      have:=congrArg List.length hcp;simp only[List.length_append,List.length_cons]at this;omega
     have hxi:own[b.1.toNat]? =some x:=by
      have c1:jd own b.1=some x:=c1;rw[ci,cK]at c1;rw[ci];exact c1
     have hx1:=ha2.2.get hxi;have c3:(b.2.2.1,b.2.2.2)=p.foldl (bU K.aY k) (fS K.aY own pre):=c3;have hbound:(b.2.2.1).length<1000000000:=by
      have b1:=(nE K.aY k p (fS K.aY own pre)).1;have b2:=(sy K.aY own pre (own,lC own)).1;have b3:=bound pre.length p.length hprl (by omega)
      rw[← c3]at b1;have b2:(fS K.aY own pre).1.length≤own.length+pre.length*own.length:=b2;simp only at b1;omega
     have hroom1:roomy ((b.2.2.1).length+1) 56=true:=by
      simp only[roomy,Bool.and_eq_true,decide_eq_true_eq];omega
     have step:∀s',s'=bU K.aY k (b.2.2.1,b.2.2.2) x→s'=(p++[x]).foldl (bU K.aY k) (fS K.aY own pre):=fun s' e=>by
      rw[e,c3,List.foldl_append];rfl
     have hi0:0≤b.1∧b.1<((own.length:Nat):Int):=by omega
     have keep:bU K.aY k (b.2.2.1,b.2.2.2) x=(b.2.2.1,b.2.2.2)→_:=fun e=>(⟨⟨(c5 hol9 _ (step _ e.symm)).1,ha2.2⟩,(c5 hol9 _ (step _ e.symm)).2⟩:pV (fun a2=>ep own (fun p s=>s=p.foldl (bU K.aY k) (fS K.aY own pre)) (rF a2)∧Pre own (B6 a2)) (fun a2=>own.length - (rF a2).1.toNat) (fun e=>DS e=own.foldl (bU K.aY k) (fS K.aY own pre)∧Pre own (DU e)) (.inr b) (.inl (.inr (Go.IntKind.wrap .i64 (b.1+1),b.2.1,b.2.2.1,b.2.2.2))))
     refine .skip (.op () (if_pos hi0) (.op x hx1 (.skip (.br (fun d1=>.skip (.done rfl (keep (by unfold bU;rw[if_pos d1])))) fun d1=>.skip (.op () rfl (.skip (.br (fun d2=>.skip (.done rfl (keep ?_))) fun d2=>.skip (.call _ (H.aY k g2 x.ah) fun(r68:Bool) h68=>.skip (.br (fun d3=>.skip (.done rfl (keep ?_))) fun d3=>.skip (.op () rfl (.skip ?_)))))))))))
     ·have d2:(getM bw ⟨k.To,x.ah⟩ b.2.2.2).getD false=true:=d2;unfold bU;rw[if_neg (by rw[d1];simp),if_pos d2]
     ·have d2:(getM bw ⟨k.To,x.ah⟩ b.2.2.2).getD false=false:=d2;unfold bU;rw[if_neg (by rw[d1];simp),if_neg (by rw[d2];simp),if_pos (by rw[← h68];exact d3)]
     have d2:(getM bw ⟨k.To,x.ah⟩ b.2.2.2).getD false=false:=d2;have e:bU K.aY k (b.2.2.1,b.2.2.2) x=(b.2.2.1++[nW k x],bL bw ⟨k.To,x.ah⟩ true b.2.2.2):=by
      unfold bU;rw[if_neg (by rw[d1];simp),if_neg (by rw[d2];simp),if_neg (by rw[← h68,d3];simp)]
     refine .op () (if_pos ⟨rfl,hroom1⟩) (.skip (.done rfl ⟨⟨(c5 hol9 _ (step _ e.symm)).1,ha2.2⟩,(c5 hol9 _ (step _ e.symm)).2⟩))
   ·have hP:∀s',s'=own.foldl (bU K.aY k) (fS K.aY own pre)→s'=fS K.aY own (pre++[k]):=fun s' e=>by rw[e];unfold fS;rw[List.foldl_append];rfl
    cases e with
    |inl t=>exact .skip (.done rfl ⟨⟨(g5 hkl _ (hP _ he.1)).1,he.2⟩,(g5 hkl _ (hP _ he.1)).2⟩)
    |inr t=>exact .skip (.done rfl ⟨⟨(g5 hkl _ (hP _ he.1)).1,he.2⟩,(g5 hkl _ (hP _ he.1)).2⟩)
  |inr a=>
   obtain⟨ha,hbase⟩:=ha;refine .skip (.br (fun g=>?_) fun g=>.skip (.done rfl (congrArg Prod.fst (ha.fin g))))
   obtain⟨k,pre,g1,g2,g3,⟨gi,gpost,hgp⟩,g5⟩:=ha.get g;have g3:(a.2.2.1,a.2.2.2)=fS K.aY own pre:=g3;have hprl:pre.length≤f.Leaks.length:=by
    have:=congrArg List.length hgp;simp only[List.length_append,List.length_cons]at this;omega
   refine .skip (.op k g1 (.skip (.nV (fun a2=>ep own (fun p s=>s=p.foldl (bU K.aY k) (fS K.aY own pre)) (rF a2)∧Pre own (B6 a2)) (fun a2=>own.length - (rF a2).1.toNat) (fun e=>DS e=own.foldl (bU K.aY k) (fS K.aY own pre)∧Pre own (DU e)) rfl ⟨ep.start g3,hbase⟩ (by show own.length - 0<n;omega) (fun a2 ha2=>?_) (fun e he=>?_))))
   ·cases a2 with
    |inl b=>
     refine .skip (.br (fun c=>?_) fun c=>.skip (.done rfl ⟨ha2.1.fin c,ha2.2⟩))
     obtain⟨x,p,c1,c2,c3,⟨ci,cpost,hcp⟩,c5⟩:=ha2.1.get c;have ci:b.1=((p.length:Nat):Int):=ci;have hpl:p.length<own.length:=by
      have:=congrArg List.length hcp;simp only[List.length_append,List.length_cons]at this;omega
     have hxi:own[b.1.toNat]? =some x:=by
      have c1:jd own b.1=some x:=c1;rw[ci,cK]at c1;rw[ci];exact c1
     have hx1:=ha2.2.get hxi;have c3:(b.2.1,b.2.2)=p.foldl (bU K.aY k) (fS K.aY own pre):=c3;have hbound:(b.2.1).length<1000000000:=by
      have b1:=(nE K.aY k p (fS K.aY own pre)).1;have b2:=(sy K.aY own pre (own,lC own)).1;have b3:=bound pre.length p.length hprl (by omega)
      rw[← c3]at b1;have b2:(fS K.aY own pre).1.length≤own.length+pre.length*own.length:=b2;simp only at b1;omega
     have hroom1:roomy ((b.2.1).length+1) 56=true:=by
      simp only[roomy,Bool.and_eq_true,decide_eq_true_eq];omega
     have step:∀s',s'=bU K.aY k (b.2.1,b.2.2) x→s'=(p++[x]).foldl (bU K.aY k) (fS K.aY own pre):=fun s' e=>by
      rw[e,c3,List.foldl_append];rfl
     have hi0:0≤b.1∧b.1<((own.length:Nat):Int):=by omega
     have keep:bU K.aY k (b.2.1,b.2.2) x=(b.2.1,b.2.2)→_:=fun e=>(⟨⟨(c5 hol9 _ (step _ e.symm)).1,ha2.2⟩,(c5 hol9 _ (step _ e.symm)).2⟩:pV (fun a2=>ep own (fun p s=>s=p.foldl (bU K.aY k) (fS K.aY own pre)) (rF a2)∧Pre own (B6 a2)) (fun a2=>own.length - (rF a2).1.toNat) (fun e=>DS e=own.foldl (bU K.aY k) (fS K.aY own pre)∧Pre own (DU e)) (.inl b) (.inl (.inl (Go.IntKind.wrap .i64 (b.1+1),b.2.1,b.2.2))))
     refine .skip (.op () (if_pos hi0) (.op x hx1 (.skip (.br (fun d1=>.skip (.done rfl (keep (by unfold bU;rw[if_pos d1])))) fun d1=>.skip (.op () rfl (.skip (.br (fun d2=>.skip (.done rfl (keep ?_))) fun d2=>.skip (.call _ (H.aY k g2 x.ah) fun(r68:Bool) h68=>.skip (.br (fun d3=>.skip (.done rfl (keep ?_))) fun d3=>.skip (.op () rfl (.skip ?_)))))))))))
     ·have d2:(getM bw ⟨k.To,x.ah⟩ b.2.2).getD false=true:=d2;unfold bU;rw[if_neg (by rw[d1];simp),if_pos d2]
     ·have d2:(getM bw ⟨k.To,x.ah⟩ b.2.2).getD false=false:=d2;unfold bU;rw[if_neg (by rw[d1];simp),if_neg (by rw[d2];simp),if_pos (by rw[← h68];exact d3)]
     have d2:(getM bw ⟨k.To,x.ah⟩ b.2.2).getD false=false:=d2;have e:bU K.aY k (b.2.1,b.2.2) x=(b.2.1++[nW k x],bL bw ⟨k.To,x.ah⟩ true b.2.2):=by
      unfold bU;rw[if_neg (by rw[d1];simp),if_neg (by rw[d2];simp),if_neg (by rw[← h68,d3];simp)]
     have hok:GK.ok {l:=b.2.1,m:=[nW k x],enc:=dz,n:=8,bytes:=56,b:=7,ak:=0,len:=List.length b.2.1}=true:=by
      show(decide ((b.2.1).length=(b.2.1).length)&&roomy ((b.2.1).length+1) 56)=true;rw[hroom1];simp
     refine .grow hok (.skip (.done rfl ⟨⟨(c5 hol9 _ (step _ e.symm)).1,ha2.2.snoc _⟩,(c5 hol9 _ (step _ e.symm)).2⟩)) (.skip (.done rfl ⟨⟨(c5 hol9 _ (step _ e.symm)).1,ha2.2⟩,(c5 hol9 _ (step _ e.symm)).2⟩))
    |inr b=>
     refine .skip (.br (fun c=>?_) fun c=>.skip (.done rfl ⟨ha2.1.fin c,ha2.2⟩))
     obtain⟨x,p,c1,c2,c3,⟨ci,cpost,hcp⟩,c5⟩:=ha2.1.get c;have ci:b.1=((p.length:Nat):Int):=ci;have hpl:p.length<own.length:=by
      have:=congrArg List.length hcp;simp only[List.length_append,List.length_cons]at this;omega
     have hxi:own[b.1.toNat]? =some x:=by
      have c1:jd own b.1=some x:=c1;rw[ci,cK]at c1;rw[ci];exact c1
     have hx1:=ha2.2.get hxi;have c3:(b.2.2.1,b.2.2.2)=p.foldl (bU K.aY k) (fS K.aY own pre):=c3;have hbound:(b.2.2.1).length<1000000000:=by
      have b1:=(nE K.aY k p (fS K.aY own pre)).1;have b2:=(sy K.aY own pre (own,lC own)).1;have b3:=bound pre.length p.length hprl (by omega)
      rw[← c3]at b1;have b2:(fS K.aY own pre).1.length≤own.length+pre.length*own.length:=b2;simp only at b1;omega
     have hroom1:roomy ((b.2.2.1).length+1) 56=true:=by
      simp only[roomy,Bool.and_eq_true,decide_eq_true_eq];omega
     have step:∀s',s'=bU K.aY k (b.2.2.1,b.2.2.2) x→s'=(p++[x]).foldl (bU K.aY k) (fS K.aY own pre):=fun s' e=>by
      rw[e,c3,List.foldl_append];rfl
     have hi0:0≤b.1∧b.1<((own.length:Nat):Int):=by omega
     have keep:bU K.aY k (b.2.2.1,b.2.2.2) x=(b.2.2.1,b.2.2.2)→_:=fun e=>(⟨⟨(c5 hol9 _ (step _ e.symm)).1,ha2.2⟩,(c5 hol9 _ (step _ e.symm)).2⟩:pV (fun a2=>ep own (fun p s=>s=p.foldl (bU K.aY k) (fS K.aY own pre)) (rF a2)∧Pre own (B6 a2)) (fun a2=>own.length - (rF a2).1.toNat) (fun e=>DS e=own.foldl (bU K.aY k) (fS K.aY own pre)∧Pre own (DU e)) (.inr b) (.inl (.inr (Go.IntKind.wrap .i64 (b.1+1),b.2.1,b.2.2.1,b.2.2.2))))
     refine .skip (.op () (if_pos hi0) (.op x hx1 (.skip (.br (fun d1=>.skip (.done rfl (keep (by unfold bU;rw[if_pos d1])))) fun d1=>.skip (.op () rfl (.skip (.br (fun d2=>.skip (.done rfl (keep ?_))) fun d2=>.skip (.call _ (H.aY k g2 x.ah) fun(r68:Bool) h68=>.skip (.br (fun d3=>.skip (.done rfl (keep ?_))) fun d3=>.skip (.op () rfl (.skip ?_)))))))))))
     ·have d2:(getM bw ⟨k.To,x.ah⟩ b.2.2.2).getD false=true:=d2;unfold bU;rw[if_neg (by rw[d1];simp),if_pos d2]
     ·have d2:(getM bw ⟨k.To,x.ah⟩ b.2.2.2).getD false=false:=d2;unfold bU;rw[if_neg (by rw[d1];simp),if_neg (by rw[d2];simp),if_pos (by rw[← h68];exact d3)]
     have d2:(getM bw ⟨k.To,x.ah⟩ b.2.2.2).getD false=false:=d2;have e:bU K.aY k (b.2.2.1,b.2.2.2) x=(b.2.2.1++[nW k x],bL bw ⟨k.To,x.ah⟩ true b.2.2.2):=by
      unfold bU;rw[if_neg (by rw[d1];simp),if_neg (by rw[d2];simp),if_neg (by rw[← h68,d3];simp)]
     refine .op () (if_pos ⟨rfl,hroom1⟩) (.skip (.done rfl ⟨⟨(c5 hol9 _ (step _ e.symm)).1,ha2.2⟩,(c5 hol9 _ (step _ e.symm)).2⟩))
   ·have hP:∀s',s'=own.foldl (bU K.aY k) (fS K.aY own pre)→s'=fS K.aY own (pre++[k]):=fun s' e=>by rw[e];unfold fS;rw[List.foldl_append];rfl
    cases e with
    |inl t=>exact .skip (.done rfl ⟨⟨(g5 hkl _ (hP _ he.1)).1,he.2⟩,(g5 hkl _ (hP _ he.1)).2⟩)
    |inr t=>exact .skip (.done rfl ⟨⟨(g5 hkl _ (hP _ he.1)).1,he.2⟩,(g5 hkl _ (hP _ he.1)).2⟩)
 ·subst h80;have hll:(F0 K.aY f.Leaks own).1.length<1000000000:=by
   have h1:=(sy K.aY own f.Leaks (own,lC own)).1;have h2:=bound f.Leaks.length 0 (Nat.le_refl _) (Nat.zero_le _);show(f.Leaks.foldl (fun s k=>own.foldl (bU K.aY k) s) (own,lC own)).1.length<1000000000
   simp only at h1;omega
  refine .skip (.tidy rfl (.inl (.skip (.aC _ (H.so _ hll) fun r75 h75=>.skip (.done ?_ ⟨own,hperm,h75⟩)))))
  simp only[aZ,eR,Bool.and_true];subst h75;exact decide_eq_true (by rw[List.length_map];exact(H.sl _).symm)
end Go.L
end
section
namespace Go.L
open Go.AM
theorem Ey{a b:aF}(h:gR a=gR b):jZ a=jZ b:=by
 unfold gR at h;simp only[List.cons.injEq,and_true]at h;obtain⟨h1,h2,h3⟩:=h;unfold jZ;have:a.ah=b.ah:=by
  cases ha:a.ah;cases hb:b.ah;rw[ha,hb]at h2 h3;simp only at h2 h3;rw[h2,h3]
 rw[h1,this]
theorem HF{α β:Type}{g:α→β}:∀{l:List α},(l.map g).Nodup→∀{a b:α},a∈l→b∈l→g a=g b→a=b
 |x::l,hn,a,b,ha,hb,h=>by
  simp only[List.map_cons,List.nodup_cons]at hn;rcases List.mem_cons.1 ha with e1 |ha2<;>rcases List.mem_cons.1 hb with e2 |hb2
  ·rw[e1,e2]
  ·exact absurd (List.mem_map.2 ⟨b,hb2,by rw[← h,e1]⟩) hn.1
  ·exact absurd (List.mem_map.2 ⟨a,ha2,by rw[h,e2]⟩) hn.1
  ·exact HF hn.2 ha2 hb2 h
theorem F3{l l':List aF}(h:l.Perm l')(hn:(l.map jZ).Nodup):gZ l=gZ l':=by
 refine List.Perm.eq_of_pairwise (le:=fun a b=>¬tI b a) (fun a b ha hb h1 h2=>?_) (iN l).2 (iN l').2 ((iN l).1.trans (h.trans (iN l').1.symm))
 have ha:=(iN l).1.mem_iff.1 ha;have hb:=h.mem_iff.2 ((iN l').1.mem_iff.1 hb);refine HF hn ha hb (Ey ?_);unfold tI rz at h1 h2;rw[nA]at h1;exact(l7 (show(gR a).length=(gR b).length from rfl)).1 (by omega)
noncomputable def Kc(n:Nat)(f:aG)(leaf:Int):jT where
 lo:=(mO.S n (f,leaf)).getD (0:Int)
 es:=fun i=>((kI.S n i).getD ((Mq,(0:Int)):cA Int×Int)).1
 ez:=fun p ip=>(dQ.S n (p,ip)).getD false
 aY:=fun p q=>(mL.S n (p,q)).getD false
 tg:=fun r=>(dV.S n r.A.dy).getD ([]:List Int)
 rt:=fun r=>(fP.S n r.A.dy).getD ((0,false):Int×Bool)
 sq:=fun r=>((dW.S n r.A.dy).getD ((false,0,false):Bool×Int×Bool)).2.1
noncomputable def rG(f:aG)(leaf:Int)(up:List Bool)(rs:List aK)(K:jT):List aF:=gZ (z8 K.aY f.Leaks (oc (tr f leaf up K rs)))
def JP(n:Nat)(f:aG)(leaf:Int):Prop:=At (gm.S n f) (fun(r:Int×ByteArray×Int)=>r.1≠0∨leaf<0∨f.Leaves≤leaf)
open Classical in
noncomputable def IA(n:Nat)(x:aG×Int×List Bool×List aK):Option (List aF):=
 if C7 n x.1 x.2.1 x.2.2.1 x.2.2.2 (Kc n x.1 x.2.1) gZ then some (rG x.1 x.2.1 x.2.2.1 x.2.2.2 (Kc n x.1 x.2.1))
 else if JP n x.1 x.2.1 then some []else none
theorem Pv(n:Nat)(f:aG)(leaf:Int)(up:List Bool)(rs:List aK)(K:jT)(H:C7 n f leaf up rs K gZ):dK n (pZ f leaf up rs) (fun r=>r=rG f leaf up rs K):=
 G.dD n _ (fun r ⟨own,h1,h2⟩=>by
  have hn:=yz (yJ f leaf up K rs);have hn2:(own.map jZ).Nodup:=(h1.map jZ).nodup_iff.2 hn;rw[h2,JL _ _ _ hn2];exact F3 (F1 _ _ h1) (AB _ _ hn2)) (Pu n f leaf up rs K gZ H)
theorem N3(n:Nat)(f:aG)(leaf:Int)(up:List Bool)(rs:List aK)(H:JP n f leaf):dK n (pZ f leaf up rs) (fun(r:List aF)=>r=[]):=by
 unfold pZ;refine .skip (.call _ H fun r5 h5=>.skip (.br (fun h=>.skip (.done rfl rfl)) fun g0=>.skip (.br (fun h=>.skip (.done rfl rfl)) fun g1=>.skip (.br (fun h=>.skip (.done rfl rfl)) fun g2=>?_))))
 simp only[bne_eq_false_iff_eq]at g0;simp only[decide_eq_false_iff_not]at g1 g2;rcases h5 with h5 |h5 |h5
 ·exact absurd g0 h5
 ·exact absurd h5 g1
 ·exact absurd h5 g2
noncomputable def nU:aI prog:=JM.all IA fun n x r h=>by
 unfold IA at h;split at h
 ·rename_i H;cases h;exact⟨n,G.dD n _ (fun y hy=>by rw[hy]) (Pv n x.1 x.2.1 x.2.2.1 x.2.2.2 _ H)⟩
 ·split at h
  ·rename_i H;cases h;exact⟨n,G.dD n _ (fun y hy=>by rw[hy]) (N3 n x.1 x.2.1 x.2.2.1 x.2.2.2 H)⟩
  ·cases h
theorem Ll(n:Nat)(f:aG)(leaf:Int)(up:List Bool)(rs:List aK)(H:C7 n f leaf up rs (Kc n f leaf) gZ):At (nU.S n (f,leaf,up,rs)) (fun(r:List aF)=>r=rG f leaf up rs (Kc n f leaf)):=
 ⟨_,if_pos H,rfl⟩
end Go.L
end
