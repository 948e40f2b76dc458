/- Parts put together. No conditions. -/
import Derived.Test.YtiohninblcifpaaGreatDoorWh
import Derived.Test.YtiohninblcifpaaGreatDoorPa
import Derived.Test.YtiohninblcifpaaGreatDoorPb
import Derived.Test.YtiohninblcifpaaGreatDoorAf
set_option linter.unusedSimpArgs false
set_option linter.unusedVariables false
set_option maxRecDepth 100000
section
namespace Go.L
open Go.AM
theorem BM(n:Nat)(a b:Int):At (lG.S n (a,b)) (fun(r:Int)=>r=bT a b):=by
 refine(?_ :cH n (lF a b) _);unfold lF;have e:∀x:Int,At (ic.S n x) (fun(r:Bool)=>r=false):=fun x=>⟨x != x,rfl,by simp⟩
 refine .skip (.call _ (e a) fun r3 h3=>.skip (.call _ (e b) fun r4 h4=>.skip (.br (fun h=>by rw[h3]at h;cases h) fun _=>.skip (.br (fun h=>by rw[h4]at h;cases h) fun _=>.skip (.br (fun h=>.skip (.done rfl ?_)) fun h=>.skip (.br (fun h2=>.skip (.done rfl ?_)) fun h2=>.skip (.done rfl ?_)))))))
 all_goals (simp only[decide_eq_true_eq,decide_eq_false_iff_not]at*;unfold bT)
 ·rw[if_pos h]
 ·rw[if_neg h,if_pos h2]
 ·rw[if_neg h,if_neg h2]
theorem Kv(n:Nat)(a b:Int):At (th.S n (a,b)) (fun(r:Int)=>r=bT a b):=by
 refine(?_ :cH n (nP a b) _);unfold nP;have e:∀x:Int,At (qg.S n x) (fun(r:Bool)=>r=false):=fun x=>⟨x != x,rfl,by simp⟩
 refine .skip (.call _ (e a) fun r3 h3=>.skip (.call _ (e b) fun r4 h4=>.skip (.br (fun h=>by rw[h3]at h;cases h) fun _=>.skip (.br (fun h=>by rw[h4]at h;cases h) fun _=>.skip (.br (fun h=>.skip (.done rfl ?_)) fun h=>.skip (.br (fun h2=>.skip (.done rfl ?_)) fun h2=>.skip (.done rfl ?_)))))))
 all_goals (simp only[decide_eq_true_eq,decide_eq_false_iff_not]at*;unfold bT)
 ·rw[if_pos h]
 ·rw[if_neg h,if_pos h2]
 ·rw[if_neg h,if_neg h2]
theorem Hp(n:Nat)(a b:Int):At (qf.S n (a,b)) (fun(r:Int)=>r=bT a b):=by
 refine(?_ :cH n (lE a b) _);unfold lE;have e:∀x:Int,At (mQ.S n x) (fun(r:Bool)=>r=false):=fun x=>⟨x != x,rfl,by simp⟩
 refine .skip (.call _ (e a) fun r3 h3=>.skip (.call _ (e b) fun r4 h4=>.skip (.br (fun h=>by rw[h3]at h;cases h) fun _=>.skip (.br (fun h=>by rw[h4]at h;cases h) fun _=>.skip (.br (fun h=>.skip (.done rfl ?_)) fun h=>.skip (.br (fun h2=>.skip (.done rfl ?_)) fun h2=>.skip (.done rfl ?_)))))))
 all_goals (simp only[decide_eq_true_eq,decide_eq_false_iff_not]at*;unfold bT)
 ·rw[if_pos h]
 ·rw[if_neg h,if_pos h2]
 ·rw[if_neg h,if_neg h2]
theorem jX(n:Nat)(a b:Int):At (c7.S n (a,b)) (fun(r:Int)=>r=bT a b):=by
 refine(?_ :cH n (mR a b) _);unfold mR;have e:∀x:Int,At (oN.S n x) (fun(r:Bool)=>r=false):=fun x=>⟨x != x,rfl,by simp⟩
 refine .skip (.call _ (e a) fun r3 h3=>.skip (.call _ (e b) fun r4 h4=>.skip (.br (fun h=>by rw[h3]at h;cases h) fun _=>.skip (.br (fun h=>by rw[h4]at h;cases h) fun _=>.skip (.br (fun h=>.skip (.done rfl ?_)) fun h=>.skip (.br (fun h2=>.skip (.done rfl ?_)) fun h2=>.skip (.done rfl ?_)))))))
 all_goals (simp only[decide_eq_true_eq,decide_eq_false_iff_not]at*;unfold bT)
 ·rw[if_pos h]
 ·rw[if_neg h,if_pos h2]
 ·rw[if_neg h,if_neg h2]
def mc(x:bE Int):List Int:=[x.a0,x.a1,x.a2,x.a3,x.a4,x.a5,x.a6,x.a7,x.a8,x.a9]
theorem K6(n:Nat)(x y:bE Int):At (tf.S n (x,y)) (fun(r:Int)=>r=cw (mc x) (mc y)):=by
 refine(?_ :cH n (nO x y) _);unfold nO;refine .skip (.call (fun r=>r=(x.a0,x.a1,x.a2,x.a3,x.a4,x.a5,x.a6,x.a7,x.a8,x.a9)) ⟨_,rfl,rfl⟩ fun r3 h3=>?_)
 subst h3;refine .inl (.skip (.eG (.skip ?_)));refine .inl (.skip (.call _ (jX n _ _) fun q0 hq0=>.skip (.br (fun h=>?_) fun h0=>?_)))
 ·refine .skip (.tidy rfl (.skip (.tidy rfl (.inl (.done rfl ?_)))));subst hq0;have hne:bT x.a0 y.a0≠0:=by simpa using h
  simp only[mc,cw,if_true,if_neg hne]
 have e0:bT x.a0 y.a0=0:=by subst hq0;simpa using h0
 refine .skip (.tidy rfl (.skip ?_));refine .inl (.skip (.call _ (jX n _ _) fun q1 hq1=>.skip (.br (fun h=>?_) fun h1=>?_)))
 ·refine .skip (.tidy rfl (.skip (.tidy rfl (.inl (.done rfl ?_)))));subst hq1;have hne:bT x.a1 y.a1≠0:=by simpa using h
  simp only[mc,cw,e0,if_true,if_neg hne]
 have e1:bT x.a1 y.a1=0:=by subst hq1;simpa using h1
 refine .skip (.tidy rfl (.skip ?_));refine .inl (.skip (.call _ (jX n _ _) fun q2 hq2=>.skip (.br (fun h=>?_) fun h2=>?_)))
 ·refine .skip (.tidy rfl (.skip (.tidy rfl (.inl (.done rfl ?_)))));subst hq2;have hne:bT x.a2 y.a2≠0:=by simpa using h
  simp only[mc,cw,e0,e1,if_true,if_neg hne]
 have e2:bT x.a2 y.a2=0:=by subst hq2;simpa using h2
 refine .skip (.tidy rfl (.skip ?_));refine .inl (.skip (.call _ (jX n _ _) fun q3 hq3=>.skip (.br (fun h=>?_) fun h3=>?_)))
 ·refine .skip (.tidy rfl (.skip (.tidy rfl (.inl (.done rfl ?_)))));subst hq3;have hne:bT x.a3 y.a3≠0:=by simpa using h
  simp only[mc,cw,e0,e1,e2,if_true,if_neg hne]
 have e3:bT x.a3 y.a3=0:=by subst hq3;simpa using h3
 refine .skip (.tidy rfl (.skip ?_));refine .inl (.skip (.call _ (jX n _ _) fun q4 hq4=>.skip (.br (fun h=>?_) fun h4=>?_)))
 ·refine .skip (.tidy rfl (.skip (.tidy rfl (.inl (.done rfl ?_)))));subst hq4;have hne:bT x.a4 y.a4≠0:=by simpa using h
  simp only[mc,cw,e0,e1,e2,e3,if_true,if_neg hne]
 have e4:bT x.a4 y.a4=0:=by subst hq4;simpa using h4
 refine .skip (.tidy rfl (.skip ?_));refine .inl (.skip (.call _ (jX n _ _) fun q5 hq5=>.skip (.br (fun h=>?_) fun h5=>?_)))
 ·refine .skip (.tidy rfl (.skip (.tidy rfl (.inl (.done rfl ?_)))));subst hq5;have hne:bT x.a5 y.a5≠0:=by simpa using h
  simp only[mc,cw,e0,e1,e2,e3,e4,if_true,if_neg hne]
 have e5:bT x.a5 y.a5=0:=by subst hq5;simpa using h5
 refine .skip (.tidy rfl (.skip ?_));refine .inl (.skip (.call _ (jX n _ _) fun q6 hq6=>.skip (.br (fun h=>?_) fun h6=>?_)))
 ·refine .skip (.tidy rfl (.skip (.tidy rfl (.inl (.done rfl ?_)))));subst hq6;have hne:bT x.a6 y.a6≠0:=by simpa using h
  simp only[mc,cw,e0,e1,e2,e3,e4,e5,if_true,if_neg hne]
 have e6:bT x.a6 y.a6=0:=by subst hq6;simpa using h6
 refine .skip (.tidy rfl (.skip ?_));refine .inl (.skip (.call _ (jX n _ _) fun q7 hq7=>.skip (.br (fun h=>?_) fun h7=>?_)))
 ·refine .skip (.tidy rfl (.skip (.tidy rfl (.inl (.done rfl ?_)))));subst hq7;have hne:bT x.a7 y.a7≠0:=by simpa using h
  simp only[mc,cw,e0,e1,e2,e3,e4,e5,e6,if_true,if_neg hne]
 have e7:bT x.a7 y.a7=0:=by subst hq7;simpa using h7
 refine .skip (.tidy rfl (.skip ?_));refine .inl (.skip (.call _ (jX n _ _) fun q8 hq8=>.skip (.br (fun h=>?_) fun h8=>?_)))
 ·refine .skip (.tidy rfl (.skip (.tidy rfl (.inl (.done rfl ?_)))));subst hq8;have hne:bT x.a8 y.a8≠0:=by simpa using h
  simp only[mc,cw,e0,e1,e2,e3,e4,e5,e6,e7,if_true,if_neg hne]
 have e8:bT x.a8 y.a8=0:=by subst hq8;simpa using h8
 refine .skip (.tidy rfl (.skip ?_));refine .inl (.skip (.call _ (jX n _ _) fun q9 hq9=>.skip (.br (fun h=>?_) fun h9=>?_)))
 ·refine .skip (.tidy rfl (.skip (.tidy rfl (.inl (.done rfl ?_)))));subst hq9;have hne:bT x.a9 y.a9≠0:=by simpa using h
  simp only[mc,cw,e0,e1,e2,e3,e4,e5,e6,e7,e8,if_true,if_neg hne]
 have e9:bT x.a9 y.a9=0:=by subst hq9;simpa using h9
 refine .skip (.tidy rfl (.skip (.tidy rfl (.inl (.skip (.done rfl ?_))))));simp only[mc,cw,e0,e1,e2,e3,e4,e5,e6,e7,e8,e9,if_true]
def Hq:bE Int:=⟨0,0,0,0,0,0,0,0,0,0⟩
def AR(x:eO):eO:=
 if x.Kind=5 then Go.L.eO.mk x.Kind x.RD Hq x.Tag x.bU x.IP x.dD x.ah 0 0 0
 else if x.Kind=2 then Go.L.eO.mk x.Kind x.RD Hq x.Tag x.bU x.IP x.dD x.ah x.bg 0 0
 else Go.L.eO.mk x.Kind x.RD x.az x.Tag x.bU x.IP x.dD x.ah x.bg 0 0
theorem Iq(n:Nat)(x:eO):At (xo.S n x) (fun(r:eO)=>r=AR x):=by
 refine(?_ :cH n (xm x) _);unfold xm AR;refine .skip (.br (fun h=>.skip (.done rfl ?_)) fun h=>.skip (.br (fun h2=>.skip (.done rfl ?_)) fun h2=>.skip (.done rfl ?_)))
 all_goals (simp only[beq_iff_eq,beq_eq_false_iff_ne]at*)
 ·rw[if_pos h];rfl
 ·rw[if_neg h,if_pos h2];rfl
 ·rw[if_neg h,if_neg h2]
theorem JB(n:Nat)(x y:Bool):At (yL.S n (x,y)) (fun(r:Int)=>r=bT (E2 x) (E2 y)):=by cases x<;>cases y<;>exact⟨_,rfl,rfl⟩
def vf(k:eO):List Int:=[k.Kind,k.RD]++(mc k.az++[k.Tag,k.bU,E2 k.dD,k.IP,k.ah.IP,k.ah.Len,k.bg])
def Hr(x y:eO):Int:=cw (vf (AR x)) (vf (AR y))
theorem rN:∀{a a':List Int} (b b':List Int),a.length=a'.length→cw (a++b) (a'++b')=if cw a a'=0 then cw b b' else cw a a'
 | [],[],b,b',_=>by simp[cw]
 |x::a,y::a',b,b',h=>by
  simp only[List.cons_append,cw,rN b b' (Nat.succ.inj h)];split
  ·rfl
  ·rfl
theorem Kw(k k':eO):cw (vf k) (vf k')=lC [bT k.Kind k'.Kind,bT k.RD k'.RD,cw (mc k.az) (mc k'.az),bT k.Tag k'.Tag,bT k.bU k'.bU,bT (E2 k.dD) (E2 k'.dD),bT k.IP k'.IP,bT k.ah.IP k'.ah.IP,bT k.ah.Len k'.ah.Len,bT k.bg k'.bg]:=by
 unfold vf;rw[rN (a:=[k.Kind,k.RD]) (a':=[k'.Kind,k'.RD]) _ _ rfl,rN (a:=mc k.az) (a':=mc k'.az) _ _ rfl];simp only[lC,cw];by_cases h0:bT k.Kind k'.Kind=0
 ·by_cases h1:bT k.RD k'.RD=0
  ·simp[h0,h1]
  ·simp[h0,h1]
 ·simp[h0]
theorem Kx(n:Nat)(hn:11≤n)(x y:eO):At (wF.S n (x,y)) (fun(r:Int)=>r=Hr x y):=by
 refine(?_ :cH n (qX x y) _);unfold qX;refine .skip (.call _ (Iq n x) fun r3 h3=>.skip (.call _ (Iq n y) fun r4 h4=>?_))
 refine .skip (.call _ (qW n _ _) fun q0 e0=>.skip (.call _ (Hp n _ _) fun q1 e1=>.skip (.call _ (K6 n _ _) fun q2 e2=>.skip (.call _ (BM n _ _) fun q3 e3=>.skip (.call _ (Kv n _ _) fun q4 e4=>.skip (.call _ (JB n _ _) fun q5 e5=>?_))))))
 refine .skip (.call _ (yJ n _ _) fun q6 e6=>.skip (.call _ (yJ n _ _) fun q7 e7=>.skip (.call _ (qW n _ _) fun q8 e8=>.skip (.call _ (yJ n _ _) fun q9 e9=>.skip (.call _ (D2 n _ (by show 10<n;omega) (by show 10<100000;omega)) fun r hr=>.skip (.done rfl ?_))))))
 subst h3 h4 e0 e1 e2 e3 e4 e5 e6 e7 e8 e9;refine Eq.trans hr ?_;rw[Hr,Kw]
end Go.L
end
section
namespace Go.L
open Go.AM
def BO(r:cE):List Int:=[r.level,r.away,-r.seq,r.bare,r.next]++vf (AR r.n)
def It(r s:cE):Bool:=decide (cw (BO r) (BO s)<0)
theorem Iu(a b:Int):bT (-a) (-b)=bT b a:=by
 unfold bT
 repeat' split
 all_goals omega
theorem Ky(r s:cE):cw (BO r) (BO s)=lC [bT r.level s.level,bT r.away s.away,bT s.seq r.seq,bT r.bare s.bare,bT r.next s.next,Hr r.n s.n]:=by
 unfold BO Hr;rw[rN (a:=[r.level,r.away,-r.seq,r.bare,r.next]) (a':=[s.level,s.away,-s.seq,s.bare,s.next]) _ _ rfl];generalize cw (vf (AR r.n)) (vf (AR s.n))=e;simp only[lC,cw,Iu];by_cases h0:bT r.level s.level=0
 ·by_cases h1:bT r.away s.away=0
  ·by_cases h2:bT s.seq r.seq=0
   ·by_cases h3:bT r.bare s.bare=0
    ·by_cases h4:bT r.next s.next=0
     ·simp only[h0,h1,h2,h3,h4,if_true];split<;>omega
     ·simp[h0,h1,h2,h3,h4]
    ·simp[h0,h1,h2,h3]
   ·simp[h0,h1,h2]
  ·simp[h0,h1]
 ·simp[h0]
theorem Kz(n:Nat)(hn:11≤n)(r s:cE):At (tq.S n (r,s)) (fun(b:Bool)=>b=It r s):=by
 refine(?_ :cH n (nU r s) _);unfold nU;refine .skip (.call _ (qW n _ _) fun q0 e0=>.skip (.call _ (qW n _ _) fun q1 e1=>.skip (.call _ (BM n _ _) fun q2 e2=>.skip (.call _ (qW n _ _) fun q3 e3=>.skip (.call _ (yJ n _ _) fun q4 e4=>.skip (.call _ (Kx n hn _ _) fun q5 e5=>?_))))))
 refine .skip (.call _ (D2 n _ (by show 6<n;omega) (by show 6<100000;omega)) fun(q:Int) hq=>.skip (.done rfl ?_))
 subst e0 e1 e2 e3 e4 e5;show decide (q<0)=It r s;unfold It;rw[Ky];have:q=_:=hq;rw[this]
theorem Fa(a b:aa):aV a b=true↔a=b:=by
 unfold aV;simp only[Bool.and_eq_true,beq_iff_eq,and_true];constructor
 ·rintro⟨h1,h2,h3⟩;obtain⟨a1,⟨a2,a3⟩⟩:=a;obtain⟨b1,⟨b2,b3⟩⟩:=b;simp only at h1 h2 h3;subst h1;subst h2;subst h3;rfl
 ·rintro rfl;exact⟨rfl,rfl,rfl⟩
def vh(x:aj):aa:=⟨x.au.aF,x.au.ah⟩
def eP(hm:List (aa×aj))(x:aj):List (aa×aj):=
 match getM aV (vh x) hm with
 |none=>bS aV (vh x) x hm
 |some y=>if It x.fV y.fV then bS aV (vh x) x hm else hm
theorem sH(n:Nat)(hn:11≤n)(f:aB)(own:Int)(k:Nat)(cr:List Bool)(us:List (bE Int×List Int))(dm tn:List (Int×Int))(sb:List (aa×Bool))(hm:List (aa×aj))(x:aj):
 At (di.c.S n (f,own,k,cr,us,dm,tn,sb,hm,x)) (fun r=>r=eP hm x):=by
 refine(?_ :cH n (me f own k cr us dm tn sb hm x) _);unfold me;refine .skip (.op () rfl (.skip ?_));cases hf:aW aV (Go.L.aa.mk x.au.aF x.au.ah) hm 0 with
 |none=>
  have hp:eP hm x=bS aV (vh x) x hm:=by unfold eP getM vh;rw[hf];rfl
  refine .br (fun h=>.skip (.op () rfl (.tidy rfl (.inl (.done rfl hp.symm))))) fun h=>?_
  simp at h
 |some y=>
  have hp:eP hm x=if It x.fV y.2.fV then bS aV (vh x) x hm else hm:=by unfold eP getM vh;rw[hf];rfl
  refine .br (fun h=>?_) fun h=>.skip (.call _ (Kz n hn _ _) fun b hb=>.skip (.br (fun h2=>.skip (.op () rfl (.tidy rfl (.inl (.done rfl ?_))))) fun h2=>.skip (.tidy rfl (.inl (.done rfl ?_)))))
  ·simp at h
  ·subst h2;simp only[Option.map_some,Option.getD_some]at hb;rw[hp,← hb];rfl
  ·subst h2;simp only[Option.map_some,Option.getD_some]at hb;rw[hp,← hb];rfl
instance :DecidableEq aa:=fun a b=>decidable_of_iff (aV a b=true) (Fa a b)
theorem BP{hm:List (aa×aj)}(h:(hm.map (·.1)).Nodup)(x:aj):((eP hm x).map (·.1)).Nodup∧(eP hm x).length≤hm.length+1:=by
 unfold eP;cases getM aV (vh x) hm with
 |none=>exact E6 Fa hm _ _ h
 |some y=>
  simp only
  split
  ·exact E6 Fa hm _ _ h
  ·exact⟨h,Nat.le_succ _⟩
end Go.L
end
section
namespace Go.L
open Go.AM
def uL(leaf:Int)(s:ew):List Int:=if decide (leaf∈s.Leaves)then s.aQ else[]
structure BQ(n:Nat)(f:aB):Prop where
 l:f.aP.length<100000
 nn:f.aP.length<n
 s:∀s∈f.aP,s.Leaves.length<n∧s.Leaves.length<100000∧s.aQ.length<n∧s.aQ.length<100000∧∀b∈s.aQ,0≤b∧b<f.aQ.length
 b:f.aQ.length<100000
 bn:f.aQ.length<n
 t:f.bh.length<100000
 tn:f.bh.length<n
def eZ{α β:Type}(g:Nat→α→List β)(l:List α):List β:=l.zipIdx.flatMap fun p=>g p.2 p.1
theorem lI{α β:Type}(g:Nat→α→List β)(pre:List α)(x:α):eZ g (pre++[x])=eZ g pre++g pre.length x:=by
 unfold eZ;rw[List.zipIdx_append,List.flatMap_append];simp
def sI(self:Int)(up:List Bool)(es:Int→bE Int)(i:Nat)(s:ew):List (bE Int×List Int):=
 if decide (self∈s.Leaves)&&decide (1<s.Leaves.length)&&(up[i]? ==some true)then[(es i,s.aQ)]else[]
def gw{K V:Type}(eq:K→K→Bool)(l:List (K×V)):List (K×V):=l.foldl (fun m p=>bS eq p.1 p.2 m) []
theorem vR{K V:Type}(eq:K→K→Bool)(l:List (K×V))(p:K×V):gw eq (l++[p])=bS eq p.1 p.2 (gw eq l):=by simp[gw]
structure Hs(f:aB)(leaf:Int)(up:List Bool)(es:Int→bE Int)(lo:Int)(r:List Bool×List (bE Int×List Int)×List (Int×Int)×List (Int×Int)×List (aa×Bool)×List (aa×aj)×aB×Int×Nat):Prop where
 My:r.1.length=f.aQ.length
 cr:∀b:Nat,b<f.aQ.length→r.1[b]? =some (decide ((b:Int)∈f.aP.flatMap (uL leaf)))
 us:r.2.1=gw eM (eZ (sI leaf up es) f.aP)
 dm:r.2.2.1=gw cg (eZ (fun i d=>[(d.Target,(i:Int))]) f.aQ)
 tn:r.2.2.2.1=gw cg (eZ (fun i t=>[(t.Target,(i:Int))]) f.bh)
 sb:r.2.2.2.2.1=[]
 hm:r.2.2.2.2.2.1=[]
 fb:r.2.2.2.2.2.2.1=f
 own:r.2.2.2.2.2.2.2.1=lo
 len:r.2.2.2.2.2.2.2.2=f.aQ.length
def Dm(f:aB)(pre:List Int)(c:List Bool):Prop:=c.length=f.aQ.length∧∀b:Nat,b<f.aQ.length→c[b]? =some (decide ((b:Int)∈pre))
theorem Dm.set{f:aB}{pre:List Int}{c:List Bool}(h:Dm f pre c){x:Int}(h0:0≤x)(h1:x<f.aQ.length):Dm f (pre++[x]) (c.set x.toNat true):=by
 refine⟨by simpa using h.1,fun b hb=>?_⟩
 rw[List.getElem?_set];by_cases he:x.toNat=b
 ·rw[if_pos he,if_pos (by rw[h.1];omega)]
  have:(b:Int)=x:=by omega
  simp[this]
 ·rw[if_neg he,h.2 b hb];have:(b:Int)≠x:=by omega
  simp[this]
theorem DM(n:Nat)(f:aB)(self lo:Int)(up:List Bool)(es:Int→bE Int)(hlo:At (iH.S n (f,self)) (fun r=>r=lo))(hf:BQ n f)
 (hes:∀i:Nat,i<f.aP.length→At (gJ.S n (i:Int)) (fun(r:bE Int×Int)=>r.1=es i)):
 At (mT.c.S n (f,self,up)) (Hs f self up es lo):=by
 refine(?_ :cH n (mS f self up) _);unfold mS;have hrep:(List.replicate (Int.toNat (((List.length f.aQ):Nat):Int)) false).length=f.aQ.length:=by simp
 have hroom:roomy (Int.toNat (((List.length f.aQ):Nat):Int)) 1=true:=by
  have:=hf.b;simp only[roomy,Bool.and_eq_true,decide_eq_true_eq,Int.toNat_natCast];omega
 refine .skip (.call _ hlo fun r4 h4=>.skip (.op () rfl (.op () (if_pos ⟨by omega,hroom⟩) (.skip (.op () rfl (.skip ?_))))))
 refine .loop (dP f.aP fun pre (s:List Bool×List (bE Int×List Int))=>Dm f (pre.flatMap (uL self)) s.1∧s.2=gw eM (eZ (sI self up es) pre)) (fun a=>f.aP.length - a.1.toNat)
  (fun t=>Dm f (f.aP.flatMap (uL self)) t.1∧t.2=gw eM (eZ (sI self up es) f.aP)) rfl (dP.start ⟨⟨hrep,fun b hb=>?_⟩,rfl⟩) (by simpa using hf.nn) (fun a ha=>?_) (fun t67 ht67=>?_)
 ·rw[List.getElem?_replicate,if_pos (by simpa using hb)];simp
 ·refine .skip (.br (fun h=>?_) fun h=>.skip (.done rfl (ha.fin h)))
  obtain⟨s,pre,h1,h2,⟨h3,h3u⟩,⟨hidx,hpost⟩,h5⟩:=ha.get h;obtain⟨q1,q2,q3,q4,q5⟩:=hf.s s h2;have hlt:pre.length<f.aP.length:=by
   obtain⟨post,hp⟩:=hpost;have:=congrArg List.length hp;simp only[List.length_append,List.length_cons]at this;omega
  refine .skip (.op s h1 (.skip (.call _ (vQ n s.Leaves self q1 q2) fun r50 h50=>.skip (.br (fun hc=>.skip (.done rfl ?_)) fun hc=>?_))))
  ·have hn:¬self∈s.Leaves:=by rw[h50]at hc;simpa using hc
   refine h5 hf.l _ ⟨?_,?_⟩
   ·rw[List.flatMap_append,List.flatMap_cons,List.flatMap_nil,List.append_nil];have:uL self s=[]:=by unfold uL;simp[hn]
    rw[this,List.append_nil];exact h3
   ·rw[lI];have:sI self up es pre.length s=[]:=by unfold sI;simp[hn]
    rw[this,List.append_nil];exact h3u
  ·have hin:self∈s.Leaves:=by rw[h50]at hc;simpa using hc
   have hcar:uL self s=s.aQ:=by unfold uL;simp[hin]
   refine .skip (.op () rfl (.skip (.loop (dP s.aQ fun p c=>Dm f (pre.flatMap (uL self)++p) c) (fun a=>s.aQ.length - a.1.toNat) (fun t=>Dm f (pre.flatMap (uL self)++s.aQ) t) rfl (dP.start (by rw[List.append_nil];exact h3)) (by simpa using q3) (fun a2 ha2=>?_) (fun t57 ht57=>?_))))
   ·refine .skip (.br (fun g=>?_) fun g=>.skip (.done rfl (ha2.fin g)))
    obtain⟨x,p2,g1,g2,g3,_,g5⟩:=ha2.get g;obtain⟨b0,b1⟩:=q5 x g2;have hx:x.toNat<a2.2.length:=by rw[g3.1];omega
    refine .skip (.op x g1 (.skip (.op () (if_pos ⟨b0,by rw[hrep];exact b1⟩) (.op (a2.2[x.toNat]'hx) (List.getElem?_eq_getElem hx) (.skip (.done rfl (g5 q4 _ ?_)))))))
    rw[← List.append_assoc];exact g3.set b0 b1
   ·have fin:∀us,us=gw eM (eZ (sI self up es) (pre++[s]))→(dP f.aP (fun pre (s:List Bool×List (bE Int×List Int))=>Dm f (pre.flatMap (uL self)) s.1∧s.2=gw eM (eZ (sI self up es) pre)) (IntKind.wrap .i64 (a.1+1),(t57,us))∧f.aP.length - (IntKind.wrap .i64 (a.1+1)).toNat<f.aP.length - a.1.toNat):=fun us hus=>h5 hf.l (t57,us) ⟨by
     rw[List.flatMap_append,List.flatMap_cons,List.flatMap_nil,List.append_nil,hcar];exact ht57,hus⟩
    have none_:sI self up es pre.length s=[]→a.2.2=gw eM (eZ (sI self up es) (pre++[s])):=fun e=>by rw[lI,e,List.append_nil];exact h3u
    refine .skip (.op () rfl (.skip (.br (fun g=>?_) fun g=>.skip (.done rfl (fin _ (none_ ?_))))))
    ·have g1:1<s.Leaves.length:=by simp only[gt_iff_lt,decide_eq_true_eq]at g;omega
     refine .skip (.op () rfl (.skip (.br (fun g2=>?_) fun g2=>.skip (.done rfl (fin _ (none_ ?_))))))
     ·simp only[decide_eq_true_eq]at g2;have hu:pre.length<up.length:=by rw[hidx]at g2;omega
      have hat:qn up a.1=some (up[pre.length]'hu):=by rw[hidx,qL,List.getElem?_eq_getElem hu]
      refine .skip (.op _ hat (.skip (.join (fun us=>us=gw eM (eZ (sI self up es) (pre++[s]))) ?_ fun us hus=>.skip (.done rfl (fin us hus)))))
      refine .br (fun g3=>?_) fun g3=>.skip (.done rfl (none_ ?_))
      ·have hes':=hes pre.length hlt;rw[← hidx]at hes';refine .skip (.call _ hes' fun r59 h59=>.skip (.op () rfl (.done rfl ?_)))
       have:sI self up es pre.length s=[(es a.1,s.aQ)]:=by
        unfold sI;rw[hidx];simp[hin,g1,List.getElem?_eq_getElem hu,g3]
       rw[lI,this,vR,← h3u,h59]
      ·unfold sI;simp[List.getElem?_eq_getElem hu,g3]
     ·simp only[decide_eq_false_iff_not]at g2;have hu:¬pre.length<up.length:=by rw[hidx]at g2;omega
      unfold sI;simp[List.getElem?_eq_none (Nat.le_of_not_lt hu)]
    ·have g1:¬1<s.Leaves.length:=by simp only[gt_iff_lt,decide_eq_false_iff_not]at g;omega
     unfold sI;simp[g1]
 ·refine .skip (.op () rfl (.skip (.loop (dP f.aQ fun pre m=>m=gw cg (eZ (fun i (d:BD)=>[(d.Target,(i:Int))]) pre)) (fun a=>f.aQ.length - a.1.toNat) (fun t=>t=gw cg (eZ (fun i (d:BD)=>[(d.Target,(i:Int))]) f.aQ)) rfl (dP.start rfl) (by simpa using hf.bn) (fun a ha=>?_) (fun t80 ht80=>?_))))
  ·refine .skip (.br (fun h=>?_) fun h=>.skip (.done rfl (ha.fin h)))
   obtain⟨x,pre,h1,h2,h3,⟨hidx,_⟩,h5⟩:=ha.get h;refine .skip (.op x h1 (.skip (.op () rfl (.skip (.done rfl (h5 hf.b _ ?_))))));rw[lI,vR,← h3,hidx]
  ·refine .skip (.op () rfl (.skip (.loop (dP f.bh fun pre m=>m=gw cg (eZ (fun i (d:aF)=>[(d.Target,(i:Int))]) pre)) (fun a=>f.bh.length - a.1.toNat) (fun t=>t=gw cg (eZ (fun i (d:aF)=>[(d.Target,(i:Int))]) f.bh)) rfl (dP.start rfl) (by simpa using hf.tn) (fun a ha=>?_) (fun t93 ht93=>?_))))
   ·refine .skip (.br (fun h=>?_) fun h=>.skip (.done rfl (ha.fin h)))
    obtain⟨x,pre,h1,h2,h3,⟨hidx,_⟩,h5⟩:=ha.get h;refine .skip (.op x h1 (.skip (.op () rfl (.skip (.done rfl (h5 hf.t _ ?_))))));rw[lI,vR,← h3,hidx]
   ·exact .skip (.tidy rfl (.inl (.done rfl ⟨ht67.1.1,ht67.1.2,ht67.2,ht80,ht93,rfl,rfl,rfl,h4,hrep⟩)))
end Go.L
end
section
namespace Go.L
open Go.AM
def LG:eO:=Go.L.eO.mk 0 0 Hq 0 0 0 false (Go.L.ah.mk 0 0) 0 0 0
def J5(i:Nat)(d:BD):aj:=⟨Go.L.au.mk d.aF d.bK (i:Int) 0 0 0 0,Go.L.cE.mk 0 0 0 0 0 LG⟩
def nC(cr:List Bool)(i:Nat)(d:BD):List aj:=if(d.bg != 0)&&(cr[i]? ==some true)then[J5 i d]else[]
def vi(f:aB)(cr:List Bool):List aj:=eZ (nC cr) f.aQ
def zy(sb:List (aa×Bool))(x:aj):List (aa×Bool):=bS aV (vh x) true sb
theorem Fe(n:Nat)(hn:11≤n)(f:aB)(own:Int)(k:Nat)(cr:List Bool)(us:List (bE Int×List Int))(dm tn:List (Int×Int))(sb:List (aa×Bool))(hm:List (aa×aj))
 (hb:f.aQ.length<100000) (hbn:f.aQ.length<n) (hk:k=f.aQ.length) (hcr:cr.length=f.aQ.length):
 At (mg.c.S n (f,own,k,cr,us,dm,tn,sb,hm)) (fun r=>r=((vi f cr).foldl zy sb,(vi f cr).foldl eP hm)):=by
 refine(?_ :cH n (iT f own k cr us dm tn sb hm) _);unfold iT;refine .skip (.op () rfl (.skip (.loop (dP f.aQ fun pre s=>s=((eZ (nC cr) pre).foldl zy sb,(eZ (nC cr) pre).foldl eP hm)) (fun a=>f.aQ.length - a.1.toNat) (fun t=>t=((vi f cr).foldl zy sb,(vi f cr).foldl eP hm)) rfl (dP.start rfl) (by simpa using hbn) (fun a ha=>?_) (fun t ht=>?_))))
 ·refine .skip (.br (fun h=>?_) fun h=>.skip (.done rfl (ha.fin h)))
  obtain⟨d,pre,h1,h2,h3,⟨hidx,post,hpost⟩,h5⟩:=ha.get h;have hlt:pre.length<f.aQ.length:=by
   have:=congrArg List.length hpost;simp only[List.length_append,List.length_cons]at this;omega
  have e1:a.2.1=(eZ (nC cr) pre).foldl zy sb:=by rw[h3]
  have e2:a.2.2=(eZ (nC cr) pre).foldl eP hm:=by rw[h3]
  have none_:nC cr pre.length d=[]→(a.2.1,a.2.2)=((eZ (nC cr) (pre++[d])).foldl zy sb,(eZ (nC cr) (pre++[d])).foldl eP hm):=fun e=>by
   rw[lI,e,List.append_nil,← e1,← e2]
  refine .skip (.op d h1 (.skip (.br (fun g=>?_) fun g=>.skip (.done rfl (h5 hb _ (none_ ?_))))))
  ·have hc:pre.length<cr.length:=by omega
   refine .skip (.op () (if_pos ⟨by omega,by rw[hidx,hk];omega⟩) (.op (cr[pre.length]'hc) (by rw[show a.1.toNat=pre.length by omega];exact List.getElem?_eq_getElem hc) (.skip (.br (fun g2=>?_) fun g2=>.skip (.done rfl (h5 hb _ (none_ ?_)))))))
   ·refine .skip (.op () rfl (.skip (.inl (.bz _ (sH n hn f own k cr us dm tn _ a.2.2 _) fun r29 h29=>.skip (.done rfl (h5 hb _ ?_))))))
    have:nC cr pre.length d=[J5 pre.length d]:=by unfold nC;simp only[g,List.getElem?_eq_getElem hc,g2];rfl
    rw[lI,this,List.foldl_append,List.foldl_append,← e1,← e2,h29,hidx];rfl
   ·unfold nC;simp only[List.getElem?_eq_getElem hc,g2];simp
  ·unfold nC;simp only[g];rfl
 ·exact .tidy rfl (.inl (.done rfl ht))
def Ht(o:Option Int)(bd:Int):Bool:=match o with
 |some h=>decide (bd>h)
 |none=>false
def rO(f:aB)(dm:List (Int×Int))(t ip:Int)(dA:ah→Bool)(o:Option Int)(T:Int):Option Int:=
 match getM cg T dm with
 |none=>o
 |some bd=>if Ht o bd then o else
  match qn f.aQ bd with
  |none=>o
  |some d=>if(d.aF==t)&&(d.bg != 0)&&dA d.bK then some bd else o
def kr(f:aB)(dm:List (Int×Int))(t ip:Int)(dA:ah→Bool)(ts:List Int):Option Int:=ts.foldl (rO f dm t ip dA) none
theorem KA(n:Nat)(f:aB)(own:Int)(k:Nat)(cr:List Bool)(us:List (bE Int×List Int))(dm tn:List (Int×Int))(sb:List (aa×Bool))(hm:List (aa×aj))(t ip:Int)(ts:List Int)(dA:ah→Bool)
 (hts:ts.length<100000) (htn:ts.length<n) (hdm:∀T bd,getM cg T dm=some bd→∃d,qn f.aQ bd=some d) (hcon:∀d∈f.aQ,At (de.S n (d.bK,ip)) (fun(b:Bool)=>b=dA d.bK)):
 At (qi.c.S n (f,own,k,cr,us,dm,tn,sb,hm,t,ts,ip)) (fun r=>r=((kr f dm t ip dA ts).getD 0,(kr f dm t ip dA ts).isSome)):=by
 refine(?_ :cH n (lH f own k cr us dm tn sb hm t ts ip) _);unfold lH;have atmem:∀{bd:Int} {d:BD},qn f.aQ bd=some d→d∈f.aQ:=fun {bd d} h=>by
  unfold qn at h;split at h
  ·exact List.mem_of_getElem? h
  ·cases h
 let st:Int×Bool×Int→Int×Option Int:=fun a=>(a.2.2,if a.2.1 then some a.1 else none)
 refine .skip (.op () rfl (.skip (.loop (fun a=>dP ts (fun pre o=>o=kr f dm t ip dA pre) (st a)∧(a.2.1=false→a.1=0)) (fun a=>ts.length - a.2.2.toNat) (fun r=>r=((kr f dm t ip dA ts).getD 0,(kr f dm t ip dA ts).isSome)) rfl ⟨dP.start rfl,fun _=>rfl⟩ (by simpa using htn) (fun a ha=>?_) (fun r hr=>?_))))
 ·obtain⟨ha,ha0⟩:=ha;obtain⟨a1,a2,a3⟩:=a;have ha0:a2=false→a1=0:=ha0;have hval:∀o,(if a2=true then some a1 else none)=o→(a1,a2)=(o.getD 0,o.isSome):=fun o ho=>by
   cases a2 with
   |true=>subst ho;rfl
   |false=>subst ho;rw[ha0 rfl];rfl
  refine .skip (.br (fun h=>?_) fun h=>.skip (.done rfl (hval _ (ha.fin h))))
  obtain⟨T,pre,h1,h2,h3,_,h5⟩:=ha.get h;have h3:(if a2=true then some a1 else none)=kr f dm t ip dA pre:=h3
  have step:∀o',o'=rO f dm t ip dA (if a2=true then some a1 else none) T→o'=kr f dm t ip dA (pre++[T]):=fun o' ho=>by
   rw[ho,h3];unfold kr;rw[List.foldl_append];rfl
  have keep:rO f dm t ip dA (if a2=true then some a1 else none) T=(if a2=true then some a1 else none)→kP (fun a=>dP ts (fun pre o=>o=kr f dm t ip dA pre) (st a)∧(a.2.1=false→a.1=0)) (fun a=>ts.length - a.2.2.toNat) (fun r=>r=((kr f dm t ip dA ts).getD 0,(kr f dm t ip dA ts).isSome)) (a1,a2,a3) (.inl (a1,a2,IntKind.wrap .i64 (a3+1))):=fun e=>by
   obtain⟨q1,q2⟩:=h5 hts _ (step _ e.symm);exact⟨⟨q1,ha0⟩,q2⟩
  have put:∀bd,rO f dm t ip dA (if a2=true then some a1 else none) T=some bd→kP (fun a=>dP ts (fun pre o=>o=kr f dm t ip dA pre) (st a)∧(a.2.1=false→a.1=0)) (fun a=>ts.length - a.2.2.toNat) (fun r=>r=((kr f dm t ip dA ts).getD 0,(kr f dm t ip dA ts).isSome)) (a1,a2,a3) (.inl (bd,true,IntKind.wrap .i64 (a3+1))):=fun bd e=>by
   obtain⟨q1,q2⟩:=h5 hts _ (step _ e.symm);exact⟨⟨q1,fun h=>by cases h⟩,q2⟩
  refine .skip (.op T h1 (.skip (.op () rfl (.skip ?_))));cases hf:aW cg T dm 0 with
  |none=>
   have hg:getM cg T dm=none:=by unfold getM;rw[hf];rfl
   exact .br (fun g=>.skip (.done rfl (keep (by unfold rO;rw[hg])))) fun g=>by simp at g
  |some x=>
   have hg:getM cg T dm=some x.2:=by unfold getM;rw[hf];rfl
   obtain⟨d,hd⟩:=hdm T x.2 hg;refine .br (fun g=>by simp at g) fun g=>.skip ?_
   have hat:qn f.aQ ((Option.map (fun x:Nat×Int=>x.2) (some x)).getD 0)=some d:=hd
   have rest:Ht (if a2=true then some a1 else none) x.2=false→
    rO f dm t ip dA (if a2=true then some a1 else none) T=if(d.aF==t)&&(d.bg != 0)&&dA d.bK then some x.2 else(if a2=true then some a1 else none):=fun e=>by
    unfold rO;rw[hg];simp only[e,hd];rw[if_neg (by simp)]
   refine .br (fun g1=>.skip (.br (fun g2=>.skip (.done rfl (keep ?_))) fun g2=>?_)) fun g1=>?_
   ·have g1:a2=true:=g1;have e:Ht (if a2=true then some a1 else none) x.2=true:=by rw[if_pos g1];exact g2
    unfold rO;rw[hg];simp only[e,if_true]
   ·have hr:=rest (by rw[if_pos (show a2=true from g1)];exact g2)
    refine .skip (.op d hat (.skip (.br (fun c1=>.skip (.br (fun c2=>.skip (.call _ (hcon d (atmem hd)) fun r35 h35=>.skip (.br (fun c3=>.skip (.done rfl (put _ ?_))) fun c3=>.skip (.done rfl (keep ?_))))) fun c2=>.skip (.done rfl (keep ?_)))) fun c1=>.skip (.done rfl (keep ?_)))))
    ·rw[hr,if_pos (by rw[c1,c2,← h35,c3];rfl)];rfl
    ·rw[hr,if_neg (by rw[← h35,c3];simp)]
    ·rw[hr,if_neg (by rw[c2];simp)]
    ·rw[hr,if_neg (by rw[c1];simp)]
   ·have hr:=rest (by rw[if_neg (by rw[show a2=false from g1];simp)];rfl)
    refine .skip (.op d hat (.skip (.br (fun c1=>.skip (.br (fun c2=>.skip (.call _ (hcon d (atmem hd)) fun r35 h35=>.skip (.br (fun c3=>.skip (.done rfl (put _ ?_))) fun c3=>.skip (.done rfl (keep ?_))))) fun c2=>.skip (.done rfl (keep ?_)))) fun c1=>.skip (.done rfl (keep ?_)))))
    ·rw[hr,if_pos (by rw[c1,c2,← h35,c3];rfl)];rfl
    ·rw[hr,if_neg (by rw[← h35,c3];simp)]
    ·rw[hr,if_neg (by rw[c2];simp)]
    ·rw[hr,if_neg (by rw[c1];simp)]
 ·subst hr;exact .skip (.tidy rfl (.inl (.done rfl rfl)))
end Go.L
end
section
namespace Go.L
open Go.AM
def AU(own:Int)(t:Int)(sb:List (aa×Bool))(rt:Int×Bool)(r:bL):Option aj:=
 if(r.A.Next==own)||(r.N.Label==0)|| !rt.2||((getM aV ⟨t,r.N.ah⟩ sb).getD false)then none
 else some ⟨Go.L.au.mk t r.N.ah (-1) r.A.Next r.N.Label 0 rt.1,Go.L.cE.mk 2 0 0 0 r.A.Next r.N⟩
def kR(hm:List (aa×aj))(o:Option aj):List (aa×aj):=match o with
 |none=>hm
 |some x=>eP hm x
theorem Iv(n:Nat)(hn:11≤n)(f:aB)(own:Int)(k:Nat)(cr:List Bool)(us:List (bE Int×List Int))(dm tn:List (Int×Int))(sb:List (aa×Bool))(hm:List (aa×aj))(t:Int)(r:bL)(rt:Int×Bool)
 (hrt:At (dU.S n r.A.dF) (fun(q:Int×Bool)=>q=rt)):
 At (hG.c.S n (f,own,k,cr,us,dm,tn,sb,hm,t,r)) (fun m=>m=kR hm (AU own t sb rt r)):=by
 refine(?_ :cH n (jZ f own k cr us dm tn sb hm t r) _);unfold jZ;refine .skip (.call _ hrt fun(q:Int×Bool) hq=>.skip ?_)
 subst hq;refine .br (fun h1=>.skip (.tidy rfl (.inl (.done rfl ?_)))) fun h1=>.skip (.br (fun h2=>.skip (.tidy rfl (.inl (.done rfl ?_)))) fun h2=>.skip (.br (fun h3=>.skip (.tidy rfl (.inl (.done rfl ?_)))) fun h3=>.skip (.op () rfl (.skip (.br (fun h4=>.skip (.tidy rfl (.inl (.done rfl ?_)))) fun h4=>.skip (.inl (.bz _ (sH n hn f own k cr us dm tn sb hm _) fun m hm2=>.tidy rfl (.inl (.done rfl ?_)))))))))
 ·unfold AU;rw[if_pos (by rw[h1];rfl)];rfl
 ·unfold AU;rw[if_pos (by rw[h2];simp)];rfl
 ·unfold AU;rw[if_pos (by rw[show(!q.2)=true from h3];simp)];rfl
 ·have h4:(getM aV ⟨t,r.N.ah⟩ sb).getD false=true:=h4;unfold AU;rw[if_pos (by rw[h4];simp)];rfl
 ·have h4:(getM aV ⟨t,r.N.ah⟩ sb).getD false=false:=h4;unfold AU;rw[if_neg (by grind)];exact hm2
def qZ(e:bE Int):Bool:=((e.a0==(0:Int))&&((e.a1==(0:Int))&&((e.a2==(0:Int))&&((e.a3==(0:Int))&&((e.a4==(0:Int))&&((e.a5==(0:Int))&&((e.a6==(0:Int))&&((e.a7==(0:Int))&&((e.a8==(0:Int))&&((e.a9==(0:Int))&&true))))))))))
def nD(r:bL)(own:Int):Int:=if r.A.Next=own then 0 else 1
def iU(r:bL):Int:=if qZ r.N.az=true then 1 else 0
def oD(r:bL)(own sq:Int)(h:au):aj:=⟨h,Go.L.cE.mk 1 (nD r own) sq (iU r) r.A.Next r.N⟩
def Hu(us:List (bE Int×List Int))(e:bE Int)(bd:Int):Bool:=decide (bd∈(getM eM e us).getD [])
def vj(f:aB)(own:Int)(cr:List Bool)(us:List (bE Int×List Int))(dm:List (Int×Int))(t:Int)(dA:ah→Bool)(sq:Int)(rt:Int×Bool)(ts:List Int)(r:bL):Option aj:=
 match kr f dm t r.N.IP dA ts with
 |none=>none
 |some bd=>
  if !((cr[bd.toNat]?).getD false)||(!((r.A.Next==own)||Hu us r.N.az bd)&&(f.cG != 1))then
   if(r.A.Next==own)||(r.N.cV==0)|| !rt.2 then none
   else some (oD r own sq (Go.L.au.mk t (Go.L.ah.mk r.N.IP 32) (-1) r.A.Next r.N.cV 0 rt.1))
  else some (oD r own sq (Go.L.au.mk t (Go.L.ah.mk r.N.IP 32) bd 0 0 r.N.bU 0))
theorem KB(n:Nat)(hn:11≤n)(f:aB)(own:Int)(k:Nat)(cr:List Bool)(us:List (bE Int×List Int))(dm tn:List (Int×Int))(sb:List (aa×Bool))(hm:List (aa×aj))(t:Int)(ts:List Int)(r:bL)(dA:ah→Bool)(sq:Int)(rt:Int×Bool)
 (hrt:At (dU.S n r.A.dF) (fun(q:Int×Bool)=>q=rt)) (hmob:At (cQ.S n r.A.dF) (fun(q:Bool×Int×Bool)=>q.2.1=sq))
 (hts:ts.length<100000) (htn:ts.length<n) (hdm:∀T bd,getM cg T dm=some bd→0≤bd∧bd<f.aQ.length) (hcon:∀d∈f.aQ,At (de.S n (d.bK,r.N.IP)) (fun(b:Bool)=>b=dA d.bK))
 (hk:k=f.aQ.length) (hcr:cr.length=f.aQ.length) (hus:∀e l,getM eM e us=some l→l.length<n∧l.length<100000):
 At (lK.c.S n (f,own,k,cr,us,dm,tn,sb,hm,t,ts,r)) (fun m=>m=kR hm (vj f own cr us dm t dA sq rt ts r)):=by
 refine(?_ :cH n (lJ f own k cr us dm tn sb hm t ts r) _);unfold lJ;have hdm2:∀T bd,getM cg T dm=some bd→∃d,qn f.aQ bd=some d:=fun T bd h=>by
  obtain⟨h0,h1⟩:=hdm T bd h;refine⟨f.aQ[bd.toNat]'(by omega),?_⟩
  grind [qL]
 have hrange:∀l:List Int,∀o:Option Int,(∀h:Int,o=some h→0≤h∧h<f.aQ.length)→∀h:Int,l.foldl (rO f dm t r.N.IP dA) o=some h→0≤h∧h<f.aQ.length:=by
  intro l;induction l with
  |nil=>exact fun o ho=>ho
  |cons T l ih=>
   intro o ho;refine ih _ fun h hh=>?_
   unfold rO at hh;grind
 refine .skip (.inl (.bz _ (KA n f own k cr us dm tn sb hm t r.N.IP ts dA hts htn hdm2 hcon) fun r13 h13=>.skip ?_))
 subst h13;cases hh:kr f dm t r.N.IP dA ts with
 |none=>
  have hs:vj f own cr us dm t dA sq rt ts r=none:=by unfold vj;rw[hh]
  rw[hs];exact .br (fun _=>.skip (.tidy rfl (.inl (.done rfl rfl)))) fun h=>by cases h
 |some bd=>
  obtain⟨hb0,hb1⟩:0≤bd∧bd<f.aQ.length:=hrange ts none (fun h e=>by cases e) bd hh
  have hc:bd.toNat<cr.length:=by omega
  have hcb:cr[bd.toNat]? =some (cr[bd.toNat]'hc):=List.getElem?_eq_getElem hc;have hsp:vj f own cr us dm t dA sq rt ts r=if !(cr[bd.toNat]'hc)||(!((r.A.Next==own)||Hu us r.N.az bd)&&(f.cG != 1))then
   if(r.A.Next==own)||(r.N.cV==0)|| !rt.2 then none
   else some (oD r own sq (Go.L.au.mk t (Go.L.ah.mk r.N.IP 32) (-1) r.A.Next r.N.cV 0 rt.1))
   else some (oD r own sq (Go.L.au.mk t (Go.L.ah.mk r.N.IP 32) bd 0 0 r.N.bU 0)):=by
   unfold vj;rw[hh];simp only[hcb,Option.getD_some]
  generalize vj f own cr us dm t dA sq rt ts r=S at hsp;generalize cr[bd.toNat]'hc=cb at hsp hcb;refine .br (fun h=>by cases h) fun _=>.skip (.br (fun hmine=>.skip (.op () (if_pos ⟨hb0,by rw[hk];exact hb1⟩) (.op cb hcb (.skip ?_)))) fun hmine=>.skip ?_)
  ·rw[hmine]at hsp;refine .br (fun g=>.skip (.call _ hrt fun(q:Int×Bool) hq=>.skip (.br (fun _=>.skip (.tidy rfl (.inl (.done rfl ?_)))) fun h=>?_))) fun g=>.skip ?_
   ·rw[hsp,if_pos (by rw[show(!cb)=true from g];rfl)];rfl
   ·rw[hmine]at h;cases h
   ·have hspec:∀h:au,h=Go.L.au.mk t (Go.L.ah.mk r.N.IP 32) bd 0 0 r.N.bU 0→kR hm S=eP hm (oD r own sq h):=fun h e=>by
     subst e;rw[hsp,if_neg (by rw[show(!cb)=false from g];simp)];rfl
    refine .call _ hmob fun q hq=>.skip (.join (fun(x:Int)=>x=nD r own) ?_ fun x hx=>.skip (.join (fun(y:Int)=>y=iU r) ?_ fun y hy=>.skip (.inl (.bz _ (sH n hn f own k cr us dm tn sb hm _) fun m hm2=>.tidy rfl (.inl (.done rfl ?_))))))
    ·refine .br (fun h=>.skip (.done rfl ?_)) fun h=>.skip (.done rfl ?_)
     ·grind
     ·unfold nD;rw[if_pos (by simpa using h)]
    ·refine .br (fun h=>.skip (.done rfl ?_)) fun h=>.skip (.done rfl ?_)
     ·unfold iU;rw[if_pos (show qZ r.N.az=true from h)]
     ·unfold iU;rw[if_neg (by rw[show qZ r.N.az=false from h];simp)]
    ·subst hx hy;rw[hm2,hq];exact(hspec _ rfl).symm
  ·have usd:∀(l:List Int),(getM eM r.N.az us).getD []=l→Hu us r.N.az bd=decide (bd∈l):=fun l e=>by unfold Hu;rw[e]
   refine .sp (fun hsome=>?_) fun hnone=>?_
   ·cases hf:aW oT r.N.az us 0 with
    |none=>rw[hf]at hsome;cases hsome
    |some z=>
    have hgl:getM eM r.N.az us=some z.2:=by unfold getM;rw[show aW eM r.N.az us 0=some z from hf];rfl
    obtain⟨l1,l2⟩:=hus _ _ hgl;have hin:=usd z.2 (by rw[hgl];rfl)
    refine .op z.2 (by show(aW oT r.N.az us 0).map (·.2)=_;rw[hf];rfl) (.skip (.call _ (vQ n z.2 bd l1 l2) fun(b:Bool) hb=>.skip (.op () (if_pos ⟨hb0,by rw[hk];exact hb1⟩) (.op cb hcb (.skip ?_)))))
    rw[← hb]at hin;simp only[hmine,hin,Bool.false_or]at hsp;refine .br (fun g=>.skip (.call _ hrt fun(q:Int×Bool) hq=>.skip (.br (fun h=>by rw[hmine]at h;cases h) fun _=>.skip (.br (fun h2=>.skip (.tidy rfl (.inl (.done rfl ?_)))) fun h2=>.skip (.br (fun h3=>.skip (.tidy rfl (.inl (.done rfl ?_)))) fun h3=>.skip ?_))))) fun g=>.skip ?_
    ·rw[hsp,if_pos (by rw[show(!cb)=true from g];rfl),if_pos (by rw[h2];simp)];rfl
    ·subst hq;rw[hsp,if_pos (by rw[show(!cb)=true from g];rfl),if_pos (by rw[show(!q.2)=true from h3];simp)];rfl
    ·subst hq;have hspec:∀h:au,h=Go.L.au.mk t (Go.L.ah.mk r.N.IP 32) (-1) r.A.Next r.N.cV 0 q.1→kR hm S=eP hm (oD r own sq h):=fun h e=>by
      subst e;rw[hsp,if_pos (by rw[show(!cb)=true from g];rfl),if_neg (by grind)];rfl
     refine .call _ hmob fun q hq=>.skip (.join (fun(x:Int)=>x=nD r own) ?_ fun x hx=>.skip (.join (fun(y:Int)=>y=iU r) ?_ fun y hy=>.skip (.inl (.bz _ (sH n hn f own k cr us dm tn sb hm _) fun m hm2=>.tidy rfl (.inl (.done rfl ?_))))))
     ·refine .br (fun h=>.skip (.done rfl ?_)) fun h=>.skip (.done rfl ?_)
      ·unfold nD;rw[if_neg (by simpa using h)]
      grind
     ·refine .br (fun h=>.skip (.done rfl ?_)) fun h=>.skip (.done rfl ?_)
      ·unfold iU;rw[if_pos (show qZ r.N.az=true from h)]
      ·unfold iU;rw[if_neg (by rw[show qZ r.N.az=false from h];simp)]
     ·subst hx hy;rw[hm2,hq];exact(hspec _ rfl).symm
    ·rw[show(!cb)=false from g,Bool.false_or]at hsp;refine .br (fun g2=>.skip (.join (fun(x:Unit⊕(Int×Int×Int×Int×Int))=>match x with
      | .inl _=>kR hm S=hm
      | .inr h=>∀m2,m2=eP hm (oD r own sq (Go.L.au.mk t (Go.L.ah.mk r.N.IP 32) h.1 h.2.1 h.2.2.1 h.2.2.2.1 h.2.2.2.2))→kR hm S=m2) ?_ fun x hx=>?_)) fun g2=>.skip ?_
     ·rw[show(!b)=true from g2,Bool.true_and]at hsp;refine .br (fun g3=>.skip (.call _ hrt fun(q:Int×Bool) hq=>.skip (.br (fun h=>by rw[hmine]at h;cases h) fun _=>.skip (.br (fun h2=>.skip (.done rfl ?_)) fun h2=>.skip (.br (fun h3=>.skip (.done rfl ?_)) fun h3=>.skip (.done rfl ?_)))))) fun g3=>.skip (.done rfl ?_)
      ·show kR hm S=hm;rw[hsp,if_pos g3,if_pos (by rw[h2];simp)];rfl
      ·show kR hm S=hm;subst hq;rw[hsp,if_pos g3,if_pos (by rw[show(!q.2)=true from h3];simp)];rfl
      ·subst hq;intro m2 e;rw[e,hsp,if_pos g3,if_neg (by grind)];rfl
      ·intro m2 e;rw[e,hsp,if_neg (by rw[g3];simp)];rfl
     ·cases x with
      |inl u=>exact .tidy rfl (.inl (.done rfl (show hm=kR hm S from hx.symm)))
      |inr h=>
       refine .skip ?_;have hspec:∀h2:au,h2=Go.L.au.mk t (Go.L.ah.mk r.N.IP 32) h.1 h.2.1 h.2.2.1 h.2.2.2.1 h.2.2.2.2→kR hm S=eP hm (oD r own sq h2):=fun h2 e=>by
        subst e;exact hx _ rfl
       refine .call _ hmob fun q hq=>.skip (.join (fun(x:Int)=>x=nD r own) ?_ fun x hx=>.skip (.join (fun(y:Int)=>y=iU r) ?_ fun y hy=>.skip (.inl (.bz _ (sH n hn f own k cr us dm tn sb hm _) fun m hm2=>.tidy rfl (.inl (.done rfl ?_))))))
       ·refine .br (fun h=>.skip (.done rfl ?_)) fun h=>.skip (.done rfl ?_)
        ·unfold nD;rw[if_neg (by simpa using h)]
        grind
       ·refine .br (fun h=>.skip (.done rfl ?_)) fun h=>.skip (.done rfl ?_)
        ·unfold iU;rw[if_pos (show qZ r.N.az=true from h)]
        ·unfold iU;rw[if_neg (by rw[show qZ r.N.az=false from h];simp)]
       ·subst hx hy;rw[hm2,hq];exact(hspec _ rfl).symm
     ·have hspec:∀h2:au,h2=Go.L.au.mk t (Go.L.ah.mk r.N.IP 32) bd 0 0 r.N.bU 0→kR hm S=eP hm (oD r own sq h2):=fun h2 e=>by
       subst e;rw[hsp,if_neg (by rw[show(!b)=false from g2];simp)];rfl
      refine .call _ hmob fun q hq=>.skip (.join (fun(x:Int)=>x=nD r own) ?_ fun x hx=>.skip (.join (fun(y:Int)=>y=iU r) ?_ fun y hy=>.skip (.inl (.bz _ (sH n hn f own k cr us dm tn sb hm _) fun m hm2=>.tidy rfl (.inl (.done rfl ?_))))))
      ·refine .br (fun h=>.skip (.done rfl ?_)) fun h=>.skip (.done rfl ?_)
       ·unfold nD;rw[if_neg (by simpa using h)]
       grind
      ·refine .br (fun h=>.skip (.done rfl ?_)) fun h=>.skip (.done rfl ?_)
       ·unfold iU;rw[if_pos (show qZ r.N.az=true from h)]
       ·unfold iU;rw[if_neg (by rw[show qZ r.N.az=false from h];simp)]
      ·subst hx hy;rw[hm2,hq];exact(hspec _ rfl).symm
   ·have hf:aW oT r.N.az us 0=none:=by
     cases hf:aW oT r.N.az us 0 with
     |none=>rfl
     |some z=>rw[hf]at hnone;cases hnone
    have hgl:getM eM r.N.az us=none:=by unfold getM;rw[show aW eM r.N.az us 0=none from hf];rfl
    have hin:=usd [] (by rw[hgl];rfl)
    refine .op () (by show(if(aW oT r.N.az us 0).isSome then none else some ())=_;rw[hf];rfl) (.skip (.call _ (vQ n [] bd (by show 0<n;omega) (by decide)) fun(b:Bool) hb=>.skip (.op () (if_pos ⟨hb0,by rw[hk];exact hb1⟩) (.op cb hcb (.skip ?_)))))
    rw[← hb]at hin;simp only[hmine,hin,Bool.false_or]at hsp;refine .br (fun g=>.skip (.call _ hrt fun(q:Int×Bool) hq=>.skip (.br (fun h=>by rw[hmine]at h;cases h) fun _=>.skip (.br (fun h2=>.skip (.tidy rfl (.inl (.done rfl ?_)))) fun h2=>.skip (.br (fun h3=>.skip (.tidy rfl (.inl (.done rfl ?_)))) fun h3=>.skip ?_))))) fun g=>.skip ?_
    ·rw[hsp,if_pos (by rw[show(!cb)=true from g];rfl),if_pos (by rw[h2];simp)];rfl
    ·subst hq;rw[hsp,if_pos (by rw[show(!cb)=true from g];rfl),if_pos (by rw[show(!q.2)=true from h3];simp)];rfl
    ·subst hq;have hspec:∀h:au,h=Go.L.au.mk t (Go.L.ah.mk r.N.IP 32) (-1) r.A.Next r.N.cV 0 q.1→kR hm S=eP hm (oD r own sq h):=fun h e=>by
      subst e;rw[hsp,if_pos (by rw[show(!cb)=true from g];rfl),if_neg (by grind)];rfl
     refine .call _ hmob fun q hq=>.skip (.join (fun(x:Int)=>x=nD r own) ?_ fun x hx=>.skip (.join (fun(y:Int)=>y=iU r) ?_ fun y hy=>.skip (.inl (.bz _ (sH n hn f own k cr us dm tn sb hm _) fun m hm2=>.tidy rfl (.inl (.done rfl ?_))))))
     ·refine .br (fun h=>.skip (.done rfl ?_)) fun h=>.skip (.done rfl ?_)
      ·unfold nD;rw[if_neg (by simpa using h)]
      grind
     ·refine .br (fun h=>.skip (.done rfl ?_)) fun h=>.skip (.done rfl ?_)
      ·unfold iU;rw[if_pos (show qZ r.N.az=true from h)]
      ·unfold iU;rw[if_neg (by rw[show qZ r.N.az=false from h];simp)]
     ·subst hx hy;rw[hm2,hq];exact(hspec _ rfl).symm
    ·rw[show(!cb)=false from g,Bool.false_or]at hsp;refine .br (fun g2=>.skip (.join (fun(x:Unit⊕(Int×Int×Int×Int×Int))=>match x with
      | .inl _=>kR hm S=hm
      | .inr h=>∀m2,m2=eP hm (oD r own sq (Go.L.au.mk t (Go.L.ah.mk r.N.IP 32) h.1 h.2.1 h.2.2.1 h.2.2.2.1 h.2.2.2.2))→kR hm S=m2) ?_ fun x hx=>?_)) fun g2=>.skip ?_
     ·rw[show(!b)=true from g2,Bool.true_and]at hsp;refine .br (fun g3=>.skip (.call _ hrt fun(q:Int×Bool) hq=>.skip (.br (fun h=>by rw[hmine]at h;cases h) fun _=>.skip (.br (fun h2=>.skip (.done rfl ?_)) fun h2=>.skip (.br (fun h3=>.skip (.done rfl ?_)) fun h3=>.skip (.done rfl ?_)))))) fun g3=>.skip (.done rfl ?_)
      ·show kR hm S=hm;rw[hsp,if_pos g3,if_pos (by rw[h2];simp)];rfl
      ·show kR hm S=hm;subst hq;rw[hsp,if_pos g3,if_pos (by rw[show(!q.2)=true from h3];simp)];rfl
      ·subst hq;intro m2 e;rw[e,hsp,if_pos g3,if_neg (by grind)];rfl
      ·intro m2 e;rw[e,hsp,if_neg (by rw[g3];simp)];rfl
     ·cases x with
      |inl u=>exact .tidy rfl (.inl (.done rfl (show hm=kR hm S from hx.symm)))
      |inr h=>
       refine .skip ?_;have hspec:∀h2:au,h2=Go.L.au.mk t (Go.L.ah.mk r.N.IP 32) h.1 h.2.1 h.2.2.1 h.2.2.2.1 h.2.2.2.2→kR hm S=eP hm (oD r own sq h2):=fun h2 e=>by
        subst e;exact hx _ rfl
       refine .call _ hmob fun q hq=>.skip (.join (fun(x:Int)=>x=nD r own) ?_ fun x hx=>.skip (.join (fun(y:Int)=>y=iU r) ?_ fun y hy=>.skip (.inl (.bz _ (sH n hn f own k cr us dm tn sb hm _) fun m hm2=>.tidy rfl (.inl (.done rfl ?_))))))
       ·refine .br (fun h=>.skip (.done rfl ?_)) fun h=>.skip (.done rfl ?_)
        ·unfold nD;rw[if_neg (by simpa using h)]
        grind
       ·refine .br (fun h=>.skip (.done rfl ?_)) fun h=>.skip (.done rfl ?_)
        ·unfold iU;rw[if_pos (show qZ r.N.az=true from h)]
        ·unfold iU;rw[if_neg (by rw[show qZ r.N.az=false from h];simp)]
       ·subst hx hy;rw[hm2,hq];exact(hspec _ rfl).symm
     grind
end Go.L
end
section
namespace Go.L
open Go.AM
def sK(r:bL):Bool:=(r.N.Kind==2)&&r.N.dD
def fT(f:aB)(own:Int)(cr:List Bool)(us:List (bE Int×List Int))(dm tn:List (Int×Int))(sb:List (aa×Bool))(dA:ah→Bool)(sq:Int)(rt:Int×Bool)(ts:List Int)(r:bL)(T:Int):List aj:=
 match getM cg T tn with
 |none=>[]
 |some t=>if sK r then(vj f own cr us dm t dA sq rt ts r).toList else(AU own t sb rt r).toList
def mU(f:aB)(own:Int)(cr:List Bool)(us:List (bE Int×List Int))(dm tn:List (Int×Int))(sb:List (aa×Bool))(dA:ah→Bool)(sq:Int)(rt:Int×Bool)(ts:List Int)(r:bL):List aj:=
 if sK r||(r.N.Kind==5)then ts.flatMap (fT f own cr us dm tn sb dA sq rt ts r)else[]
theorem Dn(hm:List (aa×aj))(o:Option aj):kR hm o=o.toList.foldl eP hm:=by cases o<;>rfl
theorem JE(n:Nat)(hn:11≤n)(f:aB)(own:Int)(k:Nat)(cr:List Bool)(us:List (bE Int×List Int))(dm tn:List (Int×Int))(sb:List (aa×Bool))(hm:List (aa×aj))(ts:List Int)(r:bL)(dA:ah→Bool)(sq:Int)(rt:Int×Bool)
 (htg:At (dh.S n r.A.dF) (fun(q:List Int)=>q=ts)) (hrt:At (dU.S n r.A.dF) (fun(q:Int×Bool)=>q=rt)) (hmob:At (cQ.S n r.A.dF) (fun(q:Bool×Int×Bool)=>q.2.1=sq))
 (hts:ts.length<100000) (htn:ts.length<n) (hdm:∀T bd,getM cg T dm=some bd→0≤bd∧bd<f.aQ.length) (hcon:∀d∈f.aQ,At (de.S n (d.bK,r.N.IP)) (fun(b:Bool)=>b=dA d.bK))
 (hk:k=f.aQ.length) (hcr:cr.length=f.aQ.length) (hus:∀e l,getM eM e us=some l→l.length<n∧l.length<100000):
 At (oU.c.S n (f,own,k,cr,us,dm,tn,sb,hm,r)) (fun m=>m=(mU f own cr us dm tn sb dA sq rt ts r).foldl eP hm):=by
 refine(?_ :cH n (kQ f own k cr us dm tn sb hm r) _);unfold kQ;have found:∀(T:Int) (x:Nat×Int),aW gV T tn 0=some x→getM cg T tn=some x.2:=fun T x h=>by unfold getM;rw[show aW cg T tn 0=some x from h];rfl
 have lost:∀(T:Int),aW gV T tn 0=none→getM cg T tn=none:=fun T h=>by unfold getM;rw[show aW cg T tn 0=none from h];rfl
 refine .skip (.br (fun k2=>.skip (.br (fun nip=>.skip (.br (fun k5=>.skip (.tidy rfl (.inl (.done rfl ?_)))) fun k5=>?_)) fun nip=>?_)) fun k2=>.skip (.br (fun k5=>.skip (.tidy rfl (.inl (.done rfl ?_)))) fun k5=>?_))
 ·have:mU f own cr us dm tn sb dA sq rt ts r=[]:=by
   unfold mU sK;rw[show r.N.dD=false by simpa using nip]
   rw[if_neg];simp only[bne_iff_ne]at k5;simp[k5]
  rw[this];rfl
 ·simp only[beq_iff_eq]at k2;rw[k2]at k5;exact absurd k5 (by decide)
 ·have hip:r.N.dD=true:=by simpa using nip
  have hh:sK r=true:=by unfold sK;rw[k2,hip];rfl
  have hR:mU f own cr us dm tn sb dA sq rt ts r=ts.flatMap (fT f own cr us dm tn sb dA sq rt ts r):=by unfold mU;rw[hh];rfl
  rw[hR];refine .skip (.call _ htg fun(q:List Int) hq=>?_)
  subst hq;refine .skip (.op () rfl (.skip (.loop (dP q fun pre m=>m=(pre.flatMap (fT f own cr us dm tn sb dA sq rt q r)).foldl eP hm) (fun a=>q.length - a.1.toNat) (fun m=>m=(q.flatMap (fT f own cr us dm tn sb dA sq rt q r)).foldl eP hm) rfl (dP.start rfl) (by simpa using htn) (fun a ha=>?_) (fun m hm2=>.tidy rfl (.inl (.done rfl hm2))))))
  refine .skip (.br (fun g=>?_) fun g=>.skip (.done rfl (ha.fin g)))
  obtain⟨T,pre,h1,h2,h3,_,h5⟩:=ha.get g;have next:∀m,m=(fT f own cr us dm tn sb dA sq rt q r T).foldl eP a.2→m=((pre++[T]).flatMap (fT f own cr us dm tn sb dA sq rt q r)).foldl eP hm:=fun m e=>by
   rw[e,List.flatMap_append,List.foldl_append,← h3];simp
  refine .skip (.op T h1 (.skip (.op () rfl (.skip ?_))));cases hf:aW gV T tn 0 with
  |none=>exact .br (fun _=>.skip (.done rfl (h5 hts _ (next _ (by unfold fT;rw[lost T hf];rfl))))) fun e=>by cases e
  |some x=>
   refine .br (fun e=>by cases e) fun _=>.skip (.join (fun m=>m=kR a.2 (vj f own cr us dm x.2 dA sq rt q r)) ?_ fun m e=>.skip (.done rfl (h5 hts _ (next _ ?_))))
   ·exact .br (fun _=>.skip (.inl (.bz _ (KB n hn f own k cr us dm tn sb a.2 x.2 q r dA sq rt hrt hmob hts htn hdm hcon hk hcr hus) fun m e=>.done rfl e))) fun e=>by rw[hip]at e;cases e
   ·rw[e,Dn];unfold fT;rw[found T x hf];simp only[hh,if_true]
 ·have:mU f own cr us dm tn sb dA sq rt ts r=[]:=by
   unfold mU sK;rw[k2,if_neg];simp only[bne_iff_ne]at k5;simp[k5]
  rw[this];rfl
 ·have hk5:r.N.Kind=5:=by simpa using k5
  have hh:sK r=false:=by unfold sK;rw[k2];rfl
  have hR:mU f own cr us dm tn sb dA sq rt ts r=ts.flatMap (fT f own cr us dm tn sb dA sq rt ts r):=by unfold mU;rw[hh,hk5];rfl
  rw[hR];refine .skip (.call _ htg fun(q:List Int) hq=>?_)
  subst hq;refine .skip (.op () rfl (.skip (.loop (dP q fun pre m=>m=(pre.flatMap (fT f own cr us dm tn sb dA sq rt q r)).foldl eP hm) (fun a=>q.length - a.1.toNat) (fun m=>m=(q.flatMap (fT f own cr us dm tn sb dA sq rt q r)).foldl eP hm) rfl (dP.start rfl) (by simpa using htn) (fun a ha=>?_) (fun m hm2=>.tidy rfl (.inl (.done rfl hm2))))))
  refine .skip (.br (fun g=>?_) fun g=>.skip (.done rfl (ha.fin g)))
  obtain⟨T,pre,h1,h2,h3,_,h5⟩:=ha.get g;have next:∀m,m=(fT f own cr us dm tn sb dA sq rt q r T).foldl eP a.2→m=((pre++[T]).flatMap (fT f own cr us dm tn sb dA sq rt q r)).foldl eP hm:=fun m e=>by
   rw[e,List.flatMap_append,List.foldl_append,← h3];simp
  refine .skip (.op T h1 (.skip (.op () rfl (.skip ?_))));cases hf:aW gV T tn 0 with
  |none=>exact .br (fun _=>.skip (.done rfl (h5 hts _ (next _ (by unfold fT;rw[lost T hf];rfl))))) fun e=>by cases e
  |some x=>
   refine .br (fun e=>by cases e) fun _=>.skip (.inl (.bz _ (Iv n hn f own k cr us dm tn sb a.2 x.2 r rt hrt) fun m e=>.skip (.done rfl (h5 hts _ (next _ ?_)))))
   rw[e,Dn];unfold fT;rw[found T x hf];simp only[hh,Bool.false_eq_true,if_false]
end Go.L
end
section
namespace Go.L
open Go.AM
def gQ(x:au):aa:=⟨x.aF,x.ah⟩
def lM(k:fH)(x:au):au:=Go.L.au.mk k.To x.ah x.BD x.Next x.eN x.bU x.cG
theorem AV(k:fH)(x:au):gQ (lM k x)=⟨k.To,x.ah⟩:=rfl
def bw(aN:ah→ah→Bool)(k:fH)(s:List au×List (aa×Bool))(x:au):List au×List (aa×Bool):=
 if x.aF != k.From then s
 else if(getM aV ⟨k.To,x.ah⟩ s.2).getD false then s
 else if !aN k.ah x.ah then s
 else(s.1++[lM k x],bS aV ⟨k.To,x.ah⟩ true s.2)
def iu(own:List au):List (aa×Bool):=own.foldl (fun m x=>bS aV (gQ x) true m) []
def xq(aN:ah→ah→Bool)(leaks:List fH)(own:List au):List au×List (aa×Bool):=leaks.foldl (fun s k=>own.foldl (bw aN k) s) (own,iu own)
def jj(aN:ah→ah→Bool)(k:fH)(all:List au)(x:au):Bool:=(x.aF==k.From)&& !(decide ((⟨k.To,x.ah⟩:aa)∈all.map gQ))&&aN k.ah x.ah
def mh(aN:ah→ah→Bool)(own:List au)(all:List au)(k:fH):List au:=all++(own.filter (jj aN k all)).map (lM k)
def oE(aN:ah→ah→Bool)(leaks:List fH)(own:List au):List au:=leaks.foldl (mh aN own) own
def Tk(s:List au×List (aa×Bool)):Prop:=∀p,(getM aV p s.2).getD false=decide (p∈s.1.map gQ)
theorem Tk.add{s:List au×List (aa×Bool)}(h:Tk s)(x:au):Tk (s.1++[x],bS aV (gQ x) true s.2):=by
 intro p;rw[E8 Fa];by_cases hp:p=gQ x
 ·rw[if_pos hp];simp[hp]
 ·rw[if_neg hp,h p];simp only[List.map_append,List.map_cons,List.map_nil,List.mem_append,List.mem_singleton,hp,or_false]
theorem JF(own:List au):Tk (own,iu own):=by
 have:∀(l:List au) (s:List au×List (aa×Bool)),Tk s→Tk (s.1++l,l.foldl (fun m x=>bS aV (gQ x) true m) s.2):=by
  intro l;induction l with
  |nil=>intro s h;simpa using h
  |cons x l ih=>
   intro s h;have:=ih _ (h.add x);simpa using this
 have h:=this own ([],[]) (fun p=>by simp[JC])
 simpa[iu]using h
theorem round_eq(aN:ah→ah→Bool)(k:fH):∀(own:List au) (s:List au×List (aa×Bool)),(own.map gQ).Nodup→Tk s→(own.foldl (bw aN k) s).1=mh aN own s.1 k∧Tk (own.foldl (bw aN k) s)
 | [],s,_,h=>⟨by simp[mh],h⟩
 |x::xs,s,hn,h=>by
  simp only[List.map_cons,List.nodup_cons]at hn;simp only[List.foldl_cons];have hc:jj aN k s.1 x=true∨jj aN k s.1 x=false:=by cases jj aN k s.1 x<;>simp
  rcases hc with hc |hc
  ·have hx:bw aN k s x=(s.1++[lM k x],bS aV ⟨k.To,x.ah⟩ true s.2):=by
    unfold jj at hc;simp only[Bool.and_eq_true,beq_iff_eq,Bool.not_eq_true',decide_eq_false_iff_not]at hc;unfold bw;rw[if_neg (by simp[hc.1.1]),if_neg (by rw[h];simpa using hc.1.2),if_neg (by simp[hc.2])]
   rw[hx];obtain⟨i1,i2⟩:=round_eq aN k xs (s.1++[lM k x],bS aV ⟨k.To,x.ah⟩ true s.2) hn.2 (h.add (lM k x));refine⟨?_,i2⟩;rw[i1];unfold mh;have hfr:x.aF=k.From:=by
    unfold jj at hc;simp only[Bool.and_eq_true,beq_iff_eq]at hc;exact hc.1.1
   have:xs.filter (jj aN k (s.1++[lM k x]))=xs.filter (jj aN k s.1):=by
    apply List.filter_congr;intro y hy;unfold jj;by_cases hyt:y.aF=k.From
    ·have hne:(⟨k.To,y.ah⟩:aa)≠gQ (lM k x):=by
      rw[AV];intro e;have e2:y.ah=x.ah:=by injection e
      exact hn.1 (List.mem_map.2 ⟨y,hy,by unfold gQ;rw[hyt,hfr,e2]⟩)
     simp only[List.map_append,List.map_cons,List.map_nil,List.mem_append,List.mem_singleton,hne,or_false]
    ·have hb:(y.aF==k.From)=false:=by simpa using hyt
     simp only[hb,Bool.false_and]
   simp only[List.filter_cons,hc,if_true,List.map_cons,List.append_assoc,this,List.cons_append,List.nil_append]
  ·have hx:bw aN k s x=s:=by
    unfold jj at hc;unfold bw;by_cases h1:x.aF=k.From
    ·rw[if_neg (by simp[h1])]
     by_cases h2:(⟨k.To,x.ah⟩:aa)∈s.1.map gQ
     ·rw[if_pos (by rw[h];simpa using h2)]
     ·rw[if_neg (by rw[h];simpa using h2)]
      have h3:aN k.ah x.ah=false:=by simpa[h1,h2]using hc
      rw[if_pos (by rw[h3];rfl)]
    ·rw[if_pos (by simpa using h1)]
   rw[hx];obtain⟨i1,i2⟩:=round_eq aN k xs s hn.2 h;refine⟨?_,i2⟩;rw[i1];unfold mh;simp only[List.filter_cons,hc,Bool.false_eq_true,if_false]
theorem Ff(aN:ah→ah→Bool)(leaks:List fH)(own:List au)(hn:(own.map gQ).Nodup):(xq aN leaks own).1=oE aN leaks own:=by
 have:∀(ls:List fH) (s:List au×List (aa×Bool)),Tk s→(ls.foldl (fun s k=>own.foldl (bw aN k) s) s).1=ls.foldl (mh aN own) s.1:=by
  intro ls;induction ls with
  |nil=>intro s _;rfl
  |cons k ls ih=>
   intro s h;obtain⟨h1,h2⟩:=round_eq aN k own s hn h;simp only[List.foldl_cons];rw[ih _ h2,h1]
 exact this leaks _ (JF own)
theorem Hv(aN:ah→ah→Bool){own own' all all':List au}(h1:own.Perm own')(h2:all.Perm all')(k:fH):(mh aN own all k).Perm (mh aN own' all' k):=by
 unfold mh;have:jj aN k all=jj aN k all':=funext fun x=>by
  unfold jj;have:(⟨k.To,x.ah⟩:aa)∈all.map gQ↔(⟨k.To,x.ah⟩:aa)∈all'.map gQ:=(h2.map gQ).mem_iff;simp only[this]
 rw[this];exact h2.append ((h1.filter _).map _)
theorem BR(aN:ah→ah→Bool)(leaks:List fH){own own':List au}(h:own.Perm own'):(oE aN leaks own).Perm (oE aN leaks own'):=by
 have:∀(ls:List fH) (a a':List au),a.Perm a'→(ls.foldl (mh aN own) a).Perm (ls.foldl (mh aN own') a'):=by
  intro ls;induction ls with
  |nil=>intro a a' h;exact h
  |cons k ls ih=>intro a a' ha;exact ih _ _ (Hv aN h ha k)
 exact this leaks own own' h
theorem FR(aN:ah→ah→Bool){own all:List au}(h1:(own.map gQ).Nodup)(h2:(all.map gQ).Nodup)(k:fH):((mh aN own all k).map gQ).Nodup:=by
 unfold mh;rw[List.map_append,List.nodup_append];refine⟨h2,?_,fun p hp q hq=>?_⟩
 ·have hsub:((own.filter (jj aN k all)).map gQ).Nodup:=(List.filter_sublist.map gQ).nodup h1;have hfrom:∀x∈own.filter (jj aN k all),x.aF=k.From:=fun x hx=>by
   have:=(List.mem_filter.1 hx).2;unfold jj at this;simp only[Bool.and_eq_true,beq_iff_eq]at this;exact this.1.1
  generalize own.filter (jj aN k all)=l at hsub hfrom;induction l with
  |nil=>exact List.nodup_nil
  |cons x l ih=>
   simp only[List.map_cons,List.nodup_cons]at hsub ⊢;refine⟨fun hx=>?_,ih hsub.2 fun y hy=>hfrom y (List.mem_cons_of_mem _ hy)⟩
   obtain⟨y',hy',he⟩:=List.mem_map.1 hx;obtain⟨y,hy,rfl⟩:=List.mem_map.1 hy';rw[AV,AV]at he;have e2:y.ah=x.ah:=by injection he
   exact hsub.1 (List.mem_map.2 ⟨y,hy,by unfold gQ;rw[hfrom y (List.mem_cons_of_mem _ hy),hfrom x List.mem_cons_self,e2]⟩)
 ·rintro rfl;obtain⟨y',hy',rfl⟩:=List.mem_map.1 hq;obtain⟨y,hy,rfl⟩:=List.mem_map.1 hy';have:=(List.mem_filter.1 hy).2;unfold jj at this;simp only[Bool.and_eq_true,Bool.not_eq_true',decide_eq_false_iff_not]at this;exact this.1.2 hp
theorem Aj(aN:ah→ah→Bool)(leaks:List fH){own:List au}(h:(own.map gQ).Nodup):((oE aN leaks own).map gQ).Nodup:=by
 have:∀(ls:List fH) (a:List au),(a.map gQ).Nodup→((ls.foldl (mh aN own) a).map gQ).Nodup:=by
  intro ls;induction ls with
  |nil=>intro a h;exact h
  |cons k ls ih=>intro a ha;exact ih _ (FR aN h ha k)
 exact this leaks own h
end Go.L
end
section
namespace Go.L
open Go.AM
theorem Ak{K V:Type}{eq:K→K→Bool}(heq:∀a b,eq a b=true↔a=b)(l:List (K×V))(k:K)(v:V)(h:getM eq k (gw eq l)=some v):(k,v)∈l:=by
 have hd:∀(a b:K),Decidable (a=b):=fun a b=>decidable_of_iff _ (heq a b)
 have:∀(l:List (K×V)) (m:List (K×V)),getM eq k (l.foldl (fun m p=>bS eq p.1 p.2 m) m)=some v→(k,v)∈l∨getM eq k m=some v:=by
  intro l;induction l with
  |nil=>exact fun m h=>.inr h
  |cons p l ih=>
   intro m h;rcases ih _ h with h |h
   ·exact .inl (List.mem_cons_of_mem _ h)
   ·rw[E8 heq]at h;split at h
    ·rename_i he;cases h;exact .inl (by rw[he];exact List.mem_cons_self)
    ·exact .inr h
 rcases this l [] h with h |h
 ·exact h
 ·cases h
theorem Dp{α β:Type}{g:Nat→α→List β}{l:List α}{y:β}(h:y∈eZ g l):∃i x,l[i]? =some x∧y∈g i x:=by
 unfold eZ at h;obtain⟨p,hp,hy⟩:=List.mem_flatMap.1 h;exact⟨p.2,p.1,List.mem_zipIdx_iff_getElem?.1 hp,hy⟩
theorem Mz(a b:Int):cg a b=true↔a=b:=by unfold cg;simp
theorem MA(a b:bE Int):eM a b=true↔a=b:=by
 unfold eM;simp only[Bool.and_eq_true,beq_iff_eq,and_true];constructor
 ·rintro⟨h0,h1,h2,h3,h4,h5,h6,h7,h8,h9⟩;cases a;cases b;simp only at h0 h1 h2 h3 h4 h5 h6 h7 h8 h9;subst h0 h1 h2 h3 h4 h5 h6 h7 h8 h9;rfl
 ·rintro rfl;exact⟨rfl,rfl,rfl,rfl,rfl,rfl,rfl,rfl,rfl,rfl⟩
def xJ(f:aB)(self:Int):List Bool:=(List.range f.aQ.length).map fun b=>decide (((b:Nat):Int)∈f.aP.flatMap (uL self))
def Gl(f:aB)(self:Int)(up:List Bool)(es:Int→bE Int):List (bE Int×List Int):=gw eM (eZ (sI self up es) f.aP)
def Iy(f:aB):List (Int×Int):=gw cg (eZ (fun i d=>[(d.Target,(i:Int))]) f.aQ)
def J6(f:aB):List (Int×Int):=gw cg (eZ (fun i t=>[(t.Target,(i:Int))]) f.bh)
def K9(f:aB)(self:Int):List (aa×Bool):=(vi f (xJ f self)).foldl zy []
structure jc where
 lo:Int
 es:Int→bE Int
 dA:ah→Int→Bool
 aN:ah→ah→Bool
 tg:bL→List Int
 rt:bL→Int×Bool
 sq:bL→Int
def BS(f:aB)(self:Int)(up:List Bool)(K:jc)(r:bL):List aj:=
 mU f K.lo (xJ f self) (Gl f self up K.es) (Iy f) (J6 f) (K9 f self) (fun p=>K.dA p r.N.IP) (K.sq r) (K.rt r) (K.tg r) r
def kT(f:aB)(self:Int)(up:List Bool)(K:jc)(rs:List bL):List aj:=vi f (xJ f self)++rs.flatMap (BS f self up K)
def qq(f:aB)(self:Int)(up:List Bool)(K:jc)(rs:List bL):List (aa×aj):=(kT f self up K rs).foldl eP []
def kU(hm:List (aa×aj)):List au:=hm.map fun e=>e.2.au
theorem La(f:aB)(T bd:Int)(h:getM cg T (Iy f)=some bd):0≤bd∧bd<f.aQ.length:=by
 obtain⟨i,x,h1,h2⟩:=Dp (Ak Mz _ _ _ h);simp only[List.mem_singleton,Prod.mk.injEq]at h2;have:=(List.getElem?_eq_some_iff.1 h1).1;omega
theorem Lb(f:aB)(self:Int)(up:List Bool)(es:Int→bE Int)(e:bE Int)(l:List Int)(h:getM eM e (Gl f self up es)=some l):∃s∈f.aP,l=s.aQ:=by
 obtain⟨i,x,h1,h2⟩:=Dp (Ak MA _ _ _ h);unfold sI at h2;split at h2
 ·simp only[List.mem_singleton,Prod.mk.injEq]at h2;exact⟨x,List.mem_of_getElem? h1,h2.2⟩
 ·cases h2
theorem Hs.LH{f:aB}{self:Int}{up:List Bool}{es:Int→bE Int}{lo:Int}{r:List Bool×List (bE Int×List Int)×List (Int×Int)×List (Int×Int)×List (aa×Bool)×List (aa×aj)×aB×Int×Nat}(h:Hs f self up es lo r):r.1=xJ f self:=by
 apply List.ext_getElem?;intro b;unfold xJ;by_cases hb:b<f.aQ.length
 ·rw[h.cr b hb];simp[hb]
 ·rw[List.getElem?_eq_none (by rw[h.My];omega),List.getElem?_eq_none (by simp;omega)]
def rP(hm:List (aa×aj)):Prop:=(hm.map (·.1)).Nodup∧∀e∈hm,e.1=vh e.2
theorem rP.put{hm:List (aa×aj)}(h:rP hm)(x:aj):rP (eP hm x):=by
 refine⟨(BP h.1 x).1,fun e he=>?_⟩
 unfold eP at he;have key:∀e∈bS aV (vh x) x hm,e.1=vh e.2:=fun e he=>by
  obtain⟨p,y⟩:=e;rcases(K8 Fa hm (vh x) x h.1 p y).1 he with⟨rfl,rfl⟩ |⟨_,h2⟩
  ·rfl
  ·exact h.2 _ h2
 split at he
 ·exact key e he
 ·split at he
  ·exact key e he
  ·exact h.2 e he
theorem rP.fold{hm:List (aa×aj)}(h:rP hm):∀(cs:List aj),rP (cs.foldl eP hm)
 | []=>h
 |x::cs=>(h.put x).fold cs
theorem Dq:∀(cs:List aj) (hm:List (aa×aj)),(hm.map (·.1)).Nodup→(cs.foldl eP hm).length≤hm.length+cs.length
 | [],hm,_=>Nat.le_refl _
 |x::cs,hm,h=>by
  have h1:=BP h x;have h2:=Dq cs (eP hm x) h1.1;simp only[List.foldl_cons,List.length_cons];omega
theorem CA(f:aB)(self:Int)(up:List Bool)(K:jc)(rs:List bL):rP (qq f self up K rs):=rP.fold (hm:=[]) ⟨List.nodup_nil,fun _ h=>by cases h⟩ _
theorem BT{hm:List (aa×aj)}(h:rP hm):((kU hm).map gQ).Nodup:=by
 have:(kU hm).map gQ=hm.map (·.1):=by
  unfold kU;rw[List.map_map];apply List.map_congr_left;intro e he;exact(h.2 e he).symm
 rw[this];exact h.1
def Mg:au:=Go.L.au.mk 0 (Go.L.ah.mk 0 0) 0 0 0 0 0
def Fh(hm:List (aa×aj))(i:Nat):au:=((hm[i]?).map fun e=>e.2.au).getD Mg
theorem Hw(hm:List (aa×aj)):(List.range hm.length).map (Fh hm)=kU hm:=by
 apply List.ext_getElem
 ·simp[kU]
 ·intro i h1 h2;have h:i<hm.length:=by simpa using h1
  simp[Fh,kU,h]
end Go.L
end
section
namespace Go.L
open Go.AM
structure sL(n:Nat)(f:aB)(leaf:Int)(up:List Bool)(rs:List bL)(K:jc)(srt:List au→List au):Prop where
 hn:11≤n
 ck:At (dg.S n f) (fun(r:Int×ByteArray×Int)=>r.1=0)
 h0:0≤leaf
 h1:leaf<f.Leaves
 lo:At (iH.S n (f,leaf)) (fun r=>r=K.lo)
 seg:BQ n f
 es:∀i:Nat,i<f.aP.length→At (gJ.S n (i:Int)) (fun(r:bE Int×Int)=>r.1=K.es i)
 rl:rs.length<100000
 rn:rs.length<n
 tg:∀r∈rs,At (dh.S n r.A.dF) (fun(q:List Int)=>q=K.tg r)
 rt:∀r∈rs,At (dU.S n r.A.dF) (fun(q:Int×Bool)=>q=K.rt r)
 sq:∀r∈rs,At (cQ.S n r.A.dF) (fun(q:Bool×Int×Bool)=>q.2.1=K.sq r)
 tl:∀r∈rs,(K.tg r).length<100000∧(K.tg r).length<n
 dA:∀r∈rs,∀d∈f.aQ,At (de.S n (d.bK,r.N.IP)) (fun(b:Bool)=>b=K.dA d.bK r.N.IP)
 aN:∀k∈f.Leaks,∀p,At (iE.S n (k.ah,p)) (fun(b:Bool)=>b=K.aN k.ah p)
 kl:f.Leaks.length<100000
 kn:f.Leaks.length<n
 cs:(kT f leaf up K rs).length<90000
 sz:((kT f leaf up K rs).length+1)*(f.Leaks.length+2)<1000000000
 cn:(kT f leaf up K rs).length+1<n
 so:∀l:List au,l.length<1000000000→At (ig.S n l) (fun r=>r=srt l)
 sl:∀l:List au,(srt l).length=l.length
theorem Iz(aN:ah→ah→Bool)(k:fH)(s:List au×List (aa×Bool))(x:au):(bw aN k s x).1.length≤s.1.length+1∧∃e,(bw aN k s x).1=s.1++e:=by
 unfold bw;split
 ·exact⟨Nat.le_succ _,[],by simp⟩
 split
 ·exact⟨Nat.le_succ _,[],by simp⟩
 split
 ·exact⟨Nat.le_succ _,[],by simp⟩
 ·exact⟨by simp,[lM k x],rfl⟩
theorem jd(aN:ah→ah→Bool)(k:fH):∀(p:List au) (s:List au×List (aa×Bool)),(p.foldl (bw aN k) s).1.length≤s.1.length+p.length∧∃e,(p.foldl (bw aN k) s).1=s.1++e
 | [],s=>⟨Nat.le_refl _,[],by simp⟩
 |x::p,s=>by
  obtain⟨h1,e1,h2⟩:=Iz aN k s x;obtain⟨h3,e3,h4⟩:=jd aN k p (bw aN k s x);simp only[List.foldl_cons,List.length_cons];exact⟨by omega,e1++e3,by rw[h4,h2,List.append_assoc]⟩
def dY(aN:ah→ah→Bool)(own:List au)(pre:List fH):List au×List (aa×Bool):=pre.foldl (fun s k=>own.foldl (bw aN k) s) (own,iu own)
theorem oV(aN:ah→ah→Bool)(own:List au):∀(pre:List fH) (s:List au×List (aa×Bool)),(pre.foldl (fun s k=>own.foldl (bw aN k) s) s).1.length≤s.1.length+pre.length*own.length∧∃e,(pre.foldl (fun s k=>own.foldl (bw aN k) s) s).1=s.1++e
 | [],s=>⟨by simp,[],by simp⟩
 |k::pre,s=>by
  obtain⟨h1,e1,h2⟩:=jd aN k own s;obtain⟨h3,e3,h4⟩:=oV aN own pre (own.foldl (bw aN k) s);simp only[List.foldl_cons,List.length_cons];refine⟨?_,e1++e3,by rw[h4,h2,List.append_assoc]⟩
  rw[Nat.add_mul];omega
abbrev Al:=List (aa×Bool)
def mj:(Int×List au×Al)⊕(Int×List au×List au×Al)→Int×(List au×Al)
 | .inl a=>(a.1,a.2.1,a.2.2)
 | .inr a=>(a.1,a.2.2.1,a.2.2.2)
def xz:(Int×List au×Al)⊕(Int×List au×List au×Al)→List au
 | .inl a=>a.2.1
 | .inr a=>a.2.1
def zz:(List au×Al)⊕(List au×List au×Al)→List au×Al
 | .inl a=>a
 | .inr a=>a.2
def zA:(List au×Al)⊕(List au×List au×Al)→List au
 | .inl a=>a.1
 | .inr a=>a.1
def Pre(own l:List au):Prop:=∃e,l=own++e
theorem Pre.get{own l:List au}(h:Pre own l){i:Nat}{x:au}(hx:own[i]? =some x):l[i]? =some x:=by
 obtain⟨e,rfl⟩:=h;rw[List.getElem?_append_left (List.getElem?_eq_some_iff.1 hx).1];exact hx
theorem Pre.snoc{own l:List au}(h:Pre own l)(x:au):Pre own (l++[x]):=by
 obtain⟨e,rfl⟩:=h;exact⟨e++[x],by rw[List.append_assoc]⟩
theorem Dr{ρ:Type}{nl:G prog ρ}{fi:List au→List au→G prog ρ}{p:ρ→Prop}(n:Nat)(f:aB)(leaf:Int)(up:List Bool)(rs:List bL)(K:jc)(srt:List au→List au)(H:sL n f leaf up rs K srt)
 (hfi:∀own:List au,own.Perm (kU (qq f leaf up K rs))→∀r,r=srt (xq K.aN f.Leaks own).1→b8 n (fi (xq K.aN f.Leaks own).1 r) p):b8 n (wH nl fi f leaf up rs) p:=by
 unfold wH;have hn0:0<n:=by have:=H.hn;omega
 have hnew:At (mT.c.S n (f,leaf,up)) (fun r=>r=(xJ f leaf,Gl f leaf up K.es,Iy f,J6 f,[],[],f,K.lo,f.aQ.length)):=
  (DM n f leaf K.lo up K.es H.lo H.seg H.es).mono fun r h=>by
   have h1:=h.LH;obtain⟨a1,a2,a3,a4,a5,a6,a7,a8,a9⟩:=r;have:=h.us;have:=h.dm;have:=h.tn;have:=h.sb;have:=h.hm;have:=h.fb;have:=h.own;have:=h.len;simp only at*
   subst_vars;rfl
 have hcrl:(xJ f leaf).length=f.aQ.length:=by simp[xJ]
 refine .skip (.call _ H.ck fun r5 h5=>.skip (.br (fun h=>by rw[h5]at h;cases h) fun _=>.skip (.br (fun h=>absurd H.h0 (by simpa using h)) fun _=>.skip (.br (fun h=>absurd H.h1 (by simpa using h)) fun _=>.skip (.inl (.bz _ hnew fun r9 h9=>?_))))))
 subst h9;refine .skip (.inl (.bz _ (Fe n H.hn f K.lo _ _ _ _ _ _ _ H.seg.b H.seg.bn rfl hcrl) fun r10 h10=>?_))
 subst h10;have hdm:=La f;have hus:∀e l,getM eM e (Gl f leaf up K.es)=some l→l.length<n∧l.length<100000:=fun e l h=>by
  obtain⟨s,hs,rfl⟩:=Lb f leaf up K.es e l h;obtain⟨_,_,q3,q4,_⟩:=H.seg.s s hs;exact⟨q3,q4⟩
 refine .skip (.op () rfl (.skip (.loop (dP rs fun pre m=>m=(pre.flatMap (BS f leaf up K)).foldl eP ((vi f (xJ f leaf)).foldl eP [])) (fun a=>rs.length - a.1.toNat) (fun m=>m=qq f leaf up K rs) rfl (dP.start rfl) (by simpa using H.rn) (fun a ha=>?_) (fun t26 h26=>?_))))
 ·refine .skip (.br (fun g=>?_) fun g=>.skip (.done rfl ?_))
  ·obtain⟨r,pre,g1,g2,g3,_,g5⟩:=ha.get g;obtain⟨l1,l2⟩:=H.tl r g2;refine .skip (.op r g1 (.skip (.inl (.bz _ (JE n H.hn f K.lo _ _ _ _ _ _ a.2 (K.tg r) r (fun p=>K.dA p r.N.IP) (K.sq r) (K.rt r) (H.tg r g2) (H.rt r g2) (H.sq r g2) l1 l2 hdm (H.dA r g2) rfl hcrl hus) fun m hm=>.skip (.done rfl (g5 H.rl _ ?_))))))
   rw[hm,g3,List.flatMap_append,List.foldl_append,List.flatMap_cons,List.flatMap_nil,List.append_nil];rfl
  ·have:=ha.fin g;show a.2=qq f leaf up K rs;rw[this];unfold qq kT;rw[List.foldl_append]
 subst h26;generalize hhm:qq f leaf up K rs=hm;have hkey:rP hm:=hhm▸CA f leaf up K rs;have hlen:hm.length≤(kT f leaf up K rs).length:=by
  rw[← hhm];unfold qq;simpa using Dq (kT f leaf up K rs) [] (by simp)
 have hsz:=H.sz;have hcn:=H.cn;have hcs:=H.cs;have hsm:hm.length<90000:=by omega
 have hroom:roomy (Int.toNat (((List.length hm):Nat):Int)) 56=true:=by
  simp only[roomy,Bool.and_eq_true,decide_eq_true_eq,Int.toNat_natCast];omega
 refine .skip (.inl (.skip (.op () rfl (.op () (if_pos ⟨Int.natCast_nonneg _,hroom⟩) (.skip (.op () rfl (.skip ?_)))))));refine .loop (fun a=>a.2.2.Nodup∧(∀i∈a.2.2,i<hm.length)∧a.1=a.2.2.map (Fh hm)∧a.2.1=iu a.1) (fun a=>hm.length - a.2.2.length) (fun t=>t.1.Perm (kU hm)∧t.2.1=iu t.1) rfl ⟨List.nodup_nil,(fun i (h:i∈([]:List Nat))=>(List.not_mem_nil h).elim),rfl,rfl⟩ (by show hm.length - 0<n;omega) (fun a ha=>?_) (fun t42 h42=>?_)
 ·obtain⟨hnd,hlt,hk,htk⟩:=ha;refine .pick (fun hall=>.skip (.done rfl ⟨?_,htk⟩)) (fun i hi hns=>?_)
  ·show a.1.Perm _;rw[hk,← Hw];exact(Iw hnd hlt hall).map _
  ·have hi':i<hm.length:=hi;have hl2:a.2.2.length<hm.length:=by
    have h1:(a.2.2++[i]).Nodup:=by
     rw[List.nodup_append];exact⟨hnd,by simp,fun x hx y hy=>by simp only[List.mem_singleton]at hy;subst hy;rintro rfl;exact hns hx⟩
    have h2:(a.2.2++[i]).length≤hm.length:=by
     have:=List.Nodup.length_le_of_subset h1 (l₂:=List.range hm.length) (fun x hx=>by
      rcases List.mem_append.1 hx with h |h
      ·exact List.mem_range.2 (hlt x h)
      ·simp only[List.mem_singleton]at h;subst h;exact List.mem_range.2 hi')
     simpa using this
    simp at h2;omega
   have hal:a.1.length=a.2.2.length:=by rw[hk];simp
   have r1:roomy (a.1.length+[(hm[i]'hi').2.au].length) 56=true:=by
    simp only[roomy,Bool.and_eq_true,decide_eq_true_eq,List.length_singleton];omega
   have r2:(a.2.2++[i]).Nodup:=by
    rw[List.nodup_append];exact⟨hnd,by simp,fun x hx y hy=>by simp only[List.mem_singleton]at hy;subst hy;rintro rfl;exact hns hx⟩
   have r3:∀x∈a.2.2++[i],x<hm.length:=fun x hx=>by
    rcases List.mem_append.1 hx with h |h
    ·exact hlt x h
    ·simp only[List.mem_singleton]at h;subst h;exact hi'
   have r4:a.1++[(hm[i]'hi').2.au]=(a.2.2++[i]).map (Fh hm):=by
    rw[List.map_append,← hk];simp[Fh,hi']
   have r5:bS aV (hm[i]'hi').1 true a.2.1=iu (a.1++[(hm[i]'hi').2.au]):=by
    rw[htk,hkey.2 _ (List.getElem_mem hi')];simp[iu,gQ,vh]
   have r6:hm.length - (a.2.2++[i]).length<hm.length - a.2.2.length:=by simp;omega
   exact .skip (.op (hm[i]'hi') (List.getElem?_eq_getElem hi') (.skip (.op () (if_pos ⟨rfl,r1⟩) (.skip (.op () rfl (.done rfl ⟨⟨r2,r3,r4,r5⟩,r6⟩))))))
 obtain⟨own,tk,seen⟩:=t42;obtain⟨hperm,htk⟩:=h42;simp only at hperm htk;subst htk;have hol:own.length=hm.length:=by rw[hperm.length_eq];simp[kU]
 have hkl:=H.kl;have bound:∀(a b:Nat),a≤f.Leaks.length→b≤own.length→own.length+a*own.length+b<1000000000:=fun a b h1 h2=>by
  have h3:a*own.length≤f.Leaks.length*own.length:=Nat.mul_le_mul_right _ h1;have h4:((kT f leaf up K rs).length+1)*(f.Leaks.length+2)=f.Leaks.length*((kT f leaf up K rs).length+1)+2*((kT f leaf up K rs).length+1):=by rw[Nat.mul_comm,Nat.add_mul]
  have h5:f.Leaks.length*own.length≤f.Leaks.length*((kT f leaf up K rs).length+1):=Nat.mul_le_mul_left _ (by omega)
  omega
 refine .skip (.op () rfl (.skip (.jh (fun a=>dP f.Leaks (fun pre s=>s=dY K.aN own pre) (mj a)∧Pre own (xz a)) (fun a=>f.Leaks.length - (mj a).1.toNat) (fun l=>l=(xq K.aN f.Leaks own).1) rfl ⟨dP.start rfl,[],(List.append_nil _).symm⟩ (by have:=H.kn;show f.Leaks.length - 0<n;omega) (fun a ha=>?_) (fun t80 h80=>?_))))
 ·have hol9:own.length<100000:=by omega
  cases a with
  |inl a=>
   obtain⟨ha,hbase⟩:=ha;refine .skip (.br (fun g=>?_) fun g=>.skip (.done rfl (congrArg Prod.fst (ha.fin g))))
   obtain⟨k,pre,g1,g2,g3,⟨gi,gpost,hgp⟩,g5⟩:=ha.get g;have g3:(a.2.1,a.2.2)=dY K.aN own pre:=g3;have hprl:pre.length≤f.Leaks.length:=by
    have:=congrArg List.length hgp;simp only[List.length_append,List.length_cons]at this;omega
   refine .skip (.op k g1 (.skip (.jh (fun a2=>dP own (fun p s=>s=p.foldl (bw K.aN k) (dY K.aN own pre)) (mj a2)∧Pre own (xz a2)) (fun a2=>own.length - (mj a2).1.toNat) (fun e=>zz e=own.foldl (bw K.aN k) (dY K.aN own pre)∧Pre own (zA e)) rfl ⟨dP.start g3,hbase⟩ (by show own.length - 0<n;omega) (fun a2 ha2=>?_) (fun e he=>?_))))
   ·cases a2 with
    |inl b=>
     refine .skip (.br (fun c=>?_) fun c=>.skip (.done rfl ⟨ha2.1.fin c,ha2.2⟩))
     obtain⟨x,p,c1,c2,c3,⟨ci,cpost,hcp⟩,c5⟩:=ha2.1.get c;have ci:b.1=((p.length:Nat):Int):=ci;have hpl:p.length<own.length:=by
      have:=congrArg List.length hcp;simp only[List.length_append,List.length_cons]at this;omega
     have hxi:own[b.1.toNat]? =some x:=by
      have c1:qn own b.1=some x:=c1;rw[ci,qL]at c1;rw[ci];exact c1
     have hx1:=ha2.2.get hxi;have c3:(b.2.1,b.2.2)=p.foldl (bw K.aN k) (dY K.aN own pre):=c3;have hbound:(b.2.1).length<1000000000:=by
      have b1:=(jd K.aN k p (dY K.aN own pre)).1;have b2:=(oV K.aN own pre (own,iu own)).1;have b3:=bound pre.length p.length hprl (by omega)
      rw[← c3]at b1;have b2:(dY K.aN own pre).1.length≤own.length+pre.length*own.length:=b2;simp only at b1;omega
     have hroom1:roomy ((b.2.1).length+1) 56=true:=by
      simp only[roomy,Bool.and_eq_true,decide_eq_true_eq];omega
     have step:∀s',s'=bw K.aN k (b.2.1,b.2.2) x→s'=(p++[x]).foldl (bw K.aN k) (dY K.aN own pre):=fun s' e=>by
      rw[e,c3,List.foldl_append];rfl
     have hi0:0≤b.1∧b.1<((own.length:Nat):Int):=by omega
     have keep:bw K.aN k (b.2.1,b.2.2) x=(b.2.1,b.2.2)→_:=fun e=>(⟨⟨(c5 hol9 _ (step _ e.symm)).1,ha2.2⟩,(c5 hol9 _ (step _ e.symm)).2⟩:kP (fun a2=>dP own (fun p s=>s=p.foldl (bw K.aN k) (dY K.aN own pre)) (mj a2)∧Pre own (xz a2)) (fun a2=>own.length - (mj a2).1.toNat) (fun e=>zz e=own.foldl (bw K.aN k) (dY K.aN own pre)∧Pre own (zA e)) (.inl b) (.inl (.inl (IntKind.wrap .i64 (b.1+1),b.2.1,b.2.2))))
     refine .skip (.op () (if_pos hi0) (.op x hx1 (.skip (.br (fun d1=>.skip (.done rfl (keep (by unfold bw;rw[if_pos d1])))) fun d1=>.skip (.op () rfl (.skip (.br (fun d2=>.skip (.done rfl (keep ?_))) fun d2=>.skip (.call _ (H.aN k g2 x.ah) fun(r68:Bool) h68=>.skip (.br (fun d3=>.skip (.done rfl (keep ?_))) fun d3=>.skip (.op () rfl (.skip ?_)))))))))))
     ·have d2:(getM aV ⟨k.To,x.ah⟩ b.2.2).getD false=true:=d2;unfold bw;rw[if_neg (by rw[d1];simp),if_pos d2]
     ·have d2:(getM aV ⟨k.To,x.ah⟩ b.2.2).getD false=false:=d2;unfold bw;rw[if_neg (by rw[d1];simp),if_neg (by rw[d2];simp),if_pos (by rw[← h68];exact d3)]
     have d2:(getM aV ⟨k.To,x.ah⟩ b.2.2).getD false=false:=d2;have e:bw K.aN k (b.2.1,b.2.2) x=(b.2.1++[lM k x],bS aV ⟨k.To,x.ah⟩ true b.2.2):=by
      unfold bw;rw[if_neg (by rw[d1];simp),if_neg (by rw[d2];simp),if_neg (by rw[← h68,d3];simp)]
     have hok:GK.ok {l:=b.2.1,m:=[lM k x],enc:=bF,n:=8,bytes:=56,b:=7,ak:=0,len:=List.length b.2.1}=true:=by
      show(decide ((b.2.1).length=(b.2.1).length)&&roomy ((b.2.1).length+1) 56)=true;rw[hroom1];simp
     refine .grow hok (.skip (.done rfl ⟨⟨(c5 hol9 _ (step _ e.symm)).1,ha2.2.snoc _⟩,(c5 hol9 _ (step _ e.symm)).2⟩)) (.skip (.done rfl ⟨⟨(c5 hol9 _ (step _ e.symm)).1,ha2.2⟩,(c5 hol9 _ (step _ e.symm)).2⟩))
    |inr b=>
     refine .skip (.br (fun c=>?_) fun c=>.skip (.done rfl ⟨ha2.1.fin c,ha2.2⟩))
     obtain⟨x,p,c1,c2,c3,⟨ci,cpost,hcp⟩,c5⟩:=ha2.1.get c;have ci:b.1=((p.length:Nat):Int):=ci;have hpl:p.length<own.length:=by
      have:=congrArg List.length hcp;simp only[List.length_append,List.length_cons]at this;omega
     have hxi:own[b.1.toNat]? =some x:=by
      have c1:qn own b.1=some x:=c1;rw[ci,qL]at c1;rw[ci];exact c1
     have hx1:=ha2.2.get hxi;have c3:(b.2.2.1,b.2.2.2)=p.foldl (bw K.aN k) (dY K.aN own pre):=c3;have hbound:(b.2.2.1).length<1000000000:=by
      have b1:=(jd K.aN k p (dY K.aN own pre)).1;have b2:=(oV K.aN own pre (own,iu own)).1;have b3:=bound pre.length p.length hprl (by omega)
      rw[← c3]at b1;have b2:(dY K.aN own pre).1.length≤own.length+pre.length*own.length:=b2;simp only at b1;omega
     have hroom1:roomy ((b.2.2.1).length+1) 56=true:=by
      simp only[roomy,Bool.and_eq_true,decide_eq_true_eq];omega
     have step:∀s',s'=bw K.aN k (b.2.2.1,b.2.2.2) x→s'=(p++[x]).foldl (bw K.aN k) (dY K.aN own pre):=fun s' e=>by
      rw[e,c3,List.foldl_append];rfl
     have hi0:0≤b.1∧b.1<((own.length:Nat):Int):=by omega
     have keep:bw K.aN k (b.2.2.1,b.2.2.2) x=(b.2.2.1,b.2.2.2)→_:=fun e=>(⟨⟨(c5 hol9 _ (step _ e.symm)).1,ha2.2⟩,(c5 hol9 _ (step _ e.symm)).2⟩:kP (fun a2=>dP own (fun p s=>s=p.foldl (bw K.aN k) (dY K.aN own pre)) (mj a2)∧Pre own (xz a2)) (fun a2=>own.length - (mj a2).1.toNat) (fun e=>zz e=own.foldl (bw K.aN k) (dY K.aN own pre)∧Pre own (zA e)) (.inr b) (.inl (.inr (IntKind.wrap .i64 (b.1+1),b.2.1,b.2.2.1,b.2.2.2))))
     refine .skip (.op () (if_pos hi0) (.op x hx1 (.skip (.br (fun d1=>.skip (.done rfl (keep (by unfold bw;rw[if_pos d1])))) fun d1=>.skip (.op () rfl (.skip (.br (fun d2=>.skip (.done rfl (keep ?_))) fun d2=>.skip (.call _ (H.aN k g2 x.ah) fun(r68:Bool) h68=>.skip (.br (fun d3=>.skip (.done rfl (keep ?_))) fun d3=>.skip (.op () rfl (.skip ?_)))))))))))
     ·have d2:(getM aV ⟨k.To,x.ah⟩ b.2.2.2).getD false=true:=d2;unfold bw;rw[if_neg (by rw[d1];simp),if_pos d2]
     ·have d2:(getM aV ⟨k.To,x.ah⟩ b.2.2.2).getD false=false:=d2;unfold bw;rw[if_neg (by rw[d1];simp),if_neg (by rw[d2];simp),if_pos (by rw[← h68];exact d3)]
     have d2:(getM aV ⟨k.To,x.ah⟩ b.2.2.2).getD false=false:=d2;have e:bw K.aN k (b.2.2.1,b.2.2.2) x=(b.2.2.1++[lM k x],bS aV ⟨k.To,x.ah⟩ true b.2.2.2):=by
      unfold bw;rw[if_neg (by rw[d1];simp),if_neg (by rw[d2];simp),if_neg (by rw[← h68,d3];simp)]
     refine .op () (if_pos ⟨rfl,hroom1⟩) (.skip (.done rfl ⟨⟨(c5 hol9 _ (step _ e.symm)).1,ha2.2⟩,(c5 hol9 _ (step _ e.symm)).2⟩))
   ·have hP:∀s',s'=own.foldl (bw K.aN k) (dY K.aN own pre)→s'=dY K.aN own (pre++[k]):=fun s' e=>by rw[e];unfold dY;rw[List.foldl_append];rfl
    cases e with
    |inl t=>exact .skip (.done rfl ⟨⟨(g5 hkl _ (hP _ he.1)).1,he.2⟩,(g5 hkl _ (hP _ he.1)).2⟩)
    |inr t=>exact .skip (.done rfl ⟨⟨(g5 hkl _ (hP _ he.1)).1,he.2⟩,(g5 hkl _ (hP _ he.1)).2⟩)
  |inr a=>
   obtain⟨ha,hbase⟩:=ha;refine .skip (.br (fun g=>?_) fun g=>.skip (.done rfl (congrArg Prod.fst (ha.fin g))))
   obtain⟨k,pre,g1,g2,g3,⟨gi,gpost,hgp⟩,g5⟩:=ha.get g;have g3:(a.2.2.1,a.2.2.2)=dY K.aN own pre:=g3;have hprl:pre.length≤f.Leaks.length:=by
    have:=congrArg List.length hgp;simp only[List.length_append,List.length_cons]at this;omega
   refine .skip (.op k g1 (.skip (.jh (fun a2=>dP own (fun p s=>s=p.foldl (bw K.aN k) (dY K.aN own pre)) (mj a2)∧Pre own (xz a2)) (fun a2=>own.length - (mj a2).1.toNat) (fun e=>zz e=own.foldl (bw K.aN k) (dY K.aN own pre)∧Pre own (zA e)) rfl ⟨dP.start g3,hbase⟩ (by show own.length - 0<n;omega) (fun a2 ha2=>?_) (fun e he=>?_))))
   ·cases a2 with
    |inl b=>
     refine .skip (.br (fun c=>?_) fun c=>.skip (.done rfl ⟨ha2.1.fin c,ha2.2⟩))
     obtain⟨x,p,c1,c2,c3,⟨ci,cpost,hcp⟩,c5⟩:=ha2.1.get c;have ci:b.1=((p.length:Nat):Int):=ci;have hpl:p.length<own.length:=by
      have:=congrArg List.length hcp;simp only[List.length_append,List.length_cons]at this;omega
     have hxi:own[b.1.toNat]? =some x:=by
      have c1:qn own b.1=some x:=c1;rw[ci,qL]at c1;rw[ci];exact c1
     have hx1:=ha2.2.get hxi;have c3:(b.2.1,b.2.2)=p.foldl (bw K.aN k) (dY K.aN own pre):=c3;have hbound:(b.2.1).length<1000000000:=by
      have b1:=(jd K.aN k p (dY K.aN own pre)).1;have b2:=(oV K.aN own pre (own,iu own)).1;have b3:=bound pre.length p.length hprl (by omega)
      rw[← c3]at b1;have b2:(dY K.aN own pre).1.length≤own.length+pre.length*own.length:=b2;simp only at b1;omega
     have hroom1:roomy ((b.2.1).length+1) 56=true:=by
      simp only[roomy,Bool.and_eq_true,decide_eq_true_eq];omega
     have step:∀s',s'=bw K.aN k (b.2.1,b.2.2) x→s'=(p++[x]).foldl (bw K.aN k) (dY K.aN own pre):=fun s' e=>by
      rw[e,c3,List.foldl_append];rfl
     have hi0:0≤b.1∧b.1<((own.length:Nat):Int):=by omega
     have keep:bw K.aN k (b.2.1,b.2.2) x=(b.2.1,b.2.2)→_:=fun e=>(⟨⟨(c5 hol9 _ (step _ e.symm)).1,ha2.2⟩,(c5 hol9 _ (step _ e.symm)).2⟩:kP (fun a2=>dP own (fun p s=>s=p.foldl (bw K.aN k) (dY K.aN own pre)) (mj a2)∧Pre own (xz a2)) (fun a2=>own.length - (mj a2).1.toNat) (fun e=>zz e=own.foldl (bw K.aN k) (dY K.aN own pre)∧Pre own (zA e)) (.inl b) (.inl (.inl (IntKind.wrap .i64 (b.1+1),b.2.1,b.2.2))))
     refine .skip (.op () (if_pos hi0) (.op x hx1 (.skip (.br (fun d1=>.skip (.done rfl (keep (by unfold bw;rw[if_pos d1])))) fun d1=>.skip (.op () rfl (.skip (.br (fun d2=>.skip (.done rfl (keep ?_))) fun d2=>.skip (.call _ (H.aN k g2 x.ah) fun(r68:Bool) h68=>.skip (.br (fun d3=>.skip (.done rfl (keep ?_))) fun d3=>.skip (.op () rfl (.skip ?_)))))))))))
     ·have d2:(getM aV ⟨k.To,x.ah⟩ b.2.2).getD false=true:=d2;unfold bw;rw[if_neg (by rw[d1];simp),if_pos d2]
     ·have d2:(getM aV ⟨k.To,x.ah⟩ b.2.2).getD false=false:=d2;unfold bw;rw[if_neg (by rw[d1];simp),if_neg (by rw[d2];simp),if_pos (by rw[← h68];exact d3)]
     have d2:(getM aV ⟨k.To,x.ah⟩ b.2.2).getD false=false:=d2;have e:bw K.aN k (b.2.1,b.2.2) x=(b.2.1++[lM k x],bS aV ⟨k.To,x.ah⟩ true b.2.2):=by
      unfold bw;rw[if_neg (by rw[d1];simp),if_neg (by rw[d2];simp),if_neg (by rw[← h68,d3];simp)]
     have hok:GK.ok {l:=b.2.1,m:=[lM k x],enc:=bF,n:=8,bytes:=56,b:=7,ak:=0,len:=List.length b.2.1}=true:=by
      show(decide ((b.2.1).length=(b.2.1).length)&&roomy ((b.2.1).length+1) 56)=true;rw[hroom1];simp
     refine .grow hok (.skip (.done rfl ⟨⟨(c5 hol9 _ (step _ e.symm)).1,ha2.2.snoc _⟩,(c5 hol9 _ (step _ e.symm)).2⟩)) (.skip (.done rfl ⟨⟨(c5 hol9 _ (step _ e.symm)).1,ha2.2⟩,(c5 hol9 _ (step _ e.symm)).2⟩))
    |inr b=>
     refine .skip (.br (fun c=>?_) fun c=>.skip (.done rfl ⟨ha2.1.fin c,ha2.2⟩))
     obtain⟨x,p,c1,c2,c3,⟨ci,cpost,hcp⟩,c5⟩:=ha2.1.get c;have ci:b.1=((p.length:Nat):Int):=ci;have hpl:p.length<own.length:=by
      have:=congrArg List.length hcp;simp only[List.length_append,List.length_cons]at this;omega
     have hxi:own[b.1.toNat]? =some x:=by
      have c1:qn own b.1=some x:=c1;rw[ci,qL]at c1;rw[ci];exact c1
     have hx1:=ha2.2.get hxi;have c3:(b.2.2.1,b.2.2.2)=p.foldl (bw K.aN k) (dY K.aN own pre):=c3;have hbound:(b.2.2.1).length<1000000000:=by
      have b1:=(jd K.aN k p (dY K.aN own pre)).1;have b2:=(oV K.aN own pre (own,iu own)).1;have b3:=bound pre.length p.length hprl (by omega)
      rw[← c3]at b1;have b2:(dY K.aN own pre).1.length≤own.length+pre.length*own.length:=b2;simp only at b1;omega
     have hroom1:roomy ((b.2.2.1).length+1) 56=true:=by
      simp only[roomy,Bool.and_eq_true,decide_eq_true_eq];omega
     have step:∀s',s'=bw K.aN k (b.2.2.1,b.2.2.2) x→s'=(p++[x]).foldl (bw K.aN k) (dY K.aN own pre):=fun s' e=>by
      rw[e,c3,List.foldl_append];rfl
     have hi0:0≤b.1∧b.1<((own.length:Nat):Int):=by omega
     have keep:bw K.aN k (b.2.2.1,b.2.2.2) x=(b.2.2.1,b.2.2.2)→_:=fun e=>(⟨⟨(c5 hol9 _ (step _ e.symm)).1,ha2.2⟩,(c5 hol9 _ (step _ e.symm)).2⟩:kP (fun a2=>dP own (fun p s=>s=p.foldl (bw K.aN k) (dY K.aN own pre)) (mj a2)∧Pre own (xz a2)) (fun a2=>own.length - (mj a2).1.toNat) (fun e=>zz e=own.foldl (bw K.aN k) (dY K.aN own pre)∧Pre own (zA e)) (.inr b) (.inl (.inr (IntKind.wrap .i64 (b.1+1),b.2.1,b.2.2.1,b.2.2.2))))
     refine .skip (.op () (if_pos hi0) (.op x hx1 (.skip (.br (fun d1=>.skip (.done rfl (keep (by unfold bw;rw[if_pos d1])))) fun d1=>.skip (.op () rfl (.skip (.br (fun d2=>.skip (.done rfl (keep ?_))) fun d2=>.skip (.call _ (H.aN k g2 x.ah) fun(r68:Bool) h68=>.skip (.br (fun d3=>.skip (.done rfl (keep ?_))) fun d3=>.skip (.op () rfl (.skip ?_)))))))))))
     ·have d2:(getM aV ⟨k.To,x.ah⟩ b.2.2.2).getD false=true:=d2;unfold bw;rw[if_neg (by rw[d1];simp),if_pos d2]
     ·have d2:(getM aV ⟨k.To,x.ah⟩ b.2.2.2).getD false=false:=d2;unfold bw;rw[if_neg (by rw[d1];simp),if_neg (by rw[d2];simp),if_pos (by rw[← h68];exact d3)]
     have d2:(getM aV ⟨k.To,x.ah⟩ b.2.2.2).getD false=false:=d2;have e:bw K.aN k (b.2.2.1,b.2.2.2) x=(b.2.2.1++[lM k x],bS aV ⟨k.To,x.ah⟩ true b.2.2.2):=by
      unfold bw;rw[if_neg (by rw[d1];simp),if_neg (by rw[d2];simp),if_neg (by rw[← h68,d3];simp)]
     refine .op () (if_pos ⟨rfl,hroom1⟩) (.skip (.done rfl ⟨⟨(c5 hol9 _ (step _ e.symm)).1,ha2.2⟩,(c5 hol9 _ (step _ e.symm)).2⟩))
   ·have hP:∀s',s'=own.foldl (bw K.aN k) (dY K.aN own pre)→s'=dY K.aN own (pre++[k]):=fun s' e=>by rw[e];unfold dY;rw[List.foldl_append];rfl
    cases e with
    |inl t=>exact .skip (.done rfl ⟨⟨(g5 hkl _ (hP _ he.1)).1,he.2⟩,(g5 hkl _ (hP _ he.1)).2⟩)
    |inr t=>exact .skip (.done rfl ⟨⟨(g5 hkl _ (hP _ he.1)).1,he.2⟩,(g5 hkl _ (hP _ he.1)).2⟩)
 ·subst h80;have hll:(xq K.aN f.Leaks own).1.length<1000000000:=by
   have h1:=(oV K.aN own f.Leaks (own,iu own)).1;have h2:=bound f.Leaks.length 0 (Nat.le_refl _) (Nat.zero_le _);show(f.Leaks.foldl (fun s k=>own.foldl (bw K.aN k) s) (own,iu own)).1.length<1000000000
   simp only at h1;omega
  refine .skip (.tidy rfl (.inl (.skip (.gM _ (H.so _ hll) fun r75 h75=>.skip (hfi own (by rw[hhm];exact hperm) r75 h75)))))
theorem JG(n:Nat)(f:aB)(leaf:Int)(up:List Bool)(rs:List bL)(K:jc)(srt:List au→List au)(H:sL n f leaf up rs K srt):
 b8 n (mW f leaf up rs) (fun r=>∃own:List au,own.Perm (kU (qq f leaf up K rs))∧r=srt (xq K.aN f.Leaks own).1):=by
 refine Dr n f leaf up rs K srt H fun own hperm r75 h75=>.done ?_ ⟨own,hperm,h75⟩
 simp only[ej,tD,Bool.and_true];subst h75;exact decide_eq_true (by rw[List.length_map];exact(H.sl _).symm)
theorem IA(n:Nat)(f:aB)(leaf:Int)(up:List Bool)(rs:List bL)(K:jc)(srt:List au→List au)(H:sL n f leaf up rs K srt):
 b8 n (jv f leaf up rs) (fun r=>(∃own:List au,own.Perm (kU (qq f leaf up K rs))∧r.2=srt (xq K.aN f.Leaks own).1)∧r.1=r.2.length):=by
 refine Dr n f leaf up rs K srt H fun own hperm r75 h75=>.tidy rfl (.inl (.done rfl ⟨⟨own,hperm,h75⟩,?_⟩))
 rw[h75];exact(H.sl _).symm
end Go.L
end
section
namespace Go.L
open Go.AM
theorem FT{a b:au}(h:fR a=fR b):gQ a=gQ b:=by
 unfold fR at h;simp only[List.cons.injEq,and_true]at h;obtain⟨h1,h2,h3⟩:=h;unfold gQ;have:a.ah=b.ah:=by
  cases ha:a.ah;cases hb:b.ah;rw[ha,hb]at h2 h3;simp only at h2 h3;rw[h2,h3]
 rw[h1,this]
theorem Ds{α β:Type}{g:α→β}:∀{l:List α},(l.map g).Nodup→∀{a b:α},a∈l→b∈l→g a=g b→a=b
 |x::l,hn,a,b,ha,hb,h=>by
  simp only[List.map_cons,List.nodup_cons]at hn;rcases List.mem_cons.1 ha with e1 |ha2<;>rcases List.mem_cons.1 hb with e2 |hb2
  ·rw[e1,e2]
  ·exact absurd (List.mem_map.2 ⟨b,hb2,by rw[← h,e1]⟩) hn.1
  ·exact absurd (List.mem_map.2 ⟨a,ha2,by rw[h,e2]⟩) hn.1
  ·exact Ds hn.2 ha2 hb2 h
theorem xA{l l':List au}(h:l.Perm l')(hn:(l.map gQ).Nodup):eT l=eT l':=by
 refine List.Perm.eq_of_pairwise (le:=fun a b=>¬uI b a) (fun a b ha hb h1 h2=>?_) (iZ l).2 (iZ l').2 ((iZ l).1.trans (h.trans (iZ l').1.symm))
 have ha:=(iZ l).1.mem_iff.1 ha;have hb:=h.mem_iff.2 ((iZ l').1.mem_iff.1 hb);refine Ds hn ha hb (FT ?_);unfold uI nN at h1 h2;rw[sD]at h1;exact(sB (show(fR a).length=(fR b).length from rfl)).1 (by omega)
noncomputable def Kc(n:Nat)(f:aB)(leaf:Int):jc where
 lo:=(iH.S n (f,leaf)).getD (0:Int)
 es:=fun i=>((gJ.S n i).getD ((Hq,(0:Int)):bE Int×Int)).1
 dA:=fun p ip=>(de.S n (p,ip)).getD false
 aN:=fun p q=>(iE.S n (p,q)).getD false
 tg:=fun r=>(dh.S n r.A.dF).getD ([]:List Int)
 rt:=fun r=>(dU.S n r.A.dF).getD ((0,false):Int×Bool)
 sq:=fun r=>((cQ.S n r.A.dF).getD ((false,0,false):Bool×Int×Bool)).2.1
noncomputable def zB(f:aB)(leaf:Int)(up:List Bool)(rs:List bL)(K:jc):List au:=eT (oE K.aN f.Leaks (kU (qq f leaf up K rs)))
def BU(n:Nat)(f:aB)(leaf:Int):Prop:=At (dg.S n f) (fun(r:Int×ByteArray×Int)=>r.1≠0∨leaf<0∨f.Leaves≤leaf)
open Classical in
noncomputable def lN(n:Nat)(x:aB×Int×List Bool×List bL):Option (List au):=
 if sL n x.1 x.2.1 x.2.2.1 x.2.2.2 (Kc n x.1 x.2.1) eT then some (zB x.1 x.2.1 x.2.2.1 x.2.2.2 (Kc n x.1 x.2.1))
 else if BU n x.1 x.2.1 then some []else none
theorem JH(n:Nat)(f:aB)(leaf:Int)(up:List Bool)(rs:List bL)(K:jc)(H:sL n f leaf up rs K eT):b8 n (mW f leaf up rs) (fun r=>r=zB f leaf up rs K):=
 G.bP n _ (fun r ⟨own,h1,h2⟩=>by
  have hn:=BT (CA f leaf up K rs);have hn2:(own.map gQ).Nodup:=(h1.map gQ).nodup_iff.2 hn;rw[h2,Ff _ _ _ hn2];exact xA (BR _ _ h1) (Aj _ _ hn2)) (JG n f leaf up rs K eT H)
theorem IB(n:Nat)(f:aB)(leaf:Int)(up:List Bool)(rs:List bL)(H:BU n f leaf):b8 n (mW f leaf up rs) (fun(r:List au)=>r=[]):=by
 unfold mW wH;refine .skip (.call _ H fun r5 h5=>.skip (.br (fun h=>.skip (.done rfl rfl)) fun g0=>.skip (.br (fun h=>.skip (.done rfl rfl)) fun g1=>.skip (.br (fun h=>.skip (.done rfl rfl)) fun g2=>?_))))
 simp only[bne_eq_false_iff_eq]at g0;simp only[decide_eq_false_iff_not]at g1 g2;rcases h5 with h5 |h5 |h5
 ·exact absurd g0 h5
 ·exact absurd h5 g1
 ·exact absurd h5 g2
noncomputable def uP:aA prog:=Fg.all lN fun n x r h=>by
 unfold lN at h;split at h
 ·rename_i H;cases h;exact⟨n,G.bP n _ (fun y hy=>by rw[hy]) (JH n x.1 x.2.1 x.2.2.1 x.2.2.2 _ H)⟩
 ·split at h
  ·rename_i H;cases h;exact⟨n,G.bP n _ (fun y hy=>by rw[hy]) (IB n x.1 x.2.1 x.2.2.1 x.2.2.2 H)⟩
  ·cases h
theorem IC(n:Nat)(f:aB)(leaf:Int)(up:List Bool)(rs:List bL)(K:jc)(H:sL n f leaf up rs K eT):b8 n (jv f leaf up rs) (fun r=>r.2=zB f leaf up rs K∧r.1=r.2.length):=
 G.bP n _ (fun r ⟨⟨own,h1,h2⟩,h3⟩=>⟨by
  have hn:=BT (CA f leaf up K rs);have hn2:(own.map gQ).Nodup:=(h1.map gQ).nodup_iff.2 hn;rw[h2,Ff _ _ _ hn2];exact xA (BR _ _ h1) (Aj _ _ hn2),h3⟩) (IA n f leaf up rs K eT H)
theorem Hx(n:Nat)(f:aB)(leaf:Int)(up:List Bool)(rs:List bL)(H:BU n f leaf):b8 n (jv f leaf up rs) (fun r=>r=(0,[])):=by
 unfold jv wH;refine .skip (.call _ H fun r5 h5=>.skip (.br (fun h=>.skip (.tidy rfl (.inl (.done rfl rfl)))) fun g0=>.skip (.br (fun h=>.skip (.tidy rfl (.inl (.done rfl rfl)))) fun g1=>.skip (.br (fun h=>.skip (.tidy rfl (.inl (.done rfl rfl)))) fun g2=>?_))))
 simp only[bne_eq_false_iff_eq]at g0;simp only[decide_eq_false_iff_not]at g1 g2;rcases h5 with h5 |h5 |h5
 ·exact absurd g0 h5
 ·exact absurd h5 g1
 ·exact absurd h5 g2
noncomputable def gL:Jy prog where
 f:=17
 X:=aB×Int×List Bool×List bL
 args:=fun x=>[.agg (aC x.1),.sc (.int .i64 x.2.1),.aD (x.2.2.1.map eB),.aD (x.2.2.2.map c6)]
 α:=au
 sz:=8
 enc:=bF
 hf:=fun _=>rfl
 S:=lN
 ok:=fun n x r h=>by
  have key:∀q:List au,b8 n (jv x.1 x.2.1 x.2.2.1 x.2.2.2) (fun y=>y.2=q∧y.1=y.2.length)→bB prog 17 [.agg (aC x.1),.sc (.int .i64 x.2.1),.aD (x.2.2.1.map eB),.aD (x.2.2.2.map c6)] [] (.ret (.sl 0 0 8 0 q.length)) [.row 0 8 (q.map bF)]:=fun q hq=>
   DN.ok n x (.ret (.sl 0 0 8 0 q.length),[.row 0 8 (q.map bF)]) (G.bP n _ (fun y ⟨h1,h2⟩=>by
    show(aI.ret (.sl 0 0 8 0 y.1),[af.row 0 8 (y.2.map bF)])=_;rw[h2,h1]) hq)
  unfold lN at h;split at h
  ·rename_i H;cases h;exact key _ (IC n x.1 x.2.1 x.2.2.1 x.2.2.2 _ H)
  ·split at h
   ·rename_i H;cases h;exact key _ (G.bP n _ (fun y hy=>by rw[hy];exact⟨rfl,rfl⟩) (Hx n x.1 x.2.1 x.2.2.1 x.2.2.2 H))
   ·cases h
theorem KC(n:Nat)(f:aB)(leaf:Int)(up:List Bool)(rs:List bL)(H:sL n f leaf up rs (Kc n f leaf) eT):At (uP.S n (f,leaf,up,rs)) (fun(r:List au)=>r=zB f leaf up rs (Kc n f leaf)):=
 ⟨_,if_pos H,rfl⟩
end Go.L
end
