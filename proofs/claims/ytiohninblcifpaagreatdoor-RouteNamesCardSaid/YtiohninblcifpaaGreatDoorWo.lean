/- The library's sort by a function at hops, whatever their number, as a contract. No conditions. -/
import Derived.Test.YtiohninblcifpaaGreatDoorWt
import Derived.Test.YtiohninblcifpaaGreatDoorWb
import Derived.Test.YtiohninblcifpaaGreatDoorAe
import Derived.Test.YtiohninblcifpaaGreatDoorAd
import Derived.Test.YtiohninblcifpaaGreatDoorPa
set_option linter.unusedSimpArgs false
set_option linter.unusedVariables false
set_option maxRecDepth 100000
namespace Go.Proofs
open Go.Shelf
def Tryz.BK:Shelf.Ren where
 f:=fun x=>match x with
  | 6=>59
  | 15=>120
  | 14=>119
  | 28=>188
  | 29=>189
  | 20=>180
  | 21=>181
  | 22=>182
  | 23=>183
  | 24=>184
  | 25=>185
  | 26=>186
  | 27=>187
  | 46=>246
  | 47=>247
  | 48=>248
  | 49=>249
  | 50=>250
  | 57=>286
  |n=>n
 t:=fun x=>match x with
  | 22=>59
  | 24=>63
  | 25=>134
  | 3=>3
  | 39=>139
  | 0=>0
  | 53=>43
  | 55=>40
  | 4=>4
  | 46=>273
  | 45=>272
  | 50=>197
  | 5=>5
  | 9=>9
  | 66=>327
  | 70=>331
  | 76=>358
  | 77=>359
  |n=>n
 g:=fun n=>n
theorem Tryz.K5:SlLaysF0.n6 Tryz.prog Tryz.BK where
 mixed:=by kernel_rfl
 f6 := ⟨"slices.SortFunc[[]leafmesh/api.Hop,leafmesh/api.Hop]", of_decide_eq_true (by kernel_rfl), Eq.trans Tryz.func59 (by kernel_rfl)⟩
 f14 := ⟨"slices.pdqsortCmpFunc[leafmesh/api.Hop]", of_decide_eq_true (by kernel_rfl), Eq.trans Tryz.func119 (by kernel_rfl)⟩
 f15:=Eq.trans Tryz.func120 (by kernel_rfl)
 f20 := ⟨"slices.insertionSortCmpFunc[leafmesh/api.Hop]", of_decide_eq_true (by kernel_rfl), Eq.trans Tryz.func180 (by kernel_rfl)⟩
 f21 := ⟨"slices.heapSortCmpFunc[leafmesh/api.Hop]", of_decide_eq_true (by kernel_rfl), Eq.trans Tryz.func181 (by kernel_rfl)⟩
 f22 := ⟨"slices.breakPatternsCmpFunc[leafmesh/api.Hop]", of_decide_eq_true (by kernel_rfl), Eq.trans Tryz.func182 (by kernel_rfl)⟩
 f23 := ⟨"slices.choosePivotCmpFunc[leafmesh/api.Hop]", of_decide_eq_true (by kernel_rfl), Eq.trans Tryz.func183 (by kernel_rfl)⟩
 f24 := ⟨"slices.reverseRangeCmpFunc[leafmesh/api.Hop]", of_decide_eq_true (by kernel_rfl), Eq.trans Tryz.func184 (by kernel_rfl)⟩
 f25 := ⟨"slices.partialInsertionSortCmpFunc[leafmesh/api.Hop]", of_decide_eq_true (by kernel_rfl), Eq.trans Tryz.func185 (by kernel_rfl)⟩
 f26 := ⟨"slices.partitionEqualCmpFunc[leafmesh/api.Hop]", of_decide_eq_true (by kernel_rfl), Eq.trans Tryz.func186 (by kernel_rfl)⟩
 f27 := ⟨"slices.partitionCmpFunc[leafmesh/api.Hop]", of_decide_eq_true (by kernel_rfl), Eq.trans Tryz.func187 (by kernel_rfl)⟩
 f28:=Eq.trans Tryz.func188 (by kernel_rfl)
 f29:=Eq.trans Tryz.func189 (by kernel_rfl)
 f46 := ⟨"slices.siftDownCmpFunc[leafmesh/api.Hop]", of_decide_eq_true (by kernel_rfl), Eq.trans Tryz.func246 (by kernel_rfl)⟩
 f47:=Eq.trans Tryz.func247 (by kernel_rfl)
 f48:=Eq.trans Tryz.func248 (by kernel_rfl)
 f49 := ⟨"slices.medianAdjacentCmpFunc[leafmesh/api.Hop]", of_decide_eq_true (by kernel_rfl), Eq.trans Tryz.func249 (by kernel_rfl)⟩
 f50 := ⟨"slices.medianCmpFunc[leafmesh/api.Hop]", of_decide_eq_true (by kernel_rfl), Eq.trans Tryz.func250 (by kernel_rfl)⟩
 f57 := ⟨"slices.order2CmpFunc[leafmesh/api.Hop]", of_decide_eq_true (by kernel_rfl), Eq.trans Tryz.func286 (by kernel_rfl)⟩
 t0:=Tryz.underlying0
 a0:=Tryz.isAgg0
 z0:=Tryz.sizeOf0
 v0:=Tryz.zeroValue0
 t3:=Tryz.underlying3
 a3:=Tryz.isAgg3
 z3:=Tryz.sizeOf3
 v3:=Tryz.zeroValue3
 t4:=Tryz.underlying4
 a4:=Tryz.isAgg4
 z4:=Tryz.sizeOf4
 v4:=Tryz.zeroValue4
 t5:=Tryz.underlying5
 a5:=Tryz.isAgg5
 z5:=Tryz.sizeOf5
 v5:=Tryz.zeroValue5
 t9:=Tryz.underlying9
 a9:=Tryz.isAgg9
 z9:=Tryz.sizeOf9
 v9:=Tryz.zeroValue9
 t22:=Tryz.underlying59
 a22:=Tryz.isAgg59
 z22:=Tryz.sizeOf59
 v22:=Tryz.zeroValue59
 t25:=Tryz.underlying134
 a25:=Tryz.isAgg134
 z25:=Tryz.sizeOf134
 v25:=Tryz.zeroValue134
 t39:=Tryz.underlying139
 a39:=Tryz.isAgg139
 z39:=Tryz.sizeOf139
 v39:=Tryz.zeroValue139
 t45:=Tryz.underlying272
 a45:=Tryz.isAgg272
 z45:=Tryz.sizeOf272
 v45:=Tryz.zeroValue272
 t46:=Tryz.underlying273
 a46:=Tryz.isAgg273
 z46:=Tryz.sizeOf273
 v46:=Tryz.zeroValue273
 t50:=Tryz.underlying197
 a50:=Tryz.isAgg197
 z50:=Tryz.sizeOf197
 v50:=Tryz.zeroValue197
 t53:=Tryz.underlying43
 a53:=Tryz.isAgg43
 z53:=Tryz.sizeOf43
 v53:=Tryz.zeroValue43
 t55:=Tryz.underlying40
 a55:=Tryz.isAgg40
 z55:=Tryz.sizeOf40
 v55:=Tryz.zeroValue40
 t66:=Tryz.underlying327
 a66:=Tryz.isAgg327
 z66:=Tryz.sizeOf327
 v66:=Tryz.zeroValue327
 t70:=Tryz.underlying331
 a70:=Tryz.isAgg331
 z70:=Tryz.sizeOf331
 v70:=Tryz.zeroValue331
 t76:=Tryz.underlying358
 a76:=Tryz.isAgg358
 z76:=Tryz.sizeOf358
 v76:=Tryz.zeroValue358
 t77:=Tryz.underlying359
 a77:=Tryz.isAgg359
 z77:=Tryz.sizeOf359
 v77:=Tryz.zeroValue359
end Go.Proofs
namespace Go.L
open Go.AM Go.Proofs Go.Sort
noncomputable def qV(x1:au)(x2:au):G prog (Sh.El (.one Int)):=
 .skip 7<|.call fk (x1.aF,x2.aF) fun(r3:Int)=>.skip 4<|.call qe (x1.ah,x2.ah) fun(r4:Int)=>.skip 1<|.call mP [r3,r4] fun(r5:Int)=>.skip 1<|.done [] r5
noncomputable def wE:aA prog:=aA.of eo 10 60 (au×au) (fun x=>[.agg (bF x.1),.agg (bF x.2)]) (.one Int) (fun r=>.ret (si r)) (fun x=>qV x.1 x.2) (fun x=>by kernel_rfl)
theorem qW(n:Nat)(a b:Int):At (fk.S n (a,b)) (fun(r:Int)=>r=bT a b):=by
 refine(?_ :cH n (nM a b) _);unfold nM;have e:∀x:Int,At (qd.S n x) (fun(r:Bool)=>r=false):=fun x=>⟨x != x,rfl,by simp⟩
 refine .skip (.call _ (e a) fun r3 h3=>.skip (.call _ (e b) fun r4 h4=>.skip (.br (fun h=>by rw[h3]at h;cases h) fun _=>.skip (.br (fun h=>by rw[h4]at h;cases h) fun _=>.skip (.br (fun h=>.skip (.done rfl ?_)) fun h=>.skip (.br (fun h2=>.skip (.done rfl ?_)) fun h2=>.skip (.done rfl ?_)))))))
 all_goals (simp only[decide_eq_true_eq,decide_eq_false_iff_not]at*;unfold bT)
 ·rw[if_pos h]
 ·rw[if_neg h,if_pos h2]
 ·rw[if_neg h,if_neg h2]
theorem yJ(n:Nat)(a b:Int):At (gU.S n (a,b)) (fun(r:Int)=>r=bT a b):=by
 refine(?_ :cH n (oM a b) _);unfold oM;have e:∀x:Int,At (qU.S n x) (fun(r:Bool)=>r=false):=fun x=>⟨x != x,rfl,by simp⟩
 refine .skip (.call _ (e a) fun r3 h3=>.skip (.call _ (e b) fun r4 h4=>.skip (.br (fun h=>by rw[h3]at h;cases h) fun _=>.skip (.br (fun h=>by rw[h4]at h;cases h) fun _=>.skip (.br (fun h=>.skip (.done rfl ?_)) fun h=>.skip (.br (fun h2=>.skip (.done rfl ?_)) fun h2=>.skip (.done rfl ?_)))))))
 all_goals (simp only[decide_eq_true_eq,decide_eq_false_iff_not]at*;unfold bT)
 ·rw[if_pos h]
 ·rw[if_neg h,if_pos h2]
 ·rw[if_neg h,if_neg h2]
theorem Dk{x:Int}{post:List Int}(hx:x≠0):∀{pre:List Int},(∀y∈pre,y=0)→lC (pre++x::post)=x
 | [],_=>by simp[lC,hx]
 |y::pre,hp=>by
  simp only[List.cons_append,lC,hp y List.mem_cons_self,if_true];exact Dk hx fun z hz=>hp z (List.mem_cons_of_mem _ hz)
theorem Dl:∀{l:List Int},(∀y∈l,y=0)→lC l=0
 | [],_=>rfl
 |y::l,h=>by
  simp only[lC,h y List.mem_cons_self,if_true];exact Dl fun z hz=>h z (List.mem_cons_of_mem _ hz)
theorem D2(n:Nat)(l:List Int)(hn:l.length<n)(hs:l.length<100000):At (mP.S n l) (fun(r:Int)=>r=lC l):=by
 refine(?_ :cH n (uH l) _);unfold uH;refine .skip (.op () rfl (.skip (.loop (fun a:Int=>dP l (fun pre (_:Unit)=>∀y∈pre,y=0) (a,())) (fun a=>l.length - a.toNat) (Sum.elim (fun(t:Int)=>t=lC l) fun _=>∀y∈l,y=0) rfl (dP.start (by simp)) (by simpa using hn) (fun a ha=>?_) (fun t ht=>?_))))
 ·refine .skip (.br (fun h=>?_) fun h=>.skip (.done rfl (ha.fin h)))
  obtain⟨x,pre,h1,h2,h3,⟨_,post,hl⟩,h4⟩:=ha.get h;refine .skip (.op x h1 (.skip (.br (fun he=>.skip (.done rfl ?_)) fun he=>.skip (.done rfl ?_))))
  ·show x=lC l;rw[hl];exact(Dk (by simpa using he) h3).symm
  ·refine h4 hs () ?_;intro y hy;rcases List.mem_append.1 hy with hy |hy
   ·exact h3 y hy
   ·simp only[List.mem_singleton]at hy;subst hy;simpa using he
 ·cases t with
  |inl t=>exact .done rfl ht
  |inr t=>exact .skip (.done rfl (Dl ht).symm)
def fR(x:au):List Int:=[x.aF,x.ah.IP,x.ah.Len]
def nN(x y:au):Int:=cw (fR x) (fR y)
theorem Hh(n:Nat)(hn:3≤n)(x y:ah):At (qe.S n (x,y)) (fun(r:Int)=>r=cw [x.IP,x.Len] [y.IP,y.Len]):=by
 refine(?_ :cH n (lB x y) _);unfold lB;refine .skip (.call _ (yJ n _ _) fun q0 e0=>.skip (.call _ (qW n _ _) fun q1 e1=>.skip (.call _ (D2 n _ (by show 2<n;omega) (by show 2<100000;omega)) fun(r:Int) hr=>.skip (.done rfl ?_))))
 subst e0 e1;refine Eq.trans hr ?_;simp only[lC,cw]
theorem JA(n:Nat)(hn:3≤n)(x y:au):At (wE.S n (x,y)) (fun(r:Int)=>r=nN x y):=by
 refine(?_ :cH n (qV x y) _);unfold qV;refine .skip (.call _ (qW n _ _) fun q0 e0=>.skip (.call _ (Hh n hn _ _) fun q1 e1=>.skip (.call _ (D2 n _ (by show 2<n;omega) (by show 2<100000;omega)) fun(r:Int) hr=>.skip (.done rfl ?_))))
 subst e0 e1;refine Eq.trans hr ?_;unfold nN fR;simp only[lC,cw];by_cases h0:bT x.aF y.aF=0
 ·by_cases h1:bT x.ah.IP y.ah.IP=0
  ·by_cases h2:bT x.ah.Len y.ah.Len=0
   ·simp[h0,h1,h2]
   ·simp[h0,h1,h2]
  ·simp[h0,h1]
 ·simp[h0]
def D3(x:au):List Value:=[.int .i64 x.aF,.int .u32 x.ah.IP,.int .i64 x.ah.Len,.int .i64 x.BD,.int .u32 x.Next,.int .u32 x.eN,.int .u64 x.bU,.int .u64 x.cG]
instance inhHo:Inhabited au:=⟨au.mk 0 (ah.mk 0 0) 0 0 0 0 0⟩
def uI(x y:au):Prop:=nN x y<0
theorem xl(x y:au):ltOf nN x y=true↔uI x y:=by simp only[ltOf,decide_eq_true_eq];rfl
theorem E3:SWO (ltOf nN) where
 irrefl:=fun x=>by
  have:=mt (xl x x).1 (Ai _);simpa using this
 trans:=fun x y z h1 h2=>by
  rw[xl]at*;exact tH h1 h2
 ntrans:=fun x y z h1 h2=>by
  have e:∀a b,ltOf nN a b=false↔¬uI a b:=fun a b=>by rw[← Bool.not_eq_true,xl]
  rw[e]at*;unfold uI nN at*;intro h3;have s1:=sD (fR x) (fR y);have s2:=sD (fR y) (fR z);by_cases e1:cw (fR x) (fR y)=0
  ·rw[(sB (show(fR x).length=(fR y).length from rfl)).1 e1]at h3;omega
  ·by_cases e2:cw (fR y) (fR z)=0
   ·rw[← (sB (show(fR y).length=(fR z).length from rfl)).1 e2]at h3;omega
   ·have h4:cw (fR z) (fR y)<0:=by omega
    have h5:cw (fR y) (fR x)<0:=by omega
    have h6:=tH h4 h5;have s3:=sD (fR x) (fR z);omega
theorem Hi(x y:au):gG prog 60 [.agg (iR D3 x),.agg (iR D3 y)] (.ret (si (nN x y))):=
 by
 obtain⟨r,h,rfl⟩:=JA 3 (Nat.le_refl _) x y;exact wE.ok 3 (x,y) _ h
noncomputable def eT(l:List au):List au:=(pdq (ltOf nN) l.toArray 0 l.length (Lib.bitLen l.length) true true).toList
theorem Hj(l:List au)(hsz:l.length<4611686018427387904):
 bB prog 59 [.sl 0 0 8 0 l.length,.fn (.func 60) [] []] [.row 0 8 (l.map bF)] (.ret nothing) [.row 0 8 ((eT l).map bF)]:=
 EU (P:=prog) (ρ:=Tryz.BK) Tryz.K5 (gf:=60) (enc:=D3) (k:=8) (fun _=>rfl) (by omega) (fun x v hv=>by
  simp only[D3,List.mem_cons,List.not_mem_nil,or_false]at hv;rcases hv with h |h |h |h |h |h |h |h<;>subst h<;>rfl) (cf:=nN) E3 Tryz.isAgg63 Tryz.sizeOf63 (fun args w=>by
  simp[callFunc,Tryz.func60];rfl) ⟨Tryz.f59,_,Tryz.func59,rfl,by decide⟩ Hi l hsz
theorem Hl{f:FuncId}{a:List AVal}{H H1:List af}(h:bB prog f a H (.ret nothing) H1):bB prog f a H (.ret (.bV [])) H1:=
 ⟨h.1,fun g w vs hi hl=>(h.2 g w vs hi hl).mono fun e w' ⟨g',h1,h2,x,h3,h4⟩=>⟨g',h1,h2,x,h3,by
  simp only[nothing,R]at h4;subst h4;simp[R,RL]⟩⟩
noncomputable def Cx(x:List au):Option (List au):=if x.length<4611686018427387904 then some (eT x)else none
theorem Ho(x:List au)(r:List au)(h:Cx x=some r):bB prog 59 [.sl 0 0 8 0 x.length,.fn (.func 60) [] []] [.row 0 8 (x.map bF)] (.ret (.bV [])) [.row 0 8 (r.map bF)]:=by
 unfold Cx at h;split at h
 ·rename_i hc;cases h;exact Hl (Hj x hc)
 ·cases h
theorem Gj(l:List au):(l.map bF).all AVal.aO=true:=by simp[bF,AVal.aO,AVal.pure]
noncomputable def ig:jV prog:={f:=59,X:=List au,args:=fun x=>[.sl 0 0 8 0 (List.length x),.fn (.func 60) [] []],blk:=fun x=>.row 0 8 (x.map bF),sh:=.one (List au),out:=fun(_:List au)=>.ret (.bV []),pM:=fun _ (r:List au)=>.row 0 8 (r.map bF),S:=fun _ x=>Cx x,a0:=fun _=>rfl,b0:=fun x=>Gj x,b1:=fun _ (r:List au)=>.inl (Gj r),r0:=fun _=>rfl,ok:=fun _ x r h=>Ho x r h}
theorem iZ(l:List (au)):(eT l).Perm l∧(eT l).Pairwise (fun a b=>¬uI b a):=by
 have hp:=pdq_sorts (ltOf nN) E3 l.toArray 0 l.length (Lib.bitLen l.length) true true (Nat.zero_le _) (by simp) (Or.inl rfl)
 obtain⟨⟨h1,_,h3⟩,h4⟩:=hp;have hsz:(eT l).length=l.length:=by unfold eT;simpa using h1
 constructor
 ·unfold eT;generalize pdq (ltOf nN) l.toArray 0 l.length (Lib.bitLen l.length) true true=d at h1 h3;have e1:d.extract 0 l.length=d:=by
   have:l.length=d.size:=by rw[h1];simp
   rw[this];simp
  have e2:l.toArray.extract 0 l.length=l.toArray:=by
   have:l.length=l.toArray.size:=by simp
   rw[this];simp
  rw[e1,e2]at h3;simpa using h3
 ·rw[List.pairwise_iff_getElem];intro i j hi hj hij;have:=h4 i j (Nat.zero_le _) hij (by omega)
  have e:∀(k:Nat) (hk:k<(eT l).length),(eT l)[k]=(pdq (ltOf nN) l.toArray 0 l.length (Lib.bitLen l.length) true true)[k]! :=fun k hk=>by
   have hk':k<(pdq (ltOf nN) l.toArray 0 l.length (Lib.bitLen l.length) true true).size:=by rw[h1];simp;omega
   rw[getElem!_pos _ k hk'];rfl
  rw[e i hi,e j hj,← xl,this];simp
end Go.L
