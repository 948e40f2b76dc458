/- The library's sort by a function at hops, whatever their number, as a contract. No conditions. -/
import Derived.Test.YtiohninblcifpaaGreatDoorWt
import Derived.Test.YtiohninblcifpaaGreatDoorWb
import Derived.Test.YtiohninblcifpaaGreatDoorAe
import Derived.Test.YtiohninblcifpaaGreatDoorAd
import Derived.Test.YtiohninblcifpaaGreatDoorPa
namespace Go.Proofs
open Go.Shelf
set_option maxRecDepth 100000
def Tryz.ER:Shelf.Ren where
 f:=fun x=>match x with
  | 6=>59
  | 15=>120
  | 14=>119
  | 28=>188
  | 29=>189
  | 20=>180
  | 21=>181
  | 22=>182
  | 23=>183
  | 24=>184
  | 25=>185
  | 26=>186
  | 27=>187
  | 46=>246
  | 47=>247
  | 48=>248
  | 49=>249
  | 50=>250
  | 57=>286
  |n=>n
 t:=fun x=>match x with
  | 22=>59
  | 24=>63
  | 25=>134
  | 3=>3
  | 39=>139
  | 0=>0
  | 53=>43
  | 55=>40
  | 4=>4
  | 46=>273
  | 45=>272
  | 50=>197
  | 5=>5
  | 9=>9
  | 66=>327
  | 70=>331
  | 76=>358
  | 77=>359
  |n=>n
 g:=fun n=>n
theorem Tryz.Qo:SlLaysF0.n6 Tryz.prog Tryz.ER where
 mixed:=by kernel_rfl
 f6 := ⟨"slices.SortFunc[[]leafmesh/api.Hop,leafmesh/api.Hop]", of_decide_eq_true (by kernel_rfl), Eq.trans Tryz.func59 (by kernel_rfl)⟩
 f14 := ⟨"slices.pdqsortCmpFunc[leafmesh/api.Hop]", of_decide_eq_true (by kernel_rfl), Eq.trans Tryz.func119 (by kernel_rfl)⟩
 f15:=Eq.trans Tryz.func120 (by kernel_rfl)
 f20 := ⟨"slices.insertionSortCmpFunc[leafmesh/api.Hop]", of_decide_eq_true (by kernel_rfl), Eq.trans Tryz.func180 (by kernel_rfl)⟩
 f21 := ⟨"slices.heapSortCmpFunc[leafmesh/api.Hop]", of_decide_eq_true (by kernel_rfl), Eq.trans Tryz.func181 (by kernel_rfl)⟩
 f22 := ⟨"slices.breakPatternsCmpFunc[leafmesh/api.Hop]", of_decide_eq_true (by kernel_rfl), Eq.trans Tryz.func182 (by kernel_rfl)⟩
 f23 := ⟨"slices.choosePivotCmpFunc[leafmesh/api.Hop]", of_decide_eq_true (by kernel_rfl), Eq.trans Tryz.func183 (by kernel_rfl)⟩
 f24 := ⟨"slices.reverseRangeCmpFunc[leafmesh/api.Hop]", of_decide_eq_true (by kernel_rfl), Eq.trans Tryz.func184 (by kernel_rfl)⟩
 f25 := ⟨"slices.partialInsertionSortCmpFunc[leafmesh/api.Hop]", of_decide_eq_true (by kernel_rfl), Eq.trans Tryz.func185 (by kernel_rfl)⟩
 f26 := ⟨"slices.partitionEqualCmpFunc[leafmesh/api.Hop]", of_decide_eq_true (by kernel_rfl), Eq.trans Tryz.func186 (by kernel_rfl)⟩
 f27 := ⟨"slices.partitionCmpFunc[leafmesh/api.Hop]", of_decide_eq_true (by kernel_rfl), Eq.trans Tryz.func187 (by kernel_rfl)⟩
 f28:=Eq.trans Tryz.func188 (by kernel_rfl)
 f29:=Eq.trans Tryz.func189 (by kernel_rfl)
 f46 := ⟨"slices.siftDownCmpFunc[leafmesh/api.Hop]", of_decide_eq_true (by kernel_rfl), Eq.trans Tryz.func246 (by kernel_rfl)⟩
 f47:=Eq.trans Tryz.func247 (by kernel_rfl)
 f48:=Eq.trans Tryz.func248 (by kernel_rfl)
 f49 := ⟨"slices.medianAdjacentCmpFunc[leafmesh/api.Hop]", of_decide_eq_true (by kernel_rfl), Eq.trans Tryz.func249 (by kernel_rfl)⟩
 f50 := ⟨"slices.medianCmpFunc[leafmesh/api.Hop]", of_decide_eq_true (by kernel_rfl), Eq.trans Tryz.func250 (by kernel_rfl)⟩
 f57 := ⟨"slices.order2CmpFunc[leafmesh/api.Hop]", of_decide_eq_true (by kernel_rfl), Eq.trans Tryz.func286 (by kernel_rfl)⟩
 t0:=Tryz.underlying0
 a0:=Tryz.isAgg0
 z0:=Tryz.sizeOf0
 v0:=Tryz.zeroValue0
 t3:=Tryz.underlying3
 a3:=Tryz.isAgg3
 z3:=Tryz.sizeOf3
 v3:=Tryz.zeroValue3
 t4:=Tryz.underlying4
 a4:=Tryz.isAgg4
 z4:=Tryz.sizeOf4
 v4:=Tryz.zeroValue4
 t5:=Tryz.underlying5
 a5:=Tryz.isAgg5
 z5:=Tryz.sizeOf5
 v5:=Tryz.zeroValue5
 t9:=Tryz.underlying9
 a9:=Tryz.isAgg9
 z9:=Tryz.sizeOf9
 v9:=Tryz.zeroValue9
 t22:=Tryz.underlying59
 a22:=Tryz.isAgg59
 z22:=Tryz.sizeOf59
 v22:=Tryz.zeroValue59
 t25:=Tryz.underlying134
 a25:=Tryz.isAgg134
 z25:=Tryz.sizeOf134
 v25:=Tryz.zeroValue134
 t39:=Tryz.underlying139
 a39:=Tryz.isAgg139
 z39:=Tryz.sizeOf139
 v39:=Tryz.zeroValue139
 t45:=Tryz.underlying272
 a45:=Tryz.isAgg272
 z45:=Tryz.sizeOf272
 v45:=Tryz.zeroValue272
 t46:=Tryz.underlying273
 a46:=Tryz.isAgg273
 z46:=Tryz.sizeOf273
 v46:=Tryz.zeroValue273
 t50:=Tryz.underlying197
 a50:=Tryz.isAgg197
 z50:=Tryz.sizeOf197
 v50:=Tryz.zeroValue197
 t53:=Tryz.underlying43
 a53:=Tryz.isAgg43
 z53:=Tryz.sizeOf43
 v53:=Tryz.zeroValue43
 t55:=Tryz.underlying40
 a55:=Tryz.isAgg40
 z55:=Tryz.sizeOf40
 v55:=Tryz.zeroValue40
 t66:=Tryz.underlying327
 a66:=Tryz.isAgg327
 z66:=Tryz.sizeOf327
 v66:=Tryz.zeroValue327
 t70:=Tryz.underlying331
 a70:=Tryz.isAgg331
 z70:=Tryz.sizeOf331
 v70:=Tryz.zeroValue331
 t76:=Tryz.underlying358
 a76:=Tryz.isAgg358
 z76:=Tryz.sizeOf358
 v76:=Tryz.zeroValue358
 t77:=Tryz.underlying359
 a77:=Tryz.isAgg359
 z77:=Tryz.sizeOf359
 v77:=Tryz.zeroValue359
end Go.Proofs
namespace Go.L
open Go.AM Go.Proofs Go.Sort
set_option maxRecDepth 100000
set_option linter.unusedVariables false
set_option linter.unusedSimpArgs false
noncomputable def vO(x1:aB)(x2:aB):G prog (Sh.El (.one Int)):=
 .skip 7<|.call ic (x1.av,x2.av) fun(r3:Int)=>.skip 4<|.call u6 (x1.af,x2.af) fun(r4:Int)=>.skip 1<|.call rM [r3,r4] fun(r5:Int)=>.skip 1<|.done [] r5
noncomputable def Ao:aK prog:=aK.of qS 10 60 (aB×aB) (fun x=>[.agg (bB x.1),.agg (bB x.2)]) (.one Int) (fun r=>.ret (si r)) (fun x=>vO x.1 x.2) (fun x=>by kernel_rfl)
theorem vP(n:Nat)(a b:Int):At (ic.S n (a,b)) (fun(r:Int)=>r=cS a b):=by
 refine(?_ :cU n (s6 a b) _);unfold s6;have e:∀x:Int,At (u0.S n x) (fun(r:Bool)=>r=false):=fun x=>⟨x != x,rfl,by simp⟩
 refine .skip (.call _ (e a) fun r3 h3=>.skip (.call _ (e b) fun r4 h4=>.skip (.br (fun h=>by rw[h3]at h;cases h) fun _=>.skip (.br (fun h=>by rw[h4]at h;cases h) fun _=>.skip (.br (fun h=>.skip (.done rfl ?_)) fun h=>.skip (.br (fun h2=>.skip (.done rfl ?_)) fun h2=>.skip (.done rfl ?_)))))))
 all_goals (simp only[decide_eq_true_eq,decide_eq_false_iff_not]at*;unfold cS)
 ·rw[if_pos h]
 ·rw[if_neg h,if_pos h2]
 ·rw[if_neg h,if_neg h2]
theorem Cc(n:Nat)(a b:Int):At (lC.S n (a,b)) (fun(r:Int)=>r=cS a b):=by
 refine(?_ :cU n (tY a b) _);unfold tY;have e:∀x:Int,At (vN.S n x) (fun(r:Bool)=>r=false):=fun x=>⟨x != x,rfl,by simp⟩
 refine .skip (.call _ (e a) fun r3 h3=>.skip (.call _ (e b) fun r4 h4=>.skip (.br (fun h=>by rw[h3]at h;cases h) fun _=>.skip (.br (fun h=>by rw[h4]at h;cases h) fun _=>.skip (.br (fun h=>.skip (.done rfl ?_)) fun h=>.skip (.br (fun h2=>.skip (.done rfl ?_)) fun h2=>.skip (.done rfl ?_)))))))
 all_goals (simp only[decide_eq_true_eq,decide_eq_false_iff_not]at*;unfold cS)
 ·rw[if_pos h]
 ·rw[if_neg h,if_pos h2]
 ·rw[if_neg h,if_neg h2]
theorem Gw{x:Int}{post:List Int}(hx:x≠0):∀{pre:List Int},(∀y∈pre,y=0)→ql (pre++x::post)=x
 | [],_=>by simp[ql,hx]
 |y::pre,hp=>by
  simp only[List.cons_append,ql,hp y List.mem_cons_self,if_true];exact Gw hx fun z hz=>hp z (List.mem_cons_of_mem _ hz)
theorem Gx:∀{l:List Int},(∀y∈l,y=0)→ql l=0
 | [],_=>rfl
 |y::l,h=>by
  simp only[ql,h y List.mem_cons_self,if_true];exact Gx fun z hz=>h z (List.mem_cons_of_mem _ hz)
theorem Hr(n:Nat)(l:List Int)(hn:l.length<n)(hs:l.length<100000):At (rM.S n l) (fun(r:Int)=>r=ql l):=by
 refine(?_ :cU n (yH l) _);unfold yH;refine .skip (.op () rfl (.skip (.loop (fun a:Int=>dA l (fun pre (_:Unit)=>∀y∈pre,y=0) (a,())) (fun a=>l.length - a.toNat) (Sum.elim (fun(t:Int)=>t=ql l) fun _=>∀y∈l,y=0) rfl (dA.start (by simp)) (by simpa using hn) (fun a ha=>?_) (fun t ht=>?_))))
 ·refine .skip (.br (fun h=>?_) fun h=>.skip (.done rfl (ha.fin h)))
  obtain⟨x,pre,h1,h2,h3,⟨_,post,hl⟩,h4⟩:=ha.get h;refine .skip (.op x h1 (.skip (.br (fun he=>.skip (.done rfl ?_)) fun he=>.skip (.done rfl ?_))))
  ·show x=ql l;rw[hl];exact(Gw (by simpa using he) h3).symm
  ·refine h4 hs () ?_;intro y hy;rcases List.mem_append.1 hy with hy |hy
   ·exact h3 y hy
   ·simp only[List.mem_singleton]at hy;subst hy;simpa using he
 ·cases t with
  |inl t=>exact .done rfl ht
  |inr t=>exact .skip (.done rfl (Gx ht).symm)
def ji(x:aB):List Int:=[x.av,x.af.IP,x.af.Len]
def s7(x y:aB):Int:=eY (ji x) (ji y)
theorem Ll(n:Nat)(hn:3≤n)(x y:af):At (u6.S n (x,y)) (fun(r:Int)=>r=eY [x.IP,x.Len] [y.IP,y.Len]):=by
 refine(?_ :cU n (qk x y) _);unfold qk;refine .skip (.call _ (Cc n _ _) fun q0 e0=>.skip (.call _ (vP n _ _) fun q1 e1=>.skip (.call _ (Hr n _ (by show 2<n;omega) (by show 2<100000;omega)) fun(r:Int) hr=>.skip (.done rfl ?_))))
 subst e0 e1;refine Eq.trans hr ?_;simp only[ql,eY]
theorem N8(n:Nat)(hn:3≤n)(x y:aB):At (Ao.S n (x,y)) (fun(r:Int)=>r=s7 x y):=by
 refine(?_ :cU n (vO x y) _);unfold vO;refine .skip (.call _ (vP n _ _) fun q0 e0=>.skip (.call _ (Ll n hn _ _) fun q1 e1=>.skip (.call _ (Hr n _ (by show 2<n;omega) (by show 2<100000;omega)) fun(r:Int) hr=>.skip (.done rfl ?_))))
 subst e0 e1;refine Eq.trans hr ?_;unfold s7 ji;simp only[ql,eY];by_cases h0:cS x.av y.av=0
 ·by_cases h1:cS x.af.IP y.af.IP=0
  ·by_cases h2:cS x.af.Len y.af.Len=0
   ·simp[h0,h1,h2]
   ·simp[h0,h1,h2]
  ·simp[h0,h1]
 ·simp[h0]
def Hs(x:aB):List Value:=[.int .i64 x.av,.int .u32 x.af.IP,.int .i64 x.af.Len,.int .i64 x.BD,.int .u32 x.Next,.int .u32 x.dz,.int .u64 x.bV,.int .u64 x.cF]
instance inhHo:Inhabited aB:=⟨aB.mk 0 (af.mk 0 0) 0 0 0 0 0⟩
def zL(x y:aB):Prop:=s7 x y<0
theorem A7(x y:aB):ltOf s7 x y=true↔zL x y:=by simp only[ltOf,decide_eq_true_eq];rfl
theorem Iz:SWO (ltOf s7) where
 irrefl:=fun x=>by
  have:=mt (A7 x x).1 (Dx _);simpa using this
 trans:=fun x y z h1 h2=>by
  rw[A7]at*;exact xK h1 h2
 ntrans:=fun x y z h1 h2=>by
  have e:∀a b,ltOf s7 a b=false↔¬zL a b:=fun a b=>by rw[← Bool.not_eq_true,A7]
  rw[e]at*;unfold zL s7 at*;intro h3;have s1:=wL (ji x) (ji y);have s2:=wL (ji y) (ji z);by_cases e1:eY (ji x) (ji y)=0
  ·rw[(wK (show(ji x).length=(ji y).length from rfl)).1 e1]at h3;omega
  ·by_cases e2:eY (ji y) (ji z)=0
   ·rw[← (wK (show(ji y).length=(ji z).length from rfl)).1 e2]at h3;omega
   ·have h4:eY (ji z) (ji y)<0:=by omega
    have h5:eY (ji y) (ji x)<0:=by omega
    have h6:=xK h4 h5;have s3:=wL (ji x) (ji z);omega
theorem Lm(x y:aB):kr prog 60 [.agg (mU Hs x),.agg (mU Hs y)] (.ret (si (s7 x y))):=
 by
 obtain⟨r,h,rfl⟩:=N8 3 (Nat.le_refl _) x y;exact Ao.ok 3 (x,y) _ h
noncomputable def hU(l:List aB):List aB:=(pdq (ltOf s7) l.toArray 0 l.length (Lib.bitLen l.length) true true).toList
theorem Ln(l:List aB)(hsz:l.length<4611686018427387904):
 bT prog 59 [.sl 0 0 8 0 l.length,.fn (.func 60) [] []] [.row 0 8 (l.map bB)] (.ret nothing) [.row 0 8 ((hU l).map bB)]:=
 It (P:=prog) (ρ:=Tryz.ER) Tryz.Qo (gf:=60) (enc:=Hs) (k:=8) (fun _=>rfl) (by omega) (fun x v hv=>by
  simp only[Hs,List.mem_cons,List.not_mem_nil,or_false]at hv;rcases hv with h |h |h |h |h |h |h |h<;>subst h<;>rfl) (cf:=s7) Iz Tryz.isAgg63 Tryz.sizeOf63 (fun args w=>by
  simp[callFunc,Tryz.func60];rfl) ⟨Tryz.f59,_,Tryz.func59,rfl,by decide⟩ Lm l hsz
theorem Lo{f:FuncId}{a:List AVal}{H H1:List ah}(h:bT prog f a H (.ret nothing) H1):bT prog f a H (.ret (.cM [])) H1:=
 ⟨h.1,fun g w vs hi hl=>(h.2 g w vs hi hl).mono fun e w' ⟨g',h1,h2,x,h3,h4⟩=>⟨g',h1,h2,x,h3,by
  simp only[nothing,R]at h4;subst h4;simp[R,RL]⟩⟩
noncomputable def FF(x:List aB):Option (List aB):=if x.length<4611686018427387904 then some (hU x)else none
theorem Lp(x:List aB)(r:List aB)(h:FF x=some r):bT prog 59 [.sl 0 0 8 0 x.length,.fn (.func 60) [] []] [.row 0 8 (x.map bB)] (.ret (.cM [])) [.row 0 8 (r.map bB)]:=by
 unfold FF at h;split at h
 ·rename_i hc;cases h;exact Lo (Ln x hc)
 ·cases h
theorem Ko(l:List aB):(l.map bB).all AVal.aW=true:=by simp[bB,AVal.aW,AVal.pure]
noncomputable def l8:dN prog:={f:=59,X:=List aB,args:=fun x=>[.sl 0 0 8 0 (List.length x),.fn (.func 60) [] []],blk:=fun x=>.row 0 8 (x.map bB),sh:=.one (List aB),out:=fun(_:List aB)=>.ret (.cM []),qQ:=fun _ (r:List aB)=>.row 0 8 (r.map bB),S:=fun _ x=>FF x,a0:=fun _=>rfl,b0:=fun x=>Ko x,b1:=fun _ (r:List aB)=>.inl (Ko r),r0:=fun _=>rfl,ok:=fun _ x r h=>Lp x r h}
theorem jx(l:List (aB)):(hU l).Perm l∧(hU l).Pairwise (fun a b=>¬zL b a):=by
 have hp:=pdq_sorts (ltOf s7) Iz l.toArray 0 l.length (Lib.bitLen l.length) true true (Nat.zero_le _) (by simp) (Or.inl rfl)
 obtain⟨⟨h1,_,h3⟩,h4⟩:=hp;have hsz:(hU l).length=l.length:=by unfold hU;simpa using h1
 constructor
 ·unfold hU;generalize pdq (ltOf s7) l.toArray 0 l.length (Lib.bitLen l.length) true true=d at h1 h3;have e1:d.extract 0 l.length=d:=by
   have:l.length=d.size:=by rw[h1];simp
   rw[this];simp
  have e2:l.toArray.extract 0 l.length=l.toArray:=by
   have:l.length=l.toArray.size:=by simp
   rw[this];simp
  rw[e1,e2]at h3;simpa using h3
 ·rw[List.pairwise_iff_getElem];intro i j hi hj hij;have:=h4 i j (Nat.zero_le _) hij (by omega)
  have e:∀(k:Nat) (hk:k<(hU l).length),(hU l)[k]=(pdq (ltOf s7) l.toArray 0 l.length (Lib.bitLen l.length) true true)[k]! :=fun k hk=>by
   have hk':k<(pdq (ltOf s7) l.toArray 0 l.length (Lib.bitLen l.length) true true).size:=by rw[h1];simp;omega
   rw[getElem!_pos _ k hk'];rfl
  rw[e i hi,e j hj,← A7,this];simp
end Go.L
