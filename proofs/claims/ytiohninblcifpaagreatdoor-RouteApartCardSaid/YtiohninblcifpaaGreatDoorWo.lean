/- The library's sort by a function at hops, whatever their number, as a contract. No conditions. -/
import Derived.Test.YtiohninblcifpaaGreatDoorWt
import Derived.Test.YtiohninblcifpaaGreatDoorWb
import Derived.Test.YtiohninblcifpaaGreatDoorAe
import Derived.Test.YtiohninblcifpaaGreatDoorAd
import Derived.Test.YtiohninblcifpaaGreatDoorPa
set_option linter.unusedSimpArgs false
set_option linter.unusedVariables false
set_option maxRecDepth 100000
namespace Go.Proofs
open Go.Shelf
def Tryz.Gr:Shelf.Ren where
 f:=fun x=>match x with
  | 6=>59
  | 15=>120
  | 14=>119
  | 28=>188
  | 29=>189
  | 20=>180
  | 21=>181
  | 22=>182
  | 23=>183
  | 24=>184
  | 25=>185
  | 26=>186
  | 27=>187
  | 46=>246
  | 47=>247
  | 48=>248
  | 49=>249
  | 50=>250
  | 57=>286
  |n=>n
 t:=fun x=>match x with
  | 22=>59
  | 24=>63
  | 25=>134
  | 3=>3
  | 39=>139
  | 0=>0
  | 53=>43
  | 55=>40
  | 4=>4
  | 46=>273
  | 45=>272
  | 50=>197
  | 5=>5
  | 9=>9
  | 66=>327
  | 70=>331
  | 76=>358
  | 77=>359
  |n=>n
 g:=fun n=>n
theorem Tryz.Ti:SlLaysF0.n6 Tryz.prog Tryz.Gr where
 mixed:=by kernel_rfl
 f6 := ⟨"slices.SortFunc[[]leafmesh/api.Hop,leafmesh/api.Hop]", of_decide_eq_true (by kernel_rfl), Eq.trans Tryz.func59 (by kernel_rfl)⟩
 f14 := ⟨"slices.pdqsortCmpFunc[leafmesh/api.Hop]", of_decide_eq_true (by kernel_rfl), Eq.trans Tryz.func119 (by kernel_rfl)⟩
 f15:=Eq.trans Tryz.func120 (by kernel_rfl)
 f20 := ⟨"slices.insertionSortCmpFunc[leafmesh/api.Hop]", of_decide_eq_true (by kernel_rfl), Eq.trans Tryz.func180 (by kernel_rfl)⟩
 f21 := ⟨"slices.heapSortCmpFunc[leafmesh/api.Hop]", of_decide_eq_true (by kernel_rfl), Eq.trans Tryz.func181 (by kernel_rfl)⟩
 f22 := ⟨"slices.breakPatternsCmpFunc[leafmesh/api.Hop]", of_decide_eq_true (by kernel_rfl), Eq.trans Tryz.func182 (by kernel_rfl)⟩
 f23 := ⟨"slices.choosePivotCmpFunc[leafmesh/api.Hop]", of_decide_eq_true (by kernel_rfl), Eq.trans Tryz.func183 (by kernel_rfl)⟩
 f24 := ⟨"slices.reverseRangeCmpFunc[leafmesh/api.Hop]", of_decide_eq_true (by kernel_rfl), Eq.trans Tryz.func184 (by kernel_rfl)⟩
 f25 := ⟨"slices.partialInsertionSortCmpFunc[leafmesh/api.Hop]", of_decide_eq_true (by kernel_rfl), Eq.trans Tryz.func185 (by kernel_rfl)⟩
 f26 := ⟨"slices.partitionEqualCmpFunc[leafmesh/api.Hop]", of_decide_eq_true (by kernel_rfl), Eq.trans Tryz.func186 (by kernel_rfl)⟩
 f27 := ⟨"slices.partitionCmpFunc[leafmesh/api.Hop]", of_decide_eq_true (by kernel_rfl), Eq.trans Tryz.func187 (by kernel_rfl)⟩
 f28:=Eq.trans Tryz.func188 (by kernel_rfl)
 f29:=Eq.trans Tryz.func189 (by kernel_rfl)
 f46 := ⟨"slices.siftDownCmpFunc[leafmesh/api.Hop]", of_decide_eq_true (by kernel_rfl), Eq.trans Tryz.func246 (by kernel_rfl)⟩
 f47:=Eq.trans Tryz.func247 (by kernel_rfl)
 f48:=Eq.trans Tryz.func248 (by kernel_rfl)
 f49 := ⟨"slices.medianAdjacentCmpFunc[leafmesh/api.Hop]", of_decide_eq_true (by kernel_rfl), Eq.trans Tryz.func249 (by kernel_rfl)⟩
 f50 := ⟨"slices.medianCmpFunc[leafmesh/api.Hop]", of_decide_eq_true (by kernel_rfl), Eq.trans Tryz.func250 (by kernel_rfl)⟩
 f57 := ⟨"slices.order2CmpFunc[leafmesh/api.Hop]", of_decide_eq_true (by kernel_rfl), Eq.trans Tryz.func286 (by kernel_rfl)⟩
 t0:=Tryz.underlying0
 a0:=Tryz.isAgg0
 z0:=Tryz.sizeOf0
 v0:=Tryz.zeroValue0
 t3:=Tryz.underlying3
 a3:=Tryz.isAgg3
 z3:=Tryz.sizeOf3
 v3:=Tryz.zeroValue3
 t4:=Tryz.underlying4
 a4:=Tryz.isAgg4
 z4:=Tryz.sizeOf4
 v4:=Tryz.zeroValue4
 t5:=Tryz.underlying5
 a5:=Tryz.isAgg5
 z5:=Tryz.sizeOf5
 v5:=Tryz.zeroValue5
 t9:=Tryz.underlying9
 a9:=Tryz.isAgg9
 z9:=Tryz.sizeOf9
 v9:=Tryz.zeroValue9
 t22:=Tryz.underlying59
 a22:=Tryz.isAgg59
 z22:=Tryz.sizeOf59
 v22:=Tryz.zeroValue59
 t25:=Tryz.underlying134
 a25:=Tryz.isAgg134
 z25:=Tryz.sizeOf134
 v25:=Tryz.zeroValue134
 t39:=Tryz.underlying139
 a39:=Tryz.isAgg139
 z39:=Tryz.sizeOf139
 v39:=Tryz.zeroValue139
 t45:=Tryz.underlying272
 a45:=Tryz.isAgg272
 z45:=Tryz.sizeOf272
 v45:=Tryz.zeroValue272
 t46:=Tryz.underlying273
 a46:=Tryz.isAgg273
 z46:=Tryz.sizeOf273
 v46:=Tryz.zeroValue273
 t50:=Tryz.underlying197
 a50:=Tryz.isAgg197
 z50:=Tryz.sizeOf197
 v50:=Tryz.zeroValue197
 t53:=Tryz.underlying43
 a53:=Tryz.isAgg43
 z53:=Tryz.sizeOf43
 v53:=Tryz.zeroValue43
 t55:=Tryz.underlying40
 a55:=Tryz.isAgg40
 z55:=Tryz.sizeOf40
 v55:=Tryz.zeroValue40
 t66:=Tryz.underlying327
 a66:=Tryz.isAgg327
 z66:=Tryz.sizeOf327
 v66:=Tryz.zeroValue327
 t70:=Tryz.underlying331
 a70:=Tryz.isAgg331
 z70:=Tryz.sizeOf331
 v70:=Tryz.zeroValue331
 t76:=Tryz.underlying358
 a76:=Tryz.isAgg358
 z76:=Tryz.sizeOf358
 v76:=Tryz.zeroValue358
 t77:=Tryz.underlying359
 a77:=Tryz.isAgg359
 z77:=Tryz.sizeOf359
 v77:=Tryz.zeroValue359
end Go.Proofs
namespace Go.L
open Go.AM Go.Proofs Go.Sort
noncomputable def wQ(x1:aG)(x2:aG):G prog (Sh.El (.one Int)):=
 .skip 7<|.call gV (x1.av,x2.av) fun(r3:Int)=>.skip 4<|.call vC (x1.ah,x2.ah) fun(r4:Int)=>.skip 1<|.call rK [r3,r4] fun(r5:Int)=>.skip 1<|.done [] r5
noncomputable def BM:aD prog:=aD.of fU 10 60 (aG×aG) (fun x=>[.agg (cO x.1),.agg (cO x.2)]) (.one Int) (fun r=>.ret (si r)) (fun x=>wQ x.1 x.2) (fun x=>by kernel_rfl)
theorem wR(n:Nat)(a b:Int):At (gV.S n (a,b)) (fun(r:Int)=>r=cM a b):=by
 refine(?_ :cF n (tv a b) _);unfold tv;have e:∀x:Int,At (vB.S n x) (fun(r:Bool)=>r=false):=fun x=>⟨x != x,rfl,by simp⟩
 refine .skip (.call _ (e a) fun r3 h3=>.skip (.call _ (e b) fun r4 h4=>.skip (.br (fun h=>by rw[h3]at h;cases h) fun _=>.skip (.br (fun h=>by rw[h4]at h;cases h) fun _=>.skip (.br (fun h=>.skip (.done rfl ?_)) fun h=>.skip (.br (fun h2=>.skip (.done rfl ?_)) fun h2=>.skip (.done rfl ?_)))))))
 all_goals (simp only[decide_eq_true_eq,decide_eq_false_iff_not]at*;unfold cM)
 ·rw[if_pos h]
 ·rw[if_neg h,if_pos h2]
 ·rw[if_neg h,if_neg h2]
theorem DE(n:Nat)(a b:Int):At (kS.S n (a,b)) (fun(r:Int)=>r=cM a b):=by
 refine(?_ :cF n (uy a b) _);unfold uy;have e:∀x:Int,At (wP.S n x) (fun(r:Bool)=>r=false):=fun x=>⟨x != x,rfl,by simp⟩
 refine .skip (.call _ (e a) fun r3 h3=>.skip (.call _ (e b) fun r4 h4=>.skip (.br (fun h=>by rw[h3]at h;cases h) fun _=>.skip (.br (fun h=>by rw[h4]at h;cases h) fun _=>.skip (.br (fun h=>.skip (.done rfl ?_)) fun h=>.skip (.br (fun h2=>.skip (.done rfl ?_)) fun h2=>.skip (.done rfl ?_)))))))
 all_goals (simp only[decide_eq_true_eq,decide_eq_false_iff_not]at*;unfold cM)
 ·rw[if_pos h]
 ·rw[if_neg h,if_pos h2]
 ·rw[if_neg h,if_neg h2]
theorem Ii{x:Int}{post:List Int}(hx:x≠0):∀{pre:List Int},(∀y∈pre,y=0)→qb (pre++x::post)=x
 | [],_=>by simp[qb,hx]
 |y::pre,hp=>by
  simp only[List.cons_append,qb,hp y List.mem_cons_self,if_true];exact Ii hx fun z hz=>hp z (List.mem_cons_of_mem _ hz)
theorem Ij:∀{l:List Int},(∀y∈l,y=0)→qb l=0
 | [],_=>rfl
 |y::l,h=>by
  simp only[qb,h y List.mem_cons_self,if_true];exact Ij fun z hz=>h z (List.mem_cons_of_mem _ hz)
theorem Jk(n:Nat)(l:List Int)(hn:l.length<n)(hs:l.length<100000):At (rK.S n l) (fun(r:Int)=>r=qb l):=by
 refine(?_ :cF n (zO l) _);unfold zO;refine .skip (.op () rfl (.skip (.loop (fun a:Int=>dI l (fun pre (_:Unit)=>∀y∈pre,y=0) (a,())) (fun a=>l.length - a.toNat) (Sum.elim (fun(t:Int)=>t=qb l) fun _=>∀y∈l,y=0) rfl (dI.start (by simp)) (by simpa using hn) (fun a ha=>?_) (fun t ht=>?_))))
 ·refine .skip (.br (fun h=>?_) fun h=>.skip (.done rfl (ha.fin h)))
  obtain⟨x,pre,h1,h2,h3,⟨_,post,hl⟩,h4⟩:=ha.get h;refine .skip (.op x h1 (.skip (.br (fun he=>.skip (.done rfl ?_)) fun he=>.skip (.done rfl ?_))))
  ·show x=qb l;rw[hl];exact(Ii (by simpa using he) h3).symm
  ·refine h4 hs () ?_;intro y hy;rcases List.mem_append.1 hy with hy |hy
   ·exact h3 y hy
   ·simp only[List.mem_singleton]at hy;subst hy;simpa using he
 ·cases t with
  |inl t=>exact .done rfl ht
  |inr t=>exact .skip (.done rfl (Ij ht).symm)
def iY(x:aG):List Int:=[x.av,x.ah.IP,x.ah.Len]
def tw(x y:aG):Int:=eA (iY x) (iY y)
theorem Nq(n:Nat)(hn:3≤n)(x y:ah):At (vC.S n (x,y)) (fun(r:Int)=>r=eA [x.IP,x.Len] [y.IP,y.Len]):=by
 refine(?_ :cF n (pZ x y) _);unfold pZ;refine .skip (.call _ (DE n _ _) fun q0 e0=>.skip (.call _ (wR n _ _) fun q1 e1=>.skip (.call _ (Jk n _ (by show 2<n;omega) (by show 2<100000;omega)) fun(r:Int) hr=>.skip (.done rfl ?_))))
 subst e0 e1;refine Eq.trans hr ?_;simp only[qb,eA]
theorem QS(n:Nat)(hn:3≤n)(x y:aG):At (BM.S n (x,y)) (fun(r:Int)=>r=tw x y):=by
 refine(?_ :cF n (wQ x y) _);unfold wQ;refine .skip (.call _ (wR n _ _) fun q0 e0=>.skip (.call _ (Nq n hn _ _) fun q1 e1=>.skip (.call _ (Jk n _ (by show 2<n;omega) (by show 2<100000;omega)) fun(r:Int) hr=>.skip (.done rfl ?_))))
 subst e0 e1;refine Eq.trans hr ?_;unfold tw iY;simp only[qb,eA];by_cases h0:cM x.av y.av=0
 ·by_cases h1:cM x.ah.IP y.ah.IP=0
  ·by_cases h2:cM x.ah.Len y.ah.Len=0
   ·simp[h0,h1,h2]
   ·simp[h0,h1,h2]
  ·simp[h0,h1]
 ·simp[h0]
def Jl(x:aG):List Value:=[.int .i64 x.av,.int .u32 x.ah.IP,.int .i64 x.ah.Len,.int .i64 x.BD,.int .u32 x.Next,.int .u32 x.bL,.int .u64 x.bq,.int .u64 x.cW]
instance inhHo:Inhabited aG:=⟨aG.mk 0 (ah.mk 0 0) 0 0 0 0 0⟩
def Ba(x y:aG):Prop:=tw x y<0
theorem Cr(x y:aG):ltOf tw x y=true↔Ba x y:=by simp only[ltOf,decide_eq_true_eq];rfl
theorem Kq:SWO (ltOf tw) where
 irrefl:=fun x=>by
  have:=mt (Cr x x).1 (EZ _);simpa using this
 trans:=fun x y z h1 h2=>by
  rw[Cr]at*;exact sQ h1 h2
 ntrans:=fun x y z h1 h2=>by
  have e:∀a b,ltOf tw a b=false↔¬Ba a b:=fun a b=>by rw[← Bool.not_eq_true,Cr]
  rw[e]at*;unfold Ba tw at*;intro h3;have s1:=rM (iY x) (iY y);have s2:=rM (iY y) (iY z);by_cases e1:eA (iY x) (iY y)=0
  ·rw[(rL (show(iY x).length=(iY y).length from rfl)).1 e1]at h3;omega
  ·by_cases e2:eA (iY y) (iY z)=0
   ·rw[← (rL (show(iY y).length=(iY z).length from rfl)).1 e2]at h3;omega
   ·have h4:eA (iY z) (iY y)<0:=by omega
    have h5:eA (iY y) (iY x)<0:=by omega
    have h6:=sQ h4 h5;have s3:=rM (iY x) (iY z);omega
theorem Nr(x y:aG):jV prog 60 [.agg (mF Jl x),.agg (mF Jl y)] (.ret (si (tw x y))):=
 by
 obtain⟨r,h,rfl⟩:=QS 3 (Nat.le_refl _) x y;exact BM.ok 3 (x,y) _ h
noncomputable def iu(l:List aG):List aG:=(pdq (ltOf tw) l.toArray 0 l.length (Lib.bitLen l.length) true true).toList
theorem Ns(l:List aG)(hsz:l.length<4611686018427387904):
 bO prog 59 [.sl 0 0 8 0 l.length,.fn (.func 60) [] []] [.row 0 8 (l.map cO)] (.ret nothing) [.row 0 8 ((iu l).map cO)]:=
 Ki (P:=prog) (ρ:=Tryz.Gr) Tryz.Ti (gf:=60) (enc:=Jl) (k:=8) (fun _=>rfl) (by omega) (fun x v hv=>by
  simp only[Jl,List.mem_cons,List.not_mem_nil,or_false]at hv;rcases hv with h |h |h |h |h |h |h |h<;>subst h<;>rfl) (cf:=tw) Kq Tryz.isAgg63 Tryz.sizeOf63 (fun args w=>by
  simp[callFunc,Tryz.func60];rfl) ⟨Tryz.f59,_,Tryz.func59,rfl,by decide⟩ Nr l hsz
theorem Nt{f:FuncId}{a:List AVal}{H H1:List af}(h:bO prog f a H (.ret nothing) H1):bO prog f a H (.ret (.ct [])) H1:=
 ⟨h.1,fun g w vs hi hl=>(h.2 g w vs hi hl).mono fun e w' ⟨g',h1,h2,x,h3,h4⟩=>⟨g',h1,h2,x,h3,by
  simp only[nothing,R]at h4;subst h4;simp[R,RL]⟩⟩
noncomputable def Hx(x:List aG):Option (List aG):=if x.length<4611686018427387904 then some (iu x)else none
theorem Nu(x:List aG)(r:List aG)(h:Hx x=some r):bO prog 59 [.sl 0 0 8 0 x.length,.fn (.func 60) [] []] [.row 0 8 (x.map cO)] (.ret (.ct [])) [.row 0 8 (r.map cO)]:=by
 unfold Hx at h;split at h
 ·rename_i hc;cases h;exact Nt (Ns x hc)
 ·cases h
theorem Mi(l:List aG):(l.map cO).all AVal.aS=true:=by simp[cO,AVal.aS,AVal.pure]
noncomputable def lH:dF prog:={f:=59,X:=List aG,args:=fun x=>[.sl 0 0 8 0 (List.length x),.fn (.func 60) [] []],blk:=fun x=>.row 0 8 (x.map cO),sh:=.one (List aG),out:=fun(_:List aG)=>.ret (.ct []),qN:=fun _ (r:List aG)=>.row 0 8 (r.map cO),S:=fun _ x=>Hx x,a0:=fun _=>rfl,b0:=fun x=>Mi x,b1:=fun _ (r:List aG)=>.inl (Mi r),r0:=fun _=>rfl,ok:=fun _ x r h=>Nu x r h}
theorem jO(l:List (aG)):(iu l).Perm l∧(iu l).Pairwise (fun a b=>¬Ba b a):=by
 have hp:=pdq_sorts (ltOf tw) Kq l.toArray 0 l.length (Lib.bitLen l.length) true true (Nat.zero_le _) (by simp) (Or.inl rfl)
 obtain⟨⟨h1,_,h3⟩,h4⟩:=hp;have hsz:(iu l).length=l.length:=by unfold iu;simpa using h1
 constructor
 ·unfold iu;generalize pdq (ltOf tw) l.toArray 0 l.length (Lib.bitLen l.length) true true=d at h1 h3;have e1:d.extract 0 l.length=d:=by
   have:l.length=d.size:=by rw[h1];simp
   rw[this];simp
  have e2:l.toArray.extract 0 l.length=l.toArray:=by
   have:l.length=l.toArray.size:=by simp
   rw[this];simp
  rw[e1,e2]at h3;simpa using h3
 ·rw[List.pairwise_iff_getElem];intro i j hi hj hij;have:=h4 i j (Nat.zero_le _) hij (by omega)
  have e:∀(k:Nat) (hk:k<(iu l).length),(iu l)[k]=(pdq (ltOf tw) l.toArray 0 l.length (Lib.bitLen l.length) true true)[k]! :=fun k hk=>by
   have hk':k<(pdq (ltOf tw) l.toArray 0 l.length (Lib.bitLen l.length) true true).size:=by rw[h1];simp;omega
   rw[getElem!_pos _ k hk'];rfl
  rw[e i hi,e j hj,← Cr,this];simp
end Go.L
