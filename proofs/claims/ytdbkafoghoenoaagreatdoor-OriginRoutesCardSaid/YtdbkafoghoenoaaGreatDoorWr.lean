/- The library's sort by a function at routes, whatever their number, told where their keys differ, as a contract. No conditions. -/
import Derived.Test.YtdbkafoghoenoaaGreatDoorWs
import Derived.Test.YtdbkafoghoenoaaGreatDoorPr
import Derived.Test.YtdbkafoghoenoaaGreatDoorAe
import Derived.Test.YtdbkafoghoenoaaGreatDoorAd
set_option linter.unusedSimpArgs false
set_option linter.unusedVariables false
set_option maxRecDepth 100000
namespace Go.Proofs
open Go.Shelf
def Tryz.sortRo_ren:Shelf.Ren where
 f:=fun x=>match x with
  | 6=>57
  | 15=>108
  | 14=>107
  | 28=>175
  | 29=>176
  | 20=>167
  | 21=>168
  | 22=>169
  | 23=>170
  | 24=>171
  | 25=>172
  | 26=>173
  | 27=>174
  | 46=>235
  | 47=>236
  | 48=>237
  | 49=>238
  | 50=>239
  | 57=>257
  |n=>n
 t:=fun x=>match x with
  | 22=>50
  | 24=>67
  | 25=>133
  | 3=>3
  | 39=>137
  | 0=>0
  | 53=>25
  | 55=>23
  | 4=>4
  | 46=>235
  | 45=>234
  | 50=>86
  | 5=>5
  | 9=>9
  | 66=>282
  | 70=>286
  | 76=>303
  | 77=>304
  |n=>n
 g:=fun n=>n
theorem Tryz.sortRo:SlLaysF0.n6 Tryz.prog Tryz.sortRo_ren where
 mixed:=by kernel_rfl
 f6 := ⟨"slices.SortFunc[[]leafmesh/api.Route,leafmesh/api.Route]", of_decide_eq_true (by kernel_rfl), Eq.trans Tryz.func57 (by kernel_rfl)⟩
 f14 := ⟨"slices.pdqsortCmpFunc[leafmesh/api.Route]", of_decide_eq_true (by kernel_rfl), Eq.trans Tryz.func107 (by kernel_rfl)⟩
 f15:=Eq.trans Tryz.func108 (by kernel_rfl)
 f20 := ⟨"slices.insertionSortCmpFunc[leafmesh/api.Route]", of_decide_eq_true (by kernel_rfl), Eq.trans Tryz.func167 (by kernel_rfl)⟩
 f21 := ⟨"slices.heapSortCmpFunc[leafmesh/api.Route]", of_decide_eq_true (by kernel_rfl), Eq.trans Tryz.func168 (by kernel_rfl)⟩
 f22 := ⟨"slices.breakPatternsCmpFunc[leafmesh/api.Route]", of_decide_eq_true (by kernel_rfl), Eq.trans Tryz.func169 (by kernel_rfl)⟩
 f23 := ⟨"slices.choosePivotCmpFunc[leafmesh/api.Route]", of_decide_eq_true (by kernel_rfl), Eq.trans Tryz.func170 (by kernel_rfl)⟩
 f24 := ⟨"slices.reverseRangeCmpFunc[leafmesh/api.Route]", of_decide_eq_true (by kernel_rfl), Eq.trans Tryz.func171 (by kernel_rfl)⟩
 f25 := ⟨"slices.partialInsertionSortCmpFunc[leafmesh/api.Route]", of_decide_eq_true (by kernel_rfl), Eq.trans Tryz.func172 (by kernel_rfl)⟩
 f26 := ⟨"slices.partitionEqualCmpFunc[leafmesh/api.Route]", of_decide_eq_true (by kernel_rfl), Eq.trans Tryz.func173 (by kernel_rfl)⟩
 f27 := ⟨"slices.partitionCmpFunc[leafmesh/api.Route]", of_decide_eq_true (by kernel_rfl), Eq.trans Tryz.func174 (by kernel_rfl)⟩
 f28:=Eq.trans Tryz.func175 (by kernel_rfl)
 f29:=Eq.trans Tryz.func176 (by kernel_rfl)
 f46 := ⟨"slices.siftDownCmpFunc[leafmesh/api.Route]", of_decide_eq_true (by kernel_rfl), Eq.trans Tryz.func235 (by kernel_rfl)⟩
 f47:=Eq.trans Tryz.func236 (by kernel_rfl)
 f48:=Eq.trans Tryz.func237 (by kernel_rfl)
 f49 := ⟨"slices.medianAdjacentCmpFunc[leafmesh/api.Route]", of_decide_eq_true (by kernel_rfl), Eq.trans Tryz.func238 (by kernel_rfl)⟩
 f50 := ⟨"slices.medianCmpFunc[leafmesh/api.Route]", of_decide_eq_true (by kernel_rfl), Eq.trans Tryz.func239 (by kernel_rfl)⟩
 f57 := ⟨"slices.order2CmpFunc[leafmesh/api.Route]", of_decide_eq_true (by kernel_rfl), Eq.trans Tryz.func257 (by kernel_rfl)⟩
 t0:=Tryz.underlying0
 a0:=Tryz.isAgg0
 z0:=Tryz.sizeOf0
 v0:=Tryz.zeroValue0
 t3:=Tryz.underlying3
 a3:=Tryz.isAgg3
 z3:=Tryz.sizeOf3
 v3:=Tryz.zeroValue3
 t4:=Tryz.underlying4
 a4:=Tryz.isAgg4
 z4:=Tryz.sizeOf4
 v4:=Tryz.zeroValue4
 t5:=Tryz.underlying5
 a5:=Tryz.isAgg5
 z5:=Tryz.sizeOf5
 v5:=Tryz.zeroValue5
 t9:=Tryz.underlying9
 a9:=Tryz.isAgg9
 z9:=Tryz.sizeOf9
 v9:=Tryz.zeroValue9
 t22:=Tryz.underlying50
 a22:=Tryz.isAgg50
 z22:=Tryz.sizeOf50
 v22:=Tryz.zeroValue50
 t25:=Tryz.underlying133
 a25:=Tryz.isAgg133
 z25:=Tryz.sizeOf133
 v25:=Tryz.zeroValue133
 t39:=Tryz.underlying137
 a39:=Tryz.isAgg137
 z39:=Tryz.sizeOf137
 v39:=Tryz.zeroValue137
 t45:=Tryz.underlying234
 a45:=Tryz.isAgg234
 z45:=Tryz.sizeOf234
 v45:=Tryz.zeroValue234
 t46:=Tryz.underlying235
 a46:=Tryz.isAgg235
 z46:=Tryz.sizeOf235
 v46:=Tryz.zeroValue235
 t50:=Tryz.underlying86
 a50:=Tryz.isAgg86
 z50:=Tryz.sizeOf86
 v50:=Tryz.zeroValue86
 t53:=Tryz.underlying25
 a53:=Tryz.isAgg25
 z53:=Tryz.sizeOf25
 v53:=Tryz.zeroValue25
 t55:=Tryz.underlying23
 a55:=Tryz.isAgg23
 z55:=Tryz.sizeOf23
 v55:=Tryz.zeroValue23
 t66:=Tryz.underlying282
 a66:=Tryz.isAgg282
 z66:=Tryz.sizeOf282
 v66:=Tryz.zeroValue282
 t70:=Tryz.underlying286
 a70:=Tryz.isAgg286
 z70:=Tryz.sizeOf286
 v70:=Tryz.zeroValue286
 t76:=Tryz.underlying303
 a76:=Tryz.isAgg303
 z76:=Tryz.sizeOf303
 v76:=Tryz.zeroValue303
 t77:=Tryz.underlying304
 a77:=Tryz.isAgg304
 z77:=Tryz.sizeOf304
 v77:=Tryz.zeroValue304
end Go.Proofs
namespace Go.L
open Go.AM Go.Proofs Go.Sort
structure Raw17 where
 r0:Value
 r1:Value
 r2:Value
 r3:Value
 r4:Value
 r5:Value
 r6:Value
 r7:Value
 r8:Value
 r9:Value
 r10:Value
 r11:Value
 r12:Value
 r13:Value
 r14:Value
 r15:Value
 r16:Value
def raws(x:Raw17):List AVal:=[.sc x.r0,.sc x.r1,.sc x.r2,.sc x.r3,.sc x.r4,.sc x.r5,.sc x.r6,.sc x.r7,.sc x.r8,.sc x.r9,.sc x.r10,.sc x.r11,.sc x.r12,.sc x.r13,.sc x.r14,.sc x.r15,.sc x.r16]
noncomputable def g_origin_Routes_1(x1:NLRI)(x2:NLRI):G prog (Sh.El (.one Int)):=
 .skip 7<|.call c_nlri_Compare (x1,x2) fun(r3:Int)=>.skip 1<|.done [] r3
noncomputable def c_origin_Routes_1:Ctr prog:=Ctr.of cfg 10 58 ((NLRI×Raw17)×(NLRI×Raw17)) (fun x=>[.agg (eNLRI x.1.1++raws x.1.2),.agg (eNLRI x.2.1++raws x.2.2)]) (.one Int) (fun r=>.ret (si r)) (fun x=>g_origin_Routes_1 x.1.1 x.2.1) (fun x=>by kernel_rfl)
def encN(x:NLRI):List Value:=[.int .i64 x.Kind,.int .u64 x.RD,.int .u8 x.ESI.a0,.int .u8 x.ESI.a1,.int .u8 x.ESI.a2,.int .u8 x.ESI.a3,.int .u8 x.ESI.a4,.int .u8 x.ESI.a5,.int .u8 x.ESI.a6,.int .u8 x.ESI.a7,.int .u8 x.ESI.a8,.int .u8 x.ESI.a9,.int .u32 x.Tag,.int .u64 x.MAC,.int .u32 x.IP,.bool x.HasIP,.int .u32 x.Prefix.IP,.int .i64 x.Prefix.Len,.int .u32 x.Gateway,.int .u32 x.Label,.int .u32 x.Label2]
def keyR(x:Route):NLRI:=x.N
def raR(x:Route):List AVal:=(eRoute x).drop 21
theorem raw_ex(l:RawV 17):∃r:Raw17,l.1.map AVal.sc=raws r:=by
 obtain⟨l,h,_⟩:=l
 match l,h with
 | [r0,r1,r2,r3,r4,r5,r6,r7,r8,r9,r10,r11,r12,r13,r14,r15,r16],_=>exact⟨⟨r0,r1,r2,r3,r4,r5,r6,r7,r8,r9,r10,r11,r12,r13,r14,r15,r16⟩,rfl⟩
theorem routes1_v(n:Nat)(hn:11≤n)(x y:NLRI×Raw17):c_origin_Routes_1.S n (x,y)=some (cmpN x.1 y.1):=by
 obtain⟨r,h,rfl⟩:=nlri_at n hn x.1 y.1;show(g_origin_Routes_1 x.1 y.1).run n=_;simp only[g_origin_Routes_1,G.run];rw[h];rfl
theorem sortRo_cmp(x y:NLRI×RawV 17):FnVal prog 58 [.agg (encA (encX encN) x),.agg (encA (encX encN) y)] (.ret (si (cmpN x.1 y.1))):=by
 obtain⟨rx,hx⟩:=raw_ex x.2;obtain⟨ry,hy⟩:=raw_ex y.2;have h:=c_origin_Routes_1.ok 11 ((x.1,rx),(y.1,ry)) _ (routes1_v 11 (Nat.le_refl _) _ _);have ex:encA (encX encN) x=eNLRI x.1++raws rx:=by simp only[encA,encX,List.map_append,hx];rfl
 have ey:encA (encX encN) y=eNLRI y.1++raws ry:=by simp only[encA,encX,List.map_append,hy];rfl
 rw[ex,ey];exact h
def ltR(x y:Route):Bool:=decide (cmpN x.N y.N<0)
def insR(x:Route):List Route→Option (List Route)
 | []=>some [x]
 |y::l=>if ltR x y then some (x::y::l)else if ltR y x then(insR x l).map (y:: ·)else none
def isortR:List Route→Option (List Route)
 | []=>some []
 |x::l=>(isortR l).bind (insR x)
theorem cmpN_irr(x:NLRI):¬cmpN x x<0:=by have:=cmpN_swap x x;omega
theorem insR_ok:∀(l r:List Route) (x:Route),insR x l=some r→l.Pairwise (fun a b=>cmpN a.N b.N<0)→r.Perm (x::l)∧r.Pairwise (fun a b=>cmpN a.N b.N<0)
 | [],r,x,h,_=>by simp only[insR,Option.some.injEq]at h;subst h;simp
 |y::l,r,x,h,hp=>by
  simp only[insR,ltR,decide_eq_true_eq]at h;rw[List.pairwise_cons]at hp;split at h
  ·rename_i h1;simp only[Option.some.injEq]at h;subst h;refine⟨.refl _,List.pairwise_cons.2 ⟨fun b hb=>?_,List.pairwise_cons.2 hp⟩⟩
   rcases List.mem_cons.1 hb with rfl |hb
   ·exact h1
   ·exact cmpN_trans h1 (hp.1 b hb)
  ·split at h
   ·rename_i h1 h2;obtain⟨q,hq,rfl⟩:=Option.map_eq_some_iff.1 h;obtain⟨i1,i2⟩:=insR_ok l q x hq hp.2;refine⟨(i1.cons y).trans (.swap x y l),List.pairwise_cons.2 ⟨fun b hb=>?_,i2⟩⟩
    rcases List.mem_cons.1 (i1.subset hb)with rfl |hb
    ·exact h2
    ·exact hp.1 b hb
   ·cases h
theorem isortR_ok:∀(l r:List Route),isortR l=some r→r.Perm l∧r.Pairwise (fun a b=>cmpN a.N b.N<0)
 | [],r,h=>by simp only[isortR,Option.some.injEq]at h;subst h;simp
 |x::l,r,h=>by
  simp only[isortR]at h;obtain⟨q,hq,h⟩:=Option.bind_eq_some_iff.1 h;obtain⟨i1,i2⟩:=isortR_ok l q hq;obtain⟨j1,j2⟩:=insR_ok q r x h i2;exact⟨j1.trans (i1.cons x),j2⟩
theorem insR_some:∀(l:List Route) (x:Route),(∀y∈l,cmpN x.N y.N≠0)→∃r,insR x l=some r
 | [],x,_=>⟨_,rfl⟩
 |y::l,x,h=>by
  have h0:=h y (by simp)
  have hs:=cmpN_swap x.N y.N;simp only[insR,ltR,decide_eq_true_eq];by_cases h1:cmpN x.N y.N<0
  ·rw[if_pos h1];exact⟨_,rfl⟩
  ·rw[if_neg h1,if_pos (by omega)]
   obtain⟨r,hr⟩:=insR_some l x fun z hz=>h z (by simp[hz])
   rw[hr];exact⟨_,rfl⟩
theorem isortR_some:∀(l:List Route),l.Pairwise (fun a b=>cmpN a.N b.N≠0)→∃r,isortR l=some r
 | [],_=>⟨_,rfl⟩
 |x::l,h=>by
  rw[List.pairwise_cons]at h;obtain⟨q,hq⟩:=isortR_some l h.2;obtain⟨r,hr⟩:=insR_some q x fun y hy=>h.1 y ((isortR_ok l q hq).1.subset hy)
  exact⟨r,by simp only[isortR,hq,Option.bind_some,hr]⟩
theorem cmpN_swo:SWO (ltOf fun x y:NLRI×RawV 17=>cmpN x.1 y.1) where
 irrefl:=fun x=>by
  have:=cmpN_irr x.1;simpa[ltOf]using this
 trans:=fun x y z h1 h2=>by
  simp only[ltOf,decide_eq_true_eq]at*;exact cmpN_trans h1 h2
 ntrans:=fun x y z h1 h2=>by
  simp only[ltOf,decide_eq_false_iff_not]at*;intro h3;have s1:=cmpN_swap x.1 y.1;have s2:=cmpN_swap y.1 z.1;by_cases e1:cmpN x.1 y.1=0
  ·rw[cmpN_zero]at e1;have:cmpN x.1 z.1=cmpN y.1 z.1:=by unfold cmpN;rw[e1]
   omega
  ·have h4:cmpN y.1 x.1<0:=by omega
   have:=cmpN_trans h4 h3;omega
instance inhRaw:Inhabited (NLRI×RawV 17):=⟨(⟨0,0,esi0,0,0,0,false,⟨0,0⟩,0,0,0⟩,⟨List.replicate 17 (.bool false),by simp,fun v hv=>by rw[List.eq_of_mem_replicate hv];rfl⟩)⟩
theorem sortRo_ref(l l':List Route)(h:isortR l=some l')(hsz:l.length<4611686018427387904):
 FnRef prog 57 [.sl 0 0 38 0 l.length,.fn (.func 58) [] []] [.row 0 38 (l.map eRoute)] (.ret nothing) [.row 0 38 (l'.map eRoute)]:=by
 obtain⟨hp,hs⟩:=isortR_ok l l' h;have htri:∀x y,x∈l→y∈l→¬cmpN x.N y.N<0→¬cmpN y.N x.N<0→x=y:=by
  intro x y hx hy h1 h2;have hx':=hp.symm.subset hx;have hy':=hp.symm.subset hy;obtain⟨i,hi,rfl⟩:=List.getElem_of_mem hx';obtain⟨j,hj,rfl⟩:=List.getElem_of_mem hy';rcases Nat.lt_trichotomy i j with hij |hij |hij
  ·exact absurd ((List.pairwise_iff_getElem.1 hs) i j hi hj hij) h1
  ·subst hij;rfl
  ·exact absurd ((List.pairwise_iff_getElem.1 hs) j i hj hi hij) h2
 exact sortRows_ref (P:=prog) (ρ:=Tryz.sortRo_ren) (encK:=encN) (key:=keyR) (ra:=raR) (a:=21) (b:=17) Tryz.sortRo (gf:=58) (fun _=>rfl) (fun _=>rfl) (by omega) (fun x v hv=>by
  simp only[encN,List.mem_cons,List.not_mem_nil,or_false]at hv;rcases hv with h |h |h |h |h |h |h |h |h |h |h |h |h |h |h |h |h |h |h |h |h<;>subst h<;>rfl) (cf:=cmpN) cmpN_swo Tryz.isAgg67 Tryz.sizeOf67 (fun args w=>by
  simp[callFunc,Tryz.func58];rfl) ⟨Tryz.f57,_,Tryz.func57,rfl,by decide⟩ sortRo_cmp l l' hsz cmpN_irr (fun _ _ _=>cmpN_trans) htri hp hs
theorem fnRef_tupR{f:FuncId}{a:List AVal}{H H1:List ABlk}(h:FnRef prog f a H (.ret nothing) H1):FnRef prog f a H (.ret (.tup [])) H1:=
 ⟨h.1,fun g w vs hi hl=>(h.2 g w vs hi hl).mono fun e w' ⟨g',h1,h2,x,h3,h4⟩=>⟨g',h1,h2,x,h3,by
  simp only[nothing,R]at h4;subst h4;simp[R,RL]⟩⟩
def sortRoS(x:List Route):Option (List Route):=if x.length<4611686018427387904 then isortR x else none
theorem sortRoS_ok(x r:List Route)(h:sortRoS x=some r):FnRef prog 57 [.sl 0 0 38 0 x.length,.fn (.func 58) [] []] [.row 0 38 (x.map eRoute)] (.ret (.tup [])) [.row 0 38 (r.map eRoute)]:=by
 unfold sortRoS at h;split at h
 ·rename_i hc;exact fnRef_tupR (sortRo_ref x r h hc)
 ·cases h
theorem pure_ro(l:List Route):(l.map eRoute).all AVal.pureL=true:=by simp[eRoute,AVal.pureL,AVal.pure]
noncomputable def c_slices_SortFunc_Route_Route_r:Ctr1 prog:={f:=57,X:=List Route,args:=fun x=>[.sl 0 0 38 0 (List.length x),.fn (.func 58) [] []],blk:=fun x=>.row 0 38 (x.map eRoute),sh:=.one (List Route),out:=fun(_:List Route)=>.ret (.tup []),outB:=fun _ (r:List Route)=>.row 0 38 (r.map eRoute),S:=fun _ x=>sortRoS x,a0:=fun _=>rfl,b0:=fun x=>pure_ro x,b1:=fun _ (r:List Route)=>.inl (pure_ro r),r0:=fun _=>rfl,ok:=fun _ x r h=>sortRoS_ok x r h}
end Go.L
