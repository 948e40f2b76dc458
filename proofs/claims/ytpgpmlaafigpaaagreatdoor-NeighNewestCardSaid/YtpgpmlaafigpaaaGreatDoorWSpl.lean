/- The library's sort by a function at places of addresses, whatever their number, as a contract. No conditions. -/
import Derived.Test.YtpgpmlaafigpaaaGreatDoorWTe3
import Derived.Test.YtpgpmlaafigpaaaGreatDoorWBh
import Derived.Test.YtpgpmlaafigpaaaGreatDoorAe
import Derived.Test.YtpgpmlaafigpaaaGreatDoorAd
namespace Go.Proofs
open Go.Shelf
set_option maxRecDepth 100000
def Tryz.H6:Shelf.Ren where
 f:=fun x=>match x with
  | 6=>214
  | 15=>191
  | 14=>291
  | 28=>280
  | 29=>281
  | 20=>373
  | 21=>374
  | 22=>375
  | 23=>376
  | 24=>377
  | 25=>378
  | 26=>379
  | 27=>380
  | 46=>415
  | 47=>363
  | 48=>364
  | 49=>416
  | 50=>417
  | 57=>426
  |n=>n
 t:=fun x=>match x with
  | 22=>231
  | 24=>234
  | 25=>239
  | 3=>3
  | 39=>171
  | 0=>0
  | 53=>26
  | 55=>23
  | 4=>4
  | 46=>358
  | 45=>357
  | 50=>219
  | 5=>5
  | 9=>9
  | 66=>424
  | 70=>428
  | 76=>463
  | 77=>464
  |n=>n
 g:=fun n=>n
theorem Tryz.VZ:SlLaysF0.n6 Tryz.prog Tryz.H6 where
 mixed:=by kernel_rfl
 f6 := ⟨"slices.SortFunc[[]leafmesh/neigh.place,leafmesh/neigh.place]", of_decide_eq_true (by kernel_rfl), Eq.trans Tryz.func214 (by kernel_rfl)⟩
 f14 := ⟨"slices.pdqsortCmpFunc[leafmesh/neigh.place]", of_decide_eq_true (by kernel_rfl), Eq.trans Tryz.func291 (by kernel_rfl)⟩
 f15:=Eq.trans Tryz.func191 (by kernel_rfl)
 f20 := ⟨"slices.insertionSortCmpFunc[leafmesh/neigh.place]", of_decide_eq_true (by kernel_rfl), Eq.trans Tryz.func373 (by kernel_rfl)⟩
 f21 := ⟨"slices.heapSortCmpFunc[leafmesh/neigh.place]", of_decide_eq_true (by kernel_rfl), Eq.trans Tryz.func374 (by kernel_rfl)⟩
 f22 := ⟨"slices.breakPatternsCmpFunc[leafmesh/neigh.place]", of_decide_eq_true (by kernel_rfl), Eq.trans Tryz.func375 (by kernel_rfl)⟩
 f23 := ⟨"slices.choosePivotCmpFunc[leafmesh/neigh.place]", of_decide_eq_true (by kernel_rfl), Eq.trans Tryz.func376 (by kernel_rfl)⟩
 f24 := ⟨"slices.reverseRangeCmpFunc[leafmesh/neigh.place]", of_decide_eq_true (by kernel_rfl), Eq.trans Tryz.func377 (by kernel_rfl)⟩
 f25 := ⟨"slices.partialInsertionSortCmpFunc[leafmesh/neigh.place]", of_decide_eq_true (by kernel_rfl), Eq.trans Tryz.func378 (by kernel_rfl)⟩
 f26 := ⟨"slices.partitionEqualCmpFunc[leafmesh/neigh.place]", of_decide_eq_true (by kernel_rfl), Eq.trans Tryz.func379 (by kernel_rfl)⟩
 f27 := ⟨"slices.partitionCmpFunc[leafmesh/neigh.place]", of_decide_eq_true (by kernel_rfl), Eq.trans Tryz.func380 (by kernel_rfl)⟩
 f28:=Eq.trans Tryz.func280 (by kernel_rfl)
 f29:=Eq.trans Tryz.func281 (by kernel_rfl)
 f46 := ⟨"slices.siftDownCmpFunc[leafmesh/neigh.place]", of_decide_eq_true (by kernel_rfl), Eq.trans Tryz.func415 (by kernel_rfl)⟩
 f47:=Eq.trans Tryz.func363 (by kernel_rfl)
 f48:=Eq.trans Tryz.func364 (by kernel_rfl)
 f49 := ⟨"slices.medianAdjacentCmpFunc[leafmesh/neigh.place]", of_decide_eq_true (by kernel_rfl), Eq.trans Tryz.func416 (by kernel_rfl)⟩
 f50 := ⟨"slices.medianCmpFunc[leafmesh/neigh.place]", of_decide_eq_true (by kernel_rfl), Eq.trans Tryz.func417 (by kernel_rfl)⟩
 f57 := ⟨"slices.order2CmpFunc[leafmesh/neigh.place]", of_decide_eq_true (by kernel_rfl), Eq.trans Tryz.func426 (by kernel_rfl)⟩
 t0:=Tryz.underlying0
 a0:=Tryz.isAgg0
 z0:=Tryz.sizeOf0
 v0:=Tryz.zeroValue0
 t3:=Tryz.underlying3
 a3:=Tryz.isAgg3
 z3:=Tryz.sizeOf3
 v3:=Tryz.zeroValue3
 t4:=Tryz.underlying4
 a4:=Tryz.isAgg4
 z4:=Tryz.sizeOf4
 v4:=Tryz.zeroValue4
 t5:=Tryz.underlying5
 a5:=Tryz.isAgg5
 z5:=Tryz.sizeOf5
 v5:=Tryz.zeroValue5
 t9:=Tryz.underlying9
 a9:=Tryz.isAgg9
 z9:=Tryz.sizeOf9
 v9:=Tryz.zeroValue9
 t22:=Tryz.underlying231
 a22:=Tryz.isAgg231
 z22:=Tryz.sizeOf231
 v22:=Tryz.zeroValue231
 t25:=Tryz.underlying239
 a25:=Tryz.isAgg239
 z25:=Tryz.sizeOf239
 v25:=Tryz.zeroValue239
 t39:=Tryz.underlying171
 a39:=Tryz.isAgg171
 z39:=Tryz.sizeOf171
 v39:=Tryz.zeroValue171
 t45:=Tryz.underlying357
 a45:=Tryz.isAgg357
 z45:=Tryz.sizeOf357
 v45:=Tryz.zeroValue357
 t46:=Tryz.underlying358
 a46:=Tryz.isAgg358
 z46:=Tryz.sizeOf358
 v46:=Tryz.zeroValue358
 t50:=Tryz.underlying219
 a50:=Tryz.isAgg219
 z50:=Tryz.sizeOf219
 v50:=Tryz.zeroValue219
 t53:=Tryz.underlying26
 a53:=Tryz.isAgg26
 z53:=Tryz.sizeOf26
 v53:=Tryz.zeroValue26
 t55:=Tryz.underlying23
 a55:=Tryz.isAgg23
 z55:=Tryz.sizeOf23
 v55:=Tryz.zeroValue23
 t66:=Tryz.underlying424
 a66:=Tryz.isAgg424
 z66:=Tryz.sizeOf424
 v66:=Tryz.zeroValue424
 t70:=Tryz.underlying428
 a70:=Tryz.isAgg428
 z70:=Tryz.sizeOf428
 v70:=Tryz.zeroValue428
 t76:=Tryz.underlying463
 a76:=Tryz.isAgg463
 z76:=Tryz.sizeOf463
 v76:=Tryz.zeroValue463
 t77:=Tryz.underlying464
 a77:=Tryz.isAgg464
 z77:=Tryz.sizeOf464
 v77:=Tryz.zeroValue464
end Go.Proofs
namespace Go.L
open Go.AM Go.Proofs Go.Sort
set_option maxRecDepth 100000
set_option linter.unusedVariables false
set_option linter.unusedSimpArgs false
noncomputable def wG(x1:Go.L.au)(x2:Go.L.au):G prog (Sh.El (.one Int)):=
 .skip 7<|.call kK (x1.bd,x2.bd) fun(r3:Int)=>.skip 4<|.call lg (x1.ip,x2.ip) fun(r4:Int)=>.skip 1<|.call vV [r3,r4] fun(r5:Int)=>.skip 1<|.done [] r5
noncomputable def BC:aA prog:=aA.of Aj 10 140 (Go.L.au×Go.L.au) (fun x=>[.agg (cZ x.1),.agg (cZ x.2)]) (.one Int) (fun r=>.ret (.sc (.int .i64 r))) (fun x=>wG x.1 x.2) (fun x=>by kernel_rfl)
def fR(a b:Int):Int:=if a<b then -1 else if a>b then 1 else 0
theorem Mb(n:Nat)(a b:Int):kK.S n (a,b)=some (fR a b):=by
 have e:∀(x:Int) {β:Type} (k:oG.sh.El→Option β),(oG.S n x).bind k=k false:=fun x β k=>by
  have:oG.S n x=some (x != x):=rfl;rw[this];simp only[bne_self_eq_false];rfl
 show(tO a b).run n=_;simp only[tO,G.run,aI,if_true,e,fR,decide_eq_true_eq];simp only[Bool.false_eq_true,if_false];split
 ·rfl
 ·split<;>rfl
theorem Oo(n:Nat)(a b:Int):lg.S n (a,b)=some (fR a b):=by
 have e:∀(x:Int) {β:Type} (k:pZ.sh.El→Option β),(pZ.S n x).bind k=k false:=fun x β k=>by
  have:pZ.S n x=some (x != x):=rfl;rw[this];simp only[bne_self_eq_false];rfl
 show(uH a b).run n=_;simp only[uH,G.run,aI,if_true,e,fR,decide_eq_true_eq];simp only[Bool.false_eq_true,if_false];split
 ·rfl
 ·split<;>rfl
theorem WB(n:Nat)(p q:Int)(hn:3≤n):vV.S n [p,q]=some (if p=0 then q else p):=by
 obtain⟨m,rfl⟩:∃m,n=m+3:=⟨n - 3,by omega⟩
 show(vU [p,q]).run (m+3)=_;by_cases hp:p=0
 ·subst hp;by_cases hq:q=0
  ·subst hq;rfl
  ·have hq2:(q != (0:Int))=true:=by simpa using hq
   simp only[vU,G.run,aI,if_true,bD,cn,bZ];simp[gi,hq,show Go.IntKind.wrap .i64 (1:Int)=1 from rfl];rfl
 ·simp only[vU,G.run,aI,if_true,bD,cn,bZ];simp[gi,hp];rfl
def uV(x y:au):Int:=if fR x.bd y.bd=0 then fR x.ip y.ip else fR x.bd y.bd
theorem Ty(x y:au):BC.S 3 (x,y)=some (uV x y):=by
 have e1:∀{β:Type} (k:kK.sh.El→Option β),(kK.S 3 (x.bd,y.bd)).bind k=k (fR x.bd y.bd):=fun k=>by rw[Mb];rfl
 have e2:∀{β:Type} (k:lg.sh.El→Option β),(lg.S 3 (x.ip,y.ip)).bind k=k (fR x.ip y.ip):=fun k=>by rw[Oo];rfl
 have e3:∀{β:Type} (k:vV.sh.El→Option β),(vV.S 3 [fR x.bd y.bd,fR x.ip y.ip]).bind k=k (uV x y):=fun k=>by rw[WB 3 _ _ (Nat.le_refl _)];rfl
 show(wG x y).run 3=_;simp only[wG,G.run,aI,if_true,e1,e2,e3];rfl
def KJ(x:au):List Value:=[.int .i64 x.bd,.int .u32 x.ip]
instance inhPl:Inhabited au:=⟨⟨0,0⟩⟩
theorem GJ(a b:Int):fR a b<0↔a<b:=by
 unfold fR;split
 ·omega
 ·split<;>omega
theorem J3(a b:Int):fR a b=0↔a=b:=by
 unfold fR;split
 ·omega
 ·split<;>omega
def B8(x y:au):Prop:=x.bd<y.bd∨x.bd=y.bd∧x.ip<y.ip
theorem Du(x y:au):ltOf uV x y=true↔B8 x y:=by
 have h1:=GJ x.bd y.bd;have h2:=J3 x.bd y.bd;have h3:=GJ x.ip y.ip;have h4:uV x y<0↔B8 x y:=by
  unfold uV B8;split<;>omega
 simp only[ltOf,decide_eq_true_eq];exact h4
theorem Mc:SWO (ltOf uV) where
 irrefl:=fun x=>by
  have:=mt (Du x x).1 (by unfold B8;omega)
  simpa using this
 trans:=fun x y z h1 h2=>by
  rw[Du]at*;unfold B8 at*;omega
 ntrans:=fun x y z h1 h2=>by
  have e:∀a b,ltOf uV a b=false↔¬B8 a b:=fun a b=>by rw[← Bool.not_eq_true,Du]
  rw[e]at*;unfold B8 at*;omega
theorem PX(x y:au):iQ prog 140 [.agg (l7 KJ x),.agg (l7 KJ y)] (.ret (.sc (.int .i64 (uV x y)))):=
 BC.ok 3 (x,y) (uV x y) (Ty x y)
noncomputable def gA(l:List au):List au:=(pdq (ltOf uV) l.toArray 0 l.length (Lib.bitLen l.length) true true).toList
theorem PY(l:List au)(hsz:l.length<4611686018427387904):
 bz prog 214 [.sl 0 0 2 0 l.length,.fn (.func 140) [] []] [.row 0 2 (l.map cZ)] (.ret nothing) [.row 0 2 ((gA l).map cZ)]:=
 Ez (P:=prog) (ρ:=Tryz.H6) Tryz.VZ (gf:=140) (enc:=KJ) (k:=2) (fun _=>rfl) (by omega) (fun x v hv=>by
  simp only[KJ,List.mem_cons,List.not_mem_nil,or_false]at hv;rcases hv with h |h<;>subst h<;>rfl) (cf:=uV) Mc Tryz.isAgg234 Tryz.sizeOf234 (fun args w=>by
  simp[callFunc,Tryz.func140];rfl) ⟨Tryz.f214,_,Tryz.func214,rfl,by decide⟩ PX l hsz
theorem PZ{f:FuncId}{a:List AVal}{H H1:List aa}(h:bz prog f a H (.ret nothing) H1):bz prog f a H (.ret (.cw [])) H1:=
 ⟨h.1,fun g w vs hi hl=>(h.2 g w vs hi hl).mono fun e w' ⟨g',h1,h2,x,h3,h4⟩=>⟨g',h1,h2,x,h3,by
  simp only[nothing,R]at h4;subst h4;simp[R,RL]⟩⟩
noncomputable def Je(x:List au):Option (List au):=if x.length<4611686018427387904 then some (gA x)else none
theorem P0(x:List au)(r:List au)(h:Je x=some r):bz prog 214 [.sl 0 0 2 0 x.length,.fn (.func 140) [] []] [.row 0 2 (x.map cZ)] (.ret (.cw [])) [.row 0 2 (r.map cZ)]:=by
 unfold Je at h;split at h
 ·rename_i hc;cases h;exact PZ (PY x hc)
 ·cases h
theorem Oq(l:List au):(l.map cZ).all AVal.aT=true:=by simp[cZ,AVal.aT,AVal.pure]
noncomputable def pF:cD prog:={f:=214,X:=List au,args:=fun x=>[.sl 0 0 2 0 (List.length x),.fn (.func 140) [] []],blk:=fun x=>.row 0 2 (x.map cZ),sh:=.one (List au),out:=fun(_:List au)=>.ret (.cw []),o5:=fun _ (r:List au)=>.row 0 2 (r.map cZ),S:=fun _ x=>Je x,a0:=fun _=>rfl,b0:=fun x=>Oq x,b1:=fun _ (r:List au)=>.inl (Oq r),r0:=fun _=>rfl,ok:=fun _ x r h=>P0 x r h}
theorem rz(l:List (au)):(gA l).Perm l∧(gA l).Pairwise (fun a b=>¬B8 b a):=by
 have hp:=pdq_sorts (ltOf uV) Mc l.toArray 0 l.length (Lib.bitLen l.length) true true (Nat.zero_le _) (by simp) (Or.inl rfl)
 obtain⟨⟨h1,_,h3⟩,h4⟩:=hp;have hsz:(gA l).length=l.length:=by unfold gA;simpa using h1
 constructor
 ·unfold gA;generalize pdq (ltOf uV) l.toArray 0 l.length (Lib.bitLen l.length) true true=d at h1 h3;have e1:d.extract 0 l.length=d:=by
   have:l.length=d.size:=by rw[h1];simp
   rw[this];simp
  have e2:l.toArray.extract 0 l.length=l.toArray:=by
   have:l.length=l.toArray.size:=by simp
   rw[this];simp
  rw[e1,e2]at h3;simpa using h3
 ·rw[List.pairwise_iff_getElem];intro i j hi hj hij;have:=h4 i j (Nat.zero_le _) hij (by omega)
  have e:∀(k:Nat) (hk:k<(gA l).length),(gA l)[k]=(pdq (ltOf uV) l.toArray 0 l.length (Lib.bitLen l.length) true true)[k]! :=fun k hk=>by
   have hk':k<(pdq (ltOf uV) l.toArray 0 l.length (Lib.bitLen l.length) true true).size:=by rw[h1];simp;omega
   rw[getElem!_pos _ k hk'];rfl
  rw[e i hi,e j hj,← Du,this];simp
end Go.L
