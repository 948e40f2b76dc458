/- Parts put together. No conditions. -/
import Derived.Test.YtiohninblcifpaaGreatDoorWt
import Derived.Test.YtiohninblcifpaaGreatDoorWb
import Derived.Test.YtiohninblcifpaaGreatDoorAe
import Derived.Test.YtiohninblcifpaaGreatDoorAd
set_option linter.unusedSimpArgs false
set_option linter.unusedVariables false
set_option maxRecDepth 100000
section
namespace Go.Proofs
open Go.Shelf
def Tryz.Co:Shelf.Ren where
 f:=fun x=>match x with
  | 6=>155
  | 15=>120
  | 14=>214
  | 28=>188
  | 29=>189
  | 20=>260
  | 21=>261
  | 22=>262
  | 23=>263
  | 24=>264
  | 25=>265
  | 26=>266
  | 27=>267
  | 46=>289
  | 47=>247
  | 48=>248
  | 49=>290
  | 50=>291
  | 57=>299
  |n=>n
 t:=fun x=>match x with
  | 22=>182
  | 24=>185
  | 25=>190
  | 3=>3
  | 39=>139
  | 0=>0
  | 53=>43
  | 55=>40
  | 4=>4
  | 46=>273
  | 45=>272
  | 50=>197
  | 5=>5
  | 9=>9
  | 66=>327
  | 70=>331
  | 76=>358
  | 77=>359
  |n=>n
 g:=fun n=>n
theorem Tryz.MP:SlLaysF0.n6 Tryz.prog Tryz.Co where
 mixed:=by kernel_rfl
 f6 := ⟨"slices.SortFunc[[]leafmesh/neigh.place,leafmesh/neigh.place]", of_decide_eq_true (by kernel_rfl), Eq.trans Tryz.func155 (by kernel_rfl)⟩
 f14 := ⟨"slices.pdqsortCmpFunc[leafmesh/neigh.place]", of_decide_eq_true (by kernel_rfl), Eq.trans Tryz.func214 (by kernel_rfl)⟩
 f15:=Eq.trans Tryz.func120 (by kernel_rfl)
 f20 := ⟨"slices.insertionSortCmpFunc[leafmesh/neigh.place]", of_decide_eq_true (by kernel_rfl), Eq.trans Tryz.func260 (by kernel_rfl)⟩
 f21 := ⟨"slices.heapSortCmpFunc[leafmesh/neigh.place]", of_decide_eq_true (by kernel_rfl), Eq.trans Tryz.func261 (by kernel_rfl)⟩
 f22 := ⟨"slices.breakPatternsCmpFunc[leafmesh/neigh.place]", of_decide_eq_true (by kernel_rfl), Eq.trans Tryz.func262 (by kernel_rfl)⟩
 f23 := ⟨"slices.choosePivotCmpFunc[leafmesh/neigh.place]", of_decide_eq_true (by kernel_rfl), Eq.trans Tryz.func263 (by kernel_rfl)⟩
 f24 := ⟨"slices.reverseRangeCmpFunc[leafmesh/neigh.place]", of_decide_eq_true (by kernel_rfl), Eq.trans Tryz.func264 (by kernel_rfl)⟩
 f25 := ⟨"slices.partialInsertionSortCmpFunc[leafmesh/neigh.place]", of_decide_eq_true (by kernel_rfl), Eq.trans Tryz.func265 (by kernel_rfl)⟩
 f26 := ⟨"slices.partitionEqualCmpFunc[leafmesh/neigh.place]", of_decide_eq_true (by kernel_rfl), Eq.trans Tryz.func266 (by kernel_rfl)⟩
 f27 := ⟨"slices.partitionCmpFunc[leafmesh/neigh.place]", of_decide_eq_true (by kernel_rfl), Eq.trans Tryz.func267 (by kernel_rfl)⟩
 f28:=Eq.trans Tryz.func188 (by kernel_rfl)
 f29:=Eq.trans Tryz.func189 (by kernel_rfl)
 f46 := ⟨"slices.siftDownCmpFunc[leafmesh/neigh.place]", of_decide_eq_true (by kernel_rfl), Eq.trans Tryz.func289 (by kernel_rfl)⟩
 f47:=Eq.trans Tryz.func247 (by kernel_rfl)
 f48:=Eq.trans Tryz.func248 (by kernel_rfl)
 f49 := ⟨"slices.medianAdjacentCmpFunc[leafmesh/neigh.place]", of_decide_eq_true (by kernel_rfl), Eq.trans Tryz.func290 (by kernel_rfl)⟩
 f50 := ⟨"slices.medianCmpFunc[leafmesh/neigh.place]", of_decide_eq_true (by kernel_rfl), Eq.trans Tryz.func291 (by kernel_rfl)⟩
 f57 := ⟨"slices.order2CmpFunc[leafmesh/neigh.place]", of_decide_eq_true (by kernel_rfl), Eq.trans Tryz.func299 (by kernel_rfl)⟩
 t0:=Tryz.underlying0
 a0:=Tryz.isAgg0
 z0:=Tryz.sizeOf0
 v0:=Tryz.zeroValue0
 t3:=Tryz.underlying3
 a3:=Tryz.isAgg3
 z3:=Tryz.sizeOf3
 v3:=Tryz.zeroValue3
 t4:=Tryz.underlying4
 a4:=Tryz.isAgg4
 z4:=Tryz.sizeOf4
 v4:=Tryz.zeroValue4
 t5:=Tryz.underlying5
 a5:=Tryz.isAgg5
 z5:=Tryz.sizeOf5
 v5:=Tryz.zeroValue5
 t9:=Tryz.underlying9
 a9:=Tryz.isAgg9
 z9:=Tryz.sizeOf9
 v9:=Tryz.zeroValue9
 t22:=Tryz.underlying182
 a22:=Tryz.isAgg182
 z22:=Tryz.sizeOf182
 v22:=Tryz.zeroValue182
 t25:=Tryz.underlying190
 a25:=Tryz.isAgg190
 z25:=Tryz.sizeOf190
 v25:=Tryz.zeroValue190
 t39:=Tryz.underlying139
 a39:=Tryz.isAgg139
 z39:=Tryz.sizeOf139
 v39:=Tryz.zeroValue139
 t45:=Tryz.underlying272
 a45:=Tryz.isAgg272
 z45:=Tryz.sizeOf272
 v45:=Tryz.zeroValue272
 t46:=Tryz.underlying273
 a46:=Tryz.isAgg273
 z46:=Tryz.sizeOf273
 v46:=Tryz.zeroValue273
 t50:=Tryz.underlying197
 a50:=Tryz.isAgg197
 z50:=Tryz.sizeOf197
 v50:=Tryz.zeroValue197
 t53:=Tryz.underlying43
 a53:=Tryz.isAgg43
 z53:=Tryz.sizeOf43
 v53:=Tryz.zeroValue43
 t55:=Tryz.underlying40
 a55:=Tryz.isAgg40
 z55:=Tryz.sizeOf40
 v55:=Tryz.zeroValue40
 t66:=Tryz.underlying327
 a66:=Tryz.isAgg327
 z66:=Tryz.sizeOf327
 v66:=Tryz.zeroValue327
 t70:=Tryz.underlying331
 a70:=Tryz.isAgg331
 z70:=Tryz.sizeOf331
 v70:=Tryz.zeroValue331
 t76:=Tryz.underlying358
 a76:=Tryz.isAgg358
 z76:=Tryz.sizeOf358
 v76:=Tryz.zeroValue358
 t77:=Tryz.underlying359
 a77:=Tryz.isAgg359
 z77:=Tryz.sizeOf359
 v77:=Tryz.zeroValue359
end Go.Proofs
namespace Go.L
open Go.AM Go.Proofs Go.Sort
noncomputable def sw(x1:aj)(x2:aj):G prog (Sh.El (.one Int)):=
 .skip 7<|.call iS (x1.bd,x2.bd) fun(r3:Int)=>.skip 4<|.call jo (x1.ip,x2.ip) fun(r4:Int)=>.skip 1<|.call sv [r3,r4] fun(r5:Int)=>.skip 1<|.done [] r5
noncomputable def v8:aF prog:=aF.of uk 10 96 (aj×aj) (fun x=>[.agg (ck x.1),.agg (ck x.2)]) (.one Int) (fun r=>.ret (si r)) (fun x=>sw x.1 x.2) (fun x=>by kernel_rfl)
def eC(a b:Int):Int:=if a<b then -1 else if a>b then 1 else 0
theorem Fy(n:Nat)(a b:Int):iS.S n (a,b)=some (eC a b):=by
 have e:∀(x:Int) {β:Type} (k:l6.sh.El→Option β),(l6.S n x).bind k=k false:=fun x β k=>by
  have:l6.S n x=some (x != x):=rfl;rw[this];simp only[bne_self_eq_false];rfl
 show(pV a b).run n=_;simp only[pV,G.run,aK,if_true,e,eC,decide_eq_true_eq];simp only[Bool.false_eq_true,if_false];split
 ·rfl
 ·split<;>rfl
theorem G7(n:Nat)(a b:Int):jo.S n (a,b)=some (eC a b):=by
 have e:∀(x:Int) {β:Type} (k:nh.sh.El→Option β),(nh.S n x).bind k=k false:=fun x β k=>by
  have:nh.S n x=some (x != x):=rfl;rw[this];simp only[bne_self_eq_false];rfl
 show(qP a b).run n=_;simp only[qP,G.run,aK,if_true,e,eC,decide_eq_true_eq];simp only[Bool.false_eq_true,if_false];split
 ·rfl
 ·split<;>rfl
theorem Nu(n:Nat)(p q:Int)(hn:3≤n):sv.S n [p,q]=some (if p=0 then q else p):=by
 obtain⟨m,rfl⟩:∃m,n=m+3:=⟨n - 3,by omega⟩
 show(sr [p,q]).run (m+3)=_;by_cases hp:p=0
 ·subst hp;by_cases hq:q=0
  ·subst hq;rfl
  ·have hq2:(q != 0)=true:=by simpa using hq
   simp only[sr,G.run,aK,if_true,bA,bY,bM];simp[fF,hq,show IntKind.wrap .i64 1=1 from rfl];rfl
 ·simp only[sr,G.run,aK,if_true,bA,bY,bM];simp[fF,hp];rfl
def qQ(x y:aj):Int:=if eC x.bd y.bd=0 then eC x.ip y.ip else eC x.bd y.bd
theorem K6(x y:aj):v8.S 3 (x,y)=some (qQ x y):=by
 have e1:∀{β:Type} (k:iS.sh.El→Option β),(iS.S 3 (x.bd,y.bd)).bind k=k (eC x.bd y.bd):=fun k=>by rw[Fy];rfl
 have e2:∀{β:Type} (k:jo.sh.El→Option β),(jo.S 3 (x.ip,y.ip)).bind k=k (eC x.ip y.ip):=fun k=>by rw[G7];rfl
 have e3:∀{β:Type} (k:sv.sh.El→Option β),(sv.S 3 [eC x.bd y.bd,eC x.ip y.ip]).bind k=k (qQ x y):=fun k=>by rw[Nu 3 _ _ (Nat.le_refl _)];rfl
 show(sw x y).run 3=_;simp only[sw,G.run,aK,if_true,e1,e2,e3];rfl
def Ew(x:aj):List Value:=[.int .i64 x.bd,.int .u32 x.ip]
instance inhPl:Inhabited aj:=⟨⟨0,0⟩⟩
theorem Bs(a b:Int):eC a b<0↔a<b:=by
 unfold eC;split
 ·omega
 ·split<;>omega
theorem DN(a b:Int):eC a b=0↔a=b:=by
 unfold eC;split
 ·omega
 ·split<;>omega
def vz(x y:aj):Prop:=x.bd<y.bd∨x.bd=y.bd∧x.ip<y.ip
theorem yx(x y:aj):ltOf qQ x y=true↔vz x y:=by
 have h1:=Bs x.bd y.bd;have h2:=DN x.bd y.bd;have h3:=Bs x.ip y.ip;have h4:qQ x y<0↔vz x y:=by
  unfold qQ vz;split<;>omega
 simp only[ltOf,decide_eq_true_eq];exact h4
theorem Fz:SWO (ltOf qQ) where
 irrefl:=fun x=>by
  have:=mt (yx x x).1 (by unfold vz;omega)
  simpa using this
 trans:=fun x y z h1 h2=>by
  rw[yx]at*;unfold vz at*;omega
 ntrans:=fun x y z h1 h2=>by
  have e:∀a b,ltOf qQ a b=false↔¬vz a b:=fun a b=>by rw[← Bool.not_eq_true,yx]
  rw[e]at*;unfold vz at*;omega
theorem Im(x y:aj):kK prog 96 [.agg (kM Ew x),.agg (kM Ew y)] (.ret (si (qQ x y))):=
 v8.ok 3 (x,y) (qQ x y) (K6 x y)
noncomputable def eF(l:List aj):List aj:=(pdq (ltOf qQ) l.toArray 0 l.length (Lib.bitLen l.length) true true).toList
theorem Io(l:List aj)(hsz:l.length<4611686018427387904):
 bB prog 155 [.sl 0 0 2 0 l.length,.fn (.func 96) [] []] [.row 0 2 (l.map ck)] (.ret nothing) [.row 0 2 ((eF l).map ck)]:=
 Fu (P:=prog) (ρ:=Tryz.Co) Tryz.MP (gf:=96) (enc:=Ew) (k:=2) (fun _=>rfl) (by omega) (fun x v hv=>by
  simp only[Ew,List.mem_cons,List.not_mem_nil,or_false]at hv;rcases hv with h |h<;>subst h<;>rfl) (cf:=qQ) Fz Tryz.isAgg185 Tryz.sizeOf185 (fun args w=>by
  simp[callFunc,Tryz.func96];rfl) ⟨Tryz.f155,_,Tryz.func155,rfl,by decide⟩ Im l hsz
theorem Ip{f:FuncId}{a:List AVal}{H H1:List aa}(h:bB prog f a H (.ret nothing) H1):bB prog f a H (.ret (.cm [])) H1:=
 ⟨h.1,fun g w vs hi hl=>(h.2 g w vs hi hl).mono fun e w' ⟨g',h1,h2,x,h3,h4⟩=>⟨g',h1,h2,x,h3,by
  simp only[nothing,R]at h4;subst h4;simp[R,RL]⟩⟩
noncomputable def Dc(x:List aj):Option (List aj):=if x.length<4611686018427387904 then some (eF x)else none
theorem Iq(x:List aj)(r:List aj)(h:Dc x=some r):bB prog 155 [.sl 0 0 2 0 x.length,.fn (.func 96) [] []] [.row 0 2 (x.map ck)] (.ret (.cm [])) [.row 0 2 (r.map ck)]:=by
 unfold Dc at h;split at h
 ·rename_i hc;cases h;exact Ip (Io x hc)
 ·cases h
theorem G8(l:List aj):(l.map ck).all AVal.aN=true:=by simp[ck,AVal.aN,AVal.pure]
noncomputable def mG:cU prog:={f:=155,X:=List aj,args:=fun x=>[.sl 0 0 2 0 (List.length x),.fn (.func 96) [] []],blk:=fun x=>.row 0 2 (x.map ck),sh:=.one (List aj),out:=fun(_:List aj)=>.ret (.cm []),qM:=fun _ (r:List aj)=>.row 0 2 (r.map ck),S:=fun _ x=>Dc x,a0:=fun _=>rfl,b0:=fun x=>G8 x,b1:=fun _ (r:List aj)=>.inl (G8 r),r0:=fun _=>rfl,ok:=fun _ x r h=>Iq x r h}
theorem iH(l:List (aj)):(eF l).Perm l∧(eF l).Pairwise (fun a b=>¬vz b a):=by
 have hp:=pdq_sorts (ltOf qQ) Fz l.toArray 0 l.length (Lib.bitLen l.length) true true (Nat.zero_le _) (by simp) (Or.inl rfl)
 obtain⟨⟨h1,_,h3⟩,h4⟩:=hp;have hsz:(eF l).length=l.length:=by unfold eF;simpa using h1
 constructor
 ·unfold eF;generalize pdq (ltOf qQ) l.toArray 0 l.length (Lib.bitLen l.length) true true=d at h1 h3;have e1:d.extract 0 l.length=d:=by
   have:l.length=d.size:=by rw[h1];simp
   rw[this];simp
  have e2:l.toArray.extract 0 l.length=l.toArray:=by
   have:l.length=l.toArray.size:=by simp
   rw[this];simp
  rw[e1,e2]at h3;simpa using h3
 ·rw[List.pairwise_iff_getElem];intro i j hi hj hij;have:=h4 i j (Nat.zero_le _) hij (by omega)
  have e:∀(k:Nat) (hk:k<(eF l).length),(eF l)[k]=(pdq (ltOf qQ) l.toArray 0 l.length (Lib.bitLen l.length) true true)[k]! :=fun k hk=>by
   have hk':k<(pdq (ltOf qQ) l.toArray 0 l.length (Lib.bitLen l.length) true true).size:=by rw[h1];simp;omega
   rw[getElem!_pos _ k hk'];rfl
  rw[e i hi,e j hj,← yx,this];simp
end Go.L
end
section
namespace Go.L
noncomputable section
open Go.AM
def nj:dV:={val:=fun f=> ![45,46,47,48,49,50,51,137,206,207,208,55,56,57,58,114,116,117,178,59,119,180,181,182,183,184,185,186,187,246,247,248,249,250,92,93,94,95,156,154,213,155,214,260,261,262,263,264,265,266,267,176,243,277,278,279,280,281,282,284,285,296,297,298,175,212,211,244,177,40].contains f,kill:=fun _ _=>[]}
def dz(v:aj):AVal:=.agg (ck v)
def dA(v:ah):AVal:=.agg (cK v)
def oO(v:Int):AVal:=su v
def oP(v:Int):AVal:=si v
def eD(a b:aj):Bool:=((a.bd==b.bd)&&((a.ip==b.ip)&&true))
def fq(a b:Int):Bool:=((a==b)&&true)
def bR(b:Nat)(m:List (aj×ah)):PU:=jV b m dz dA (fun _=>rfl) fun _=>rfl
def gA(b:Nat)(m:List (aj×ah)):PR:=Ic b m dz dA (fun _=>rfl) fun _=>rfl
def nI(b:Nat)(m:List (Int×Int)):PU:=jV b m oO oP (fun _=>rfl) fun _=>rfl
def mF(b ai sz:Nat)(l:List aj):PU:=bN b ai sz l ck fun _=>rfl
def K7(b ai sz:Nat)(l:List aj):PR:=Cd b ai sz l ck fun _=>rfl
def K8(b ai sz:Nat)(l:List Known):PU:=bN b ai sz l cg fun _=>rfl
def yV:G prog (Sh.El (.one Unit)):=
 .skip 3<|.done [] ()
def yW:aF prog:=aF.of nj 10 90 (Unit) (fun x=>[]) (.one Unit) (fun r=>.ret (.au [[.fn (.func 142) [] []],[.fn (.func 144) [] []],[.fn (.func 145) [] []],[.fn (.func 147) [] []],[.fn (.func 148) [] []],[.fn (.func 149) [] []]])) (fun x=>yV) (fun x=>by kernel_rfl)
def Ec(x1:Bool)(x2:Bool):G prog (Sh.El (.one Int)):=
 .skip 3<|.br 7 x1 (.skip 4<|.br 5 (!x2) (.skip 2<|.done [] (-(1:Int))) (.skip 3<|.br 13 x2 (.skip 4<|.br 11 (!x1) (.skip 2<|.done [] (1:Int)) (.skip 2<|.done [] (0:Int))) (.skip 6<|.done [] (0:Int)))) (.skip 7<|.br 13 x2 (.skip 4<|.br 11 (!x1) (.skip 2<|.done [] (1:Int)) (.skip 2<|.done [] (0:Int))) (.skip 6<|.done [] (0:Int)))
def nT:aF prog:=aF.of nj 10 143 (Bool×Bool) (fun x=>[sb x.1,sb x.2]) (.one Int) (fun r=>.ret (si r)) (fun x=>Ec x.1 x.2) (fun x=>by kernel_rfl)
def xx(x1:ah)(x2:ah):G prog (Sh.El (.one Int)):=
 .skip 7<|.call nT (x1.gO,x2.gO) fun(r3:Int)=>.skip 1<|.done [] r3
def jZ:aF prog:=aF.of nj 10 142 (ah×ah) (fun x=>[.agg (cK x.1),.agg (cK x.2)]) (.one Int) (fun r=>.ret (si r)) (fun x=>xx x.1 x.2) (fun x=>by kernel_rfl)
def xy(x1:ah)(x2:ah):G prog (Sh.El (.one Int)):=
 .skip 7<|.call iS (x2.time,x1.time) fun(r3:Int)=>.skip 1<|.done [] r3
def kf:aF prog:=aF.of nj 10 144 (ah×ah) (fun x=>[.agg (cK x.1),.agg (cK x.2)]) (.one Int) (fun r=>.ret (si r)) (fun x=>xy x.1 x.2) (fun x=>by kernel_rfl)
def nJ(x1:Int)(x2:Int):G prog (Sh.El (.one Int)):=
 .skip 2<|.call dy x1 fun(r3:Bool)=>.skip 2<|.call dy x2 fun(r4:Bool)=>.skip 2<|.br 11 r3 (.skip 2<|.br 12 r4 (.skip 2<|.done [] (0:Int)) (.skip 2<|.done [] (-(1:Int)))) (.skip 2<|.br 13 r4 (.skip 2<|.done [] (1:Int)) (.skip 4<|.br 16 (decide (x1<x2)) (.skip 2<|.done [] (-(1:Int))) (.skip 4<|.br 19 (decide (x1>x2)) (.skip 2<|.done [] (1:Int)) (.skip 2<|.done [] (0:Int)))))
def nK:aF prog:=aF.of nj 10 146 (Int×Int) (fun x=>[su x.1,su x.2]) (.one Int) (fun r=>.ret (si r)) (fun x=>nJ x.1 x.2) (fun x=>by kernel_rfl)
def xz(x1:ah)(x2:ah):G prog (Sh.El (.one Int)):=
 .skip 7<|.call nK (x2.seq,x1.seq) fun(r3:Int)=>.skip 1<|.done [] r3
def kg:aF prog:=aF.of nj 10 145 (ah×ah) (fun x=>[.agg (cK x.1),.agg (cK x.2)]) (.one Int) (fun r=>.ret (si r)) (fun x=>xz x.1 x.2) (fun x=>by kernel_rfl)
def xA(x1:ah)(x2:ah):G prog (Sh.El (.one Int)):=
 .skip 7<|.call nT (x1.kN,x2.kN) fun(r3:Int)=>.skip 1<|.done [] r3
def ki:aF prog:=aF.of nj 10 147 (ah×ah) (fun x=>[.agg (cK x.1),.agg (cK x.2)]) (.one Int) (fun r=>.ret (si r)) (fun x=>xA x.1 x.2) (fun x=>by kernel_rfl)
def xB(x1:ah)(x2:ah):G prog (Sh.El (.one Int)):=
 .skip 7<|.call jo (x1.next,x2.next) fun(r3:Int)=>.skip 1<|.done [] r3
def kj:aF prog:=aF.of nj 10 148 (ah×ah) (fun x=>[.agg (cK x.1),.agg (cK x.2)]) (.one Int) (fun r=>.ret (si r)) (fun x=>xB x.1 x.2) (fun x=>by kernel_rfl)
def Cp(x1:Int):G prog (Sh.El (.one Bool)):=
 .skip 5<|.done [] (x1 != x1)
def l7:aF prog:=aF.of nj 10 210 (Int) (fun x=>[sq x]) (.one Bool) (fun r=>.ret (sb r)) (fun x=>Cp x) (fun x=>by kernel_rfl)
def pW(x1:Int)(x2:Int):G prog (Sh.El (.one Int)):=
 .skip 2<|.call l7 x1 fun(r3:Bool)=>.skip 2<|.call l7 x2 fun(r4:Bool)=>.skip 2<|.br 11 r3 (.skip 2<|.br 12 r4 (.skip 2<|.done [] (0:Int)) (.skip 2<|.done [] (-(1:Int)))) (.skip 2<|.br 13 r4 (.skip 2<|.done [] (1:Int)) (.skip 4<|.br 16 (decide (x1<x2)) (.skip 2<|.done [] (-(1:Int))) (.skip 4<|.br 19 (decide (x1>x2)) (.skip 2<|.done [] (1:Int)) (.skip 2<|.done [] (0:Int)))))
def pX:aF prog:=aF.of nj 10 150 (Int×Int) (fun x=>[sq x.1,sq x.2]) (.one Int) (fun r=>.ret (si r)) (fun x=>pW x.1 x.2) (fun x=>by kernel_rfl)
def xC(x1:ah)(x2:ah):G prog (Sh.El (.one Int)):=
 .skip 7<|.call pX (x1.ov,x2.ov) fun(r3:Int)=>.skip 1<|.done [] r3
def kn:aF prog:=aF.of nj 10 149 (ah×ah) (fun x=>[.agg (cK x.1),.agg (cK x.2)]) (.one Int) (fun r=>.ret (si r)) (fun x=>xC x.1 x.2) (fun x=>by kernel_rfl)
def jq(x1:ah)(x2:ah):G prog (Sh.El (.one Int)):=
 .skip 6<|.gu 300<|.skip 8<|.call jZ (x1,x2) fun(r3:Int)=>.skip 3<|.br 21 (r3 != 0) (.skip 3<|.done [] r3) (.skip 11<|.call kf (x1,x2) fun(r5:Int)=>.skip 3<|.br 21 (r5 != 0) (.skip 3<|.done [] r5) (.skip 11<|.call kg (x1,x2) fun(r7:Int)=>.skip 3<|.br 21 (r7 != 0) (.skip 3<|.done [] r7) (.skip 11<|.call ki (x1,x2) fun(r9:Int)=>.skip 3<|.br 21 (r9 != 0) (.skip 3<|.done [] r9) (.skip 11<|.call kj (x1,x2) fun(r11:Int)=>.skip 3<|.br 21 (r11 != 0) (.skip 3<|.done [] r11) (.skip 11<|.call kn (x1,x2) fun(r13:Int)=>.skip 3<|.br 21 (r13 != 0) (.skip 3<|.done [] r13) (.skip 6<|.done [] (0:Int)))))))
def dH:aF prog:=aF.of nj 10 152 (ah×ah) (fun x=>[.agg (cK x.1),.agg (cK x.2),.au [[.fn (.func 142) [] []],[.fn (.func 144) [] []],[.fn (.func 145) [] []],[.fn (.func 147) [] []],[.fn (.func 148) [] []],[.fn (.func 149) [] []]]]) (.one Int) (fun r=>.ret (si r)) (fun x=>jq x.1 x.2) (fun x=>by kernel_rfl)
def mK(x1:(List (aj×ah)))(x2:Int)(x3:Int)(x4:ah):G prog (Sh.El (.one (List (aj×ah)))):=
 .skip 10<|.op (qF x1 (aj.mk x2 x3) dz dA eD (ah.mk (0:Int) false (0:Int) (0:Int) false (0:Int)) [(.int .i64),(.int .u32)] true true 0) fun _=>.skip 9<|.br 23 (!(Option.isSome (aV eD (aj.mk x2 x3) x1 (0:Nat)))) (.skip 12<|.op (qG x1 (aj.mk x2 x3) x4 dz dA eD [(.int .i64),(.int .u32)] true 0) fun _=>.tidy [.keep [],.cut [] [] [jV 0 ((dQ eD (aj.mk x2 x3) x4 x1)) dz dA (fun _=>rfl) fun _=>rfl]]<|.inl [Ic 0 ((dQ eD (aj.mk x2 x3) x4 x1)) dz dA (fun _=>rfl) fun _=>rfl]<|.done [] (dQ eD (aj.mk x2 x3) x4 x1)) (.skip 4<|.call dH (x4,(Option.getD (Option.map (fun x=>x.2) (aV eD (aj.mk x2 x3) x1 (0:Nat))) (ah.mk (0:Int) false (0:Int) (0:Int) false (0:Int)))) fun(r6:Int)=>.skip 2<|.br 30 (decide (r6<0)) (.skip 5<|.op (qG x1 (aj.mk x2 x3) x4 dz dA eD [(.int .i64),(.int .u32)] true 0) fun _=>.tidy [.keep [],.cut [] [] [jV 0 ((dQ eD (aj.mk x2 x3) x4 x1)) dz dA (fun _=>rfl) fun _=>rfl]]<|.inl [Ic 0 ((dQ eD (aj.mk x2 x3) x4 x1)) dz dA (fun _=>rfl) fun _=>rfl]<|.done [] (dQ eD (aj.mk x2 x3) x4 x1)) (.skip 1<|.tidy [.keep [],.cut [] [] [bR 0 x1]]<|.inl [gA 0 x1]<|.done [] x1))
def pY:vm prog:=vm.of nj 92 ((List (aj×ah))×Int×Int×ah) (fun x=>[(.agg [(.mp 0),(.au [[(.fn (.func 142) [] [])],[(.fn (.func 144) [] [])],[(.fn (.func 145) [] [])],[(.fn (.func 147) [] [])],[(.fn (.func 148) [] [])],[(.fn (.func 149) [] [])]])]),(si x.2.1),(su x.2.2.1),(.agg (cK x.2.2.2))])
 (fun x=>[.map (List.length x.1) (bG dz dA 0 x.1)]) (.one (List (aj×ah))) (fun r=>.ret (.cm []))
 (fun x r=>[.map (List.length r) (bG dz dA 0 r)]) (fun x=>mK x.1 x.2.1 x.2.2.1 x.2.2.2)
 {m:=1,pu:=[0],sK:=[0],JN:=fun x=>[bR 0 x.1],Fo:=fun x r=>[bR 0 r],hl:=fun _=>rfl,ho:=fun _=>(fun _=>rfl),hp:=fun _=>⟨rfl,trivial⟩,BZ:=fun _=>rfl,hq:=fun _=>(fun _=>⟨rfl,trivial⟩),JO:=fun _=>(fun _=>rfl),hf:=(fun _=>rfl)} (fun x=>by kernel_rfl)
def tA(x1:aQ):G prog (Sh.El (.one Bool)):=
 .skip 3<|.call jm x1 fun(r2:(Int×ByteArray×Int))=>.skip 10<|.done [] (r2.1==0)
def xD:aF prog:=aF.of nj 10 170 (aQ) (fun x=>[.agg (bt x)]) (.one Bool) (fun r=>.ret (sb r)) (fun x=>tA x) (fun x=>by kernel_rfl)
def sy(x1:Int):G prog (Sh.El (.one (Int×Int))):=
 .skip 5<|.br 6 (decide (x1<0)) (.skip 6<|.done [] ((0:Int),(2:Int))) (.skip 3<|.br 9 (decide (x1≥32)) (.skip 3<|.done [] ((0:Int),(2:Int))) (.skip 7<|.done [] ((IntKind.wrap .u32 ((IntKind.wrap .u32 ((184483840:Int)+(IntKind.wrap .u32 x1)))+1)),(0:Int))))
def Cq:aF prog:=aF.of nj 10 241 (Int) (fun x=>[si x]) (.one (Int×Int)) (fun r=>.ret (.cm [su r.1,si r.2])) (fun x=>sy x) (fun x=>by kernel_rfl)
def pZ(x1:Int):G prog (Sh.El (.one Int)):=
 .skip 2<|.call Cq x1 fun(r2:(Int×Int))=>.skip 7<|.done [] r2.1
def uz:aF prog:=aF.of nj 10 172 (Int) (fun x=>[si x]) (.one Int) (fun r=>.ret (su r)) (fun x=>pZ x) (fun x=>by kernel_rfl)
def qb(x1:aQ)(x2:Int):G prog (Sh.El (.one Int)):=
 .skip 3<|.call xD x1 fun(r3:Bool)=>.skip 2<|.br 8 (!r3) (.skip 11<|.done [] (0:Int)) (.skip 6<|.call dM (x2,(IntKind.wrap .i64 (x1.Leaves+x1.fG))) fun(r5:Bool)=>.skip 2<|.br 17 (!r5) (.skip 2<|.done [] (0:Int)) (.skip 2<|.call uz x2 fun(r7:Int)=>.skip 1<|.done [] r7))
def mL:aF prog:=aF.of nj 10 112 (aQ×Int) (fun x=>[.agg (bt x.1),si x.2]) (.one Int) (fun r=>.ret (su r)) (fun x=>qb x.1 x.2) (fun x=>by kernel_rfl)
def tB:aa:=(.row 0 2 [[(.mp 0),(.au [[(.fn (.func 142) [] [])],[(.fn (.func 144) [] [])],[(.fn (.func 145) [] [])],[(.fn (.func 147) [] [])],[(.fn (.func 148) [] [])],[(.fn (.func 149) [] [])]])]])
def G9(x93:bw)(r97:(Bool×Int×Bool)):aa:=(.row 0 6 [[(sq x93.N.MAC),(sb false),(si 0),(su r97.2.1),(sb (!((x93.N.dY.a0==0)&&((x93.N.dY.a1==0)&&((x93.N.dY.a2==0)&&((x93.N.dY.a3==0)&&((x93.N.dY.a4==0)&&((x93.N.dY.a5==0)&&((x93.N.dY.a6==0)&&((x93.N.dY.a7==0)&&((x93.N.dY.a8==0)&&((x93.N.dY.a9==0)&&true)))))))))))),(su x93.A.Next)]])
def Dd(x3:Int)(x4:(List bw))(r5:Int):List AVal:=[.ay,.ay,(si x3),(.au (List.map bQ x4)),(.ptr 1 0 0 0),(.ptr 2 0 0 0),.ay,.ay,(su r5),(.mp 3)]
def nL(x1:(List (aj×ah)))(x2:aQ)(x3:Int)(x4:(List bw)):G prog (Sh.El (.one (List (aj×ah)))):=
 .skip 4<|.call mL (x2,x3) fun(r5:Int)=>.skip 5<|.op (bp x2.ax aZ) fun _=>.skip 1<|.loop (.one (List (Int×Int))) [.keep [2,3,4,5,8,9,29,30,31],.cut [1,2,3] [] [bR 0 x1]] (fun(a:(Int×List (Int×Int)))=>⟨(ap (Dd x3 x4 r5) (ap (jl 19) (ap [(.au (List.map aZ x2.ax)),(si (x2.ax.length:Int)),si a.1] (jl 93)))),[(.map (List.length x1) (bG dz dA 0 x1)),tB,.row 0 19 [bt x2],.map a.2.length (bG oO oP 0 a.2)],[]⟩)
  (fun(t:(List (Int×Int)))=>(.exit 0,⟨(ap [.ay,.ay,.ay,(.au (List.map bQ x4)),(.ptr 1 0 0 0),.ay,.ay,.ay,(su r5),(.mp 3)] (jl 115)),[(.map (List.length x1) (bG dz dA 0 x1)),tB,.row 0 19 [bt x2],.map t.length (bG oO oP 0 t)],[]⟩)) ((0:Int),[])
  (fun(a35:(Int×List (Int×Int)))=>.skip 1<|.br 32 (decide (a35.1<(x2.ax.length:Int))) (.skip 1<|.op (aY x2.ax aZ 2 a35.1) fun x36=>.skip 6<|.call cR (x36.Leaves,x3) fun(r37:Bool)=>.br 38 r37 (.skip 3<|.op (bp x36.aW (eI .i64)) fun _=>.skip 1<|.loop (.one (List (Int×Int))) [.keep [2,3,4,5,8,9,29,30,31,40,41,42]] (fun(a:(Int×List (Int×Int)))=>⟨(ap (Dd x3 x4 r5) (ap (jl 19) (ap [(.au (List.map aZ x2.ax)),(si (x2.ax.length:Int)),(si a35.1)] (ap (jl 8) (ap [(.au (List.map (eI .i64) x36.aW)),(si (x36.aW.length:Int)),si a.1] (jl 82)))))),[(.map (List.length x1) (bG dz dA 0 x1)),tB,.row 0 19 [bt x2],.map a.2.length (bG oO oP 0 a.2),.row 0 2 [aZ x36]],[]⟩)
  (fun(t:(List (Int×Int)))=>(.exit 2,⟨(ap (Dd x3 x4 r5) (ap (jl 19) (ap [(.au (List.map aZ x2.ax)),(si (x2.ax.length:Int)),(si a35.1)] (jl 93)))),[(.map (List.length x1) (bG dz dA 0 x1)),tB,.row 0 19 [bt x2],.map t.length (bG oO oP 0 t),.row 0 2 [aZ x36]],[]⟩)) ((0:Int),a35.2)
  (fun(a38:(Int×List (Int×Int)))=>.skip 1<|.br 43 (decide (a38.1<(x36.aW.length:Int))) (.skip 1<|.op (aY x36.aW (eI .i64) 1 a38.1) fun x39=>.skip 6<|.op (aY x2.aW ew 6 x39) fun x40=>.skip 3<|.op (qG a38.2 x40.Target x39 oO oP fq [(.int .u32)] false 3) fun _=>.skip 2<|.done [.keep [2,3,4,5,8,9,29,30,31,40,41,42]] (.inl ((IntKind.wrap .i64 (a38.1+1)),(dQ fq x40.Target x39 a38.2)))) (.skip 1<|.done [.keep [2,3,4,5,8,9,29,30,31]] (.inr a38.2)))
  (fun(t43:(List (Int×Int)))=>.skip 2<|.done [.keep [2,3,4,5,8,9,29,30,31],.cut [1,2,3] [] [bR 0 x1,nI 3 t43]] (.inl ((IntKind.wrap .i64 (a35.1+1)),t43)))) (.skip 3<|.done [.keep [2,3,4,5,8,9,29,30,31],.cut [1,2,3] [] [bR 0 x1,nI 3 a35.2]] (.inl ((IntKind.wrap .i64 (a35.1+1)),a35.2)))) (.skip 1<|.done [.keep [3,4,8,9],.cut [1,2,3] [] [bR 0 x1,nI 3 a35.2]] (.inr a35.2)))
  (fun(t47:(List (Int×Int)))=>.skip 1<|.op (bp x4 bQ) fun _=>.skip 1<|.loop (.one (List (aj×ah))) [.keep [4,8,9,56,57,58],.cut [1,3] [] [bR 0 x1,nI 3 t47]] (fun(a:(Int×List (aj×ah)))=>⟨(ap (jl 4) (ap [(.ptr 1 0 0 0),.ay,.ay,.ay,(su r5),(.mp 2)] (ap (jl 46) (ap [(.au (List.map bQ x4)),(si (x4.length:Int)),si a.1] (jl 66))))),[.map a.2.length (bG dz dA 0 a.2),tB,(.map (List.length t47) (bG oO oP 0 t47))],[]⟩)
  (fun(t:(List (aj×ah)))=>(.exit 4,⟨(jl 125),[.map t.length (bG dz dA 0 t),(.row 0 2 [[(.mp 0),(.au [[(.fn (.func 142) [] [])],[(.fn (.func 144) [] [])],[(.fn (.func 145) [] [])],[(.fn (.func 147) [] [])],[(.fn (.func 148) [] [])],[(.fn (.func 149) [] [])]])]]),(.map (List.length t47) (bG oO oP 0 t47))],[]⟩)) ((0:Int),x1)
  (fun(a92:(Int×List (aj×ah)))=>.skip 1<|.br 59 (decide (a92.1<(x4.length:Int))) (.skip 1<|.op (aY x4 bQ 38 a92.1) fun x93=>.skip 8<|.br 66 (x93.N.Kind != 2) (.skip 15<|.done [.keep [4,8,9,56,57,58],.cut [1,2] [] [bR 0 a92.2,nI 2 t47]] (.inl ((IntKind.wrap .i64 (a92.1+1)),a92.2))) (.skip 6<|.br 72 (!x93.N.iz) (.skip 9<|.done [.keep [4,8,9,56,57,58],.cut [1,2] [] [bR 0 a92.2,nI 2 t47]] (.inl ((IntKind.wrap .i64 (a92.1+1)),a92.2))) (.skip 6<|.br 78 (x93.A.Next==r5) (.skip 3<|.done [.keep [4,8,9,56,57,58],.cut [1,2] [] [bR 0 a92.2,nI 2 t47]] (.inl ((IntKind.wrap .i64 (a92.1+1)),a92.2))) (.skip 4<|.call kI x93.A.jW fun(r97:(Bool×Int×Bool))=>.skip 25<|.call pE x93.A.jW fun(r98:(List Int))=>.op (bp r98 (eI .u32)) fun _=>.skip 1<|.loop (.one (List (aj×ah))) [.keep [4,8,9,15,19,56,57,58,103,104,105]] (fun(a:(Int×List (aj×ah)))=>⟨(ap (jl 4) (ap [(.ptr 1 0 0 0),.ay,.ay,.ay,(su r5),(.mp 2)] (ap (jl 5) (ap [(.ptr 3 0 0 0),.ay,.ay,.ay,(.ptr 4 0 0 0)] (ap (jl 36) (ap [(.au (List.map bQ x4)),(si (x4.length:Int)),(si a92.1)] (ap (jl 44) (ap [(.au (List.map (eI .u32) r98)),(si (r98.length:Int)),si a.1] (jl 19))))))))),[.map a.2.length (bG dz dA 0 a.2),tB,(.map (List.length t47) (bG oO oP 0 t47)),.row 0 38 [bQ x93],(G9 x93 r97)],[]⟩)
  (fun(t:(List (aj×ah)))=>(.exit 6,⟨(ap (jl 4) (ap [(.ptr 1 0 0 0),.ay,.ay,.ay,(su r5),(.mp 2)] (ap (jl 46) (ap [(.au (List.map bQ x4)),(si (x4.length:Int)),(si a92.1)] (jl 66))))),[.map t.length (bG dz dA 0 t),tB,(.map (List.length t47) (bG oO oP 0 t47)),.row 0 38 [bQ x93],(G9 x93 r97)],[]⟩)) ((0:Int),a92.2)
  (fun(a99:(Int×List (aj×ah)))=>.skip 1<|.br 106 (decide (a99.1<(r98.length:Int))) (.skip 1<|.op (aY r98 (eI .u32) 1 a99.1) fun x100=>.skip 4<|.op (qF t47 x100 oO oP fq (0:Int) [(.int .u32)] false true 2) fun _=>.skip 6<|.br 115 (Option.isSome (aV fq x100 t47 (0:Nat))) (.skip 7<|.inl [gA 0 a99.2]<|.eU (pY.at [0] 5 rfl) (a99.2,(Option.getD (Option.map (fun x=>x.2) (aV fq x100 t47 (0:Nat))) (0:Int)),x93.N.IP,(ah.mk x93.N.MAC false (0:Int) r97.2.1 (!((x93.N.dY.a0==0)&&((x93.N.dY.a1==0)&&((x93.N.dY.a2==0)&&((x93.N.dY.a3==0)&&((x93.N.dY.a4==0)&&((x93.N.dY.a5==0)&&((x93.N.dY.a6==0)&&((x93.N.dY.a7==0)&&((x93.N.dY.a8==0)&&((x93.N.dY.a9==0)&&true))))))))))) x93.A.Next)) fun(r101:(List (aj×ah)))=>.skip 2<|.done [.keep [4,8,9,15,19,56,57,58,103,104,105]] (.inl ((IntKind.wrap .i64 (a99.1+1)),r101))) (.skip 3<|.done [.keep [4,8,9,15,19,56,57,58,103,104,105]] (.inl ((IntKind.wrap .i64 (a99.1+1)),a99.2)))) (.skip 1<|.done [.keep [4,8,9,56,57,58]] (.inr a99.2)))
  (fun(t105:(List (aj×ah)))=>.skip 2<|.done [.keep [4,8,9,56,57,58],.cut [1,2] [] [bR 0 t105,nI 2 t47]] (.inl ((IntKind.wrap .i64 (a92.1+1)),t105))))))) (.skip 1<|.done [.keep [],.cut [1,2] [] [bR 0 a92.2,nI 2 t47]] (.inr a92.2)))
  (fun(t108:(List (aj×ah)))=>.tidy [.keep [],.cut [] [] [bR 0 t108]]<|.inl [gA 0 t108]<|.done [] t108))
def sA:vm prog:=vm.of nj 93 ((List (aj×ah))×aQ×Int×(List bw)) (fun x=>[(.agg [(.mp 0),(.au [[(.fn (.func 142) [] [])],[(.fn (.func 144) [] [])],[(.fn (.func 145) [] [])],[(.fn (.func 147) [] [])],[(.fn (.func 148) [] [])],[(.fn (.func 149) [] [])]])]),(.agg (bt x.2.1)),(si x.2.2.1),(.au (List.map bQ x.2.2.2))])
 (fun x=>[.map (List.length x.1) (bG dz dA 0 x.1)]) (.one (List (aj×ah))) (fun r=>.ret (.cm []))
 (fun x r=>[.map (List.length r) (bG dz dA 0 r)]) (fun x=>nL x.1 x.2.1 x.2.2.1 x.2.2.2)
 {m:=1,pu:=[0],sK:=[0],JN:=fun x=>[bR 0 x.1],Fo:=fun x r=>[bR 0 r],hl:=fun _=>rfl,ho:=fun _=>(fun _=>rfl),hp:=fun _=>⟨rfl,trivial⟩,BZ:=fun _=>rfl,hq:=fun _=>(fun _=>⟨rfl,trivial⟩),JO:=fun _=>(fun _=>rfl),hf:=(fun _=>rfl)} (fun x=>by kernel_rfl)
def fB(x1:(List (aj×ah))):G prog (Sh.El (.one (Nat×List aj))):=
 .skip 2 <| .inl [gA 1 x1] <| .skip 2 <| .inl [gA 1 x1] <| .skip 3 <| .inl [gA 1 x1] <| .skip 2 <| .loop (.one (List Nat × List aj)) [.keep [0, 5], .cut [5] [] [bR 1 x1], .own (.b 2 0) 2] (fun (a : (List Nat × List aj)) => ⟨(ap [(.gL 4)] (ap (jl 4) (ap [(.ptr 5 0 0 0)] (jl 8)))), [(.row 0 1 [[(.mp 1)]]), (.map (List.length x1) (bG dz dA 0 x1)), .row 0 1 [[.sl 6 0 2 0 a.2.length]], .dead, (.loop Go.LoopState.ready (Option.none) (0 : Go.FuncId) [sn, (.fn (.func 156) [] [(.ptr 0 0 0 0)]), (.ptr 2 0 0 0), (.sc (.tuple (List.toArray []))), sn, (.sc (.tuple (List.toArray []))), (.fn (.func 156) [] [(.ptr 0 0 0 0)]), (.sc (.tuple (List.toArray []))), (.sc (.tuple (List.toArray []))), (.sc (.tuple (List.toArray []))), (.sc (.tuple (List.toArray []))), (.sc (.tuple (List.toArray []))), (.sc (.tuple (List.toArray [])))] [(7 : Nat)] (Go.Code.region (2 : Nat) (List.toArray [(Go.Oper.mk (Option.some (5 : Nat)) (Go.Op.alloc (185 : Nat)) (0 : Nat) "iter.go:51" (List.toArray []) (Option.none)), (Go.Oper.mk (Option.none) (Go.Op.store (185 : Nat) (Go.Operand.tmp (5 : Nat)) (Go.Operand.tmp (7 : Nat))) (0 : Nat) "iter.go:51" (List.toArray [(Go.Edge.mk (0 : Nat) Go.Ground.data), (Go.Edge.mk (0 : Nat) Go.Ground.phase)]) (Option.none))]) false) (Go.Code.block (1 : Nat) (Go.Code.region (3 : Nat) (List.toArray [(Go.Oper.mk (Option.some (8 : Nat)) (Go.Op.load (182 : Nat) (Go.Operand.tmp (2 : Nat))) (182 : Nat) "iter.go:52" (List.toArray []) (Option.none)), (Go.Oper.mk (Option.some (9 : Nat)) (Go.Op.load (185 : Nat) (Go.Operand.tmp (5 : Nat))) (185 : Nat) "iter.go:52" (List.toArray []) (Option.none)), (Go.Oper.mk (Option.some (10 : Nat)) (Go.Op.buildSlice (182 : Nat) (1 : Nat) (List.toArray [((0 : Nat), (Go.Operand.tmp (9 : Nat)))])) (182 : Nat) "iter.go:52" (List.toArray [(Go.Edge.mk (1 : Nat) Go.Ground.data)]) (Option.none)), (Go.Oper.mk (Option.some (11 : Nat)) (Go.Op.call (Go.Call.mk (Go.Callee.builtin Go.Builtin.append) (List.toArray [(Go.Operand.tmp (8 : Nat)), (Go.Operand.tmp (10 : Nat))]) (List.toArray [(182 : Nat), (182 : Nat)]))) (182 : Nat) "iter.go:52" (List.toArray [(Go.Edge.mk (0 : Nat) Go.Ground.data), (Go.Edge.mk (2 : Nat) Go.Ground.data)]) (Option.none)), (Go.Oper.mk (Option.none) (Go.Op.store (182 : Nat) (Go.Operand.tmp (2 : Nat)) (Go.Operand.tmp (11 : Nat))) (0 : Nat) "iter.go:52" (List.toArray [(Go.Edge.mk (3 : Nat) Go.Ground.data), (Go.Edge.mk (3 : Nat) Go.Ground.chain), (Go.Edge.mk (0 : Nat) Go.Ground.phase), (Go.Edge.mk (1 : Nat) Go.Ground.phase), (Go.Edge.mk (2 : Nat) Go.Ground.phase), (Go.Edge.mk (3 : Nat) Go.Ground.phase)]) (Option.none))]) false))), .iter ((.mp 1)) ((List.length x1)) a.1 ((List.length x1)), .row 0 2 (a.2.map ck)], []⟩)
  (fun (t : (List Nat × List aj)) => (.exit 0, ⟨(jl 14), [(.row 0 1 [[(.mp 1)]]), (.map (List.length x1) (bG dz dA 0 x1)), .row 0 1 [[.sl 6 0 2 0 t.2.length]], .dead, (.loop Go.LoopState.ready (Option.none) (0 : Go.FuncId) [sn, (.fn (.func 156) [] [(.ptr 0 0 0 0)]), (.ptr 2 0 0 0), (.sc (.tuple (List.toArray []))), sn, (.sc (.tuple (List.toArray []))), (.fn (.func 156) [] [(.ptr 0 0 0 0)]), (.sc (.tuple (List.toArray []))), (.sc (.tuple (List.toArray []))), (.sc (.tuple (List.toArray []))), (.sc (.tuple (List.toArray []))), (.sc (.tuple (List.toArray []))), (.sc (.tuple (List.toArray [])))] [(7 : Nat)] (Go.Code.region (2 : Nat) (List.toArray [(Go.Oper.mk (Option.some (5 : Nat)) (Go.Op.alloc (185 : Nat)) (0 : Nat) "iter.go:51" (List.toArray []) (Option.none)), (Go.Oper.mk (Option.none) (Go.Op.store (185 : Nat) (Go.Operand.tmp (5 : Nat)) (Go.Operand.tmp (7 : Nat))) (0 : Nat) "iter.go:51" (List.toArray [(Go.Edge.mk (0 : Nat) Go.Ground.data), (Go.Edge.mk (0 : Nat) Go.Ground.phase)]) (Option.none))]) false) (Go.Code.block (1 : Nat) (Go.Code.region (3 : Nat) (List.toArray [(Go.Oper.mk (Option.some (8 : Nat)) (Go.Op.load (182 : Nat) (Go.Operand.tmp (2 : Nat))) (182 : Nat) "iter.go:52" (List.toArray []) (Option.none)), (Go.Oper.mk (Option.some (9 : Nat)) (Go.Op.load (185 : Nat) (Go.Operand.tmp (5 : Nat))) (185 : Nat) "iter.go:52" (List.toArray []) (Option.none)), (Go.Oper.mk (Option.some (10 : Nat)) (Go.Op.buildSlice (182 : Nat) (1 : Nat) (List.toArray [((0 : Nat), (Go.Operand.tmp (9 : Nat)))])) (182 : Nat) "iter.go:52" (List.toArray [(Go.Edge.mk (1 : Nat) Go.Ground.data)]) (Option.none)), (Go.Oper.mk (Option.some (11 : Nat)) (Go.Op.call (Go.Call.mk (Go.Callee.builtin Go.Builtin.append) (List.toArray [(Go.Operand.tmp (8 : Nat)), (Go.Operand.tmp (10 : Nat))]) (List.toArray [(182 : Nat), (182 : Nat)]))) (182 : Nat) "iter.go:52" (List.toArray [(Go.Edge.mk (0 : Nat) Go.Ground.data), (Go.Edge.mk (2 : Nat) Go.Ground.data)]) (Option.none)), (Go.Oper.mk (Option.none) (Go.Op.store (182 : Nat) (Go.Operand.tmp (2 : Nat)) (Go.Operand.tmp (11 : Nat))) (0 : Nat) "iter.go:52" (List.toArray [(Go.Edge.mk (3 : Nat) Go.Ground.data), (Go.Edge.mk (3 : Nat) Go.Ground.chain), (Go.Edge.mk (0 : Nat) Go.Ground.phase), (Go.Edge.mk (1 : Nat) Go.Ground.phase), (Go.Edge.mk (2 : Nat) Go.Ground.phase), (Go.Edge.mk (3 : Nat) Go.Ground.phase)]) (Option.none))]) false))), .iter ((.mp 1)) ((List.length x1)) t.1 ((List.length x1)), .row 0 2 (t.2.map ck)], []⟩)) ([], [])
  (fun(a12:(List Nat×List aj))=>.pick (N4 5 1 x1 dz dA) a12.1 (pk (.skip 2<|.done [.keep [],.cut [5,6] [] [bR 1 x1,mF 6 0 2 a12.2]] (.inr (a12.1,a12.2))) fun i14=>.skip 2<|.op (NQ x1 dz dA 5 1 a12.1 i14) fun e15=>.skip 5<|.inl [gA 1 x1,K7 6 0 2 a12.2]<|.skip 5<|.op (rV (List.length a12.2) a12.2 [e15.1] ck 2 16 6 0 10 [9]) fun _=>.skip 1<|.tidy [.keep [],.cut [] [] [bR 1 x1,mF 6 1 2 (a12.2++[e15.1])]]<|.skip 2<|.done [.keep [0,5],.cut [5,6] [] [bR 1 x1,mF 6 1 2 (a12.2++[e15.1])]] (.inl ((a12.1++[i14]),(a12.2++[e15.1])))))
  (fun(t17:(List Nat×List aj))=>.tidy [.keep [],.cut [6] [] [bR 1 x1,mF 6 0 2 t17.2]]<|.inl [gA 1 x1]<|.skip 2<|.tidy []<|.inl [gA 1 x1]<|.skip 1<|.tidy [.keep [2],.cut [5] [] [bR 1 x1,mF 5 0 2 t17.2]]<|.inl [gA 1 x1]<|.skip 3<|.aA mG 2 0 [] t17.2 fun(r18:(List aj))=>.skip 2<|.tidy [.keep [4],.cut [2] [] [bR 1 x1,mF 2 0 2 r18]]<|.inl [gA 1 x1]<|.done [] ((List.length t17.2),r18))
def rz:vZ prog:=vZ.of nj 94 ((List (aj×ah))) (fun x=>[(.fn (.func 156) [] [(.ptr 0 0 0 0)]),(.fn (.func 96) [] [])])
 (fun x=>[.row 0 1 [[(.mp 1)]],.map (List.length x) (bG dz dA 0 x)]) (.one (Nat×List aj)) (fun r=>.ret (.sl 2 0 2 0 r.1))
 (fun x r=>[.row 0 1 [[(.mp 1)]],.map (List.length x) (bG dz dA 0 x),.row 0 2 (List.map ck r.2)]) (fun x=>fB x)
 {m:=2,pu:=[1],sK:=[1,2],JN:=fun x=>[bR 1 x],Fo:=fun x r=>[bR 1 x,mF 2 0 2 r.2],hl:=fun _=>rfl,ho:=fun _=>(fun _=>rfl),hp:=fun _=>⟨rfl,trivial⟩,BZ:=fun _=>rfl,hq:=fun _=>(fun _=>⟨rfl,rfl,trivial⟩),JO:=fun _=>(fun _=>rfl),hf:=(fun _=>rfl)} (fun x=>by kernel_rfl)
end
end Go.L
end
