/- Parts put together. No conditions. -/
import Derived.Test.YtiohninblcifpaaGreatDoorWt
import Derived.Test.YtiohninblcifpaaGreatDoorWb
import Derived.Test.YtiohninblcifpaaGreatDoorAe
import Derived.Test.YtiohninblcifpaaGreatDoorAd
set_option linter.unusedSimpArgs false
set_option linter.unusedVariables false
set_option maxRecDepth 100000
section
namespace Go.Proofs
open Go.Shelf
def Tryz.EC:Shelf.Ren where
 f:=fun x=>match x with
  | 6=>155
  | 15=>120
  | 14=>214
  | 28=>188
  | 29=>189
  | 20=>260
  | 21=>261
  | 22=>262
  | 23=>263
  | 24=>264
  | 25=>265
  | 26=>266
  | 27=>267
  | 46=>289
  | 47=>247
  | 48=>248
  | 49=>290
  | 50=>291
  | 57=>299
  |n=>n
 t:=fun x=>match x with
  | 22=>182
  | 24=>185
  | 25=>190
  | 3=>3
  | 39=>139
  | 0=>0
  | 53=>43
  | 55=>40
  | 4=>4
  | 46=>273
  | 45=>272
  | 50=>197
  | 5=>5
  | 9=>9
  | 66=>327
  | 70=>331
  | 76=>358
  | 77=>359
  |n=>n
 g:=fun n=>n
theorem Tryz.Qn:SlLaysF0.n6 Tryz.prog Tryz.EC where
 mixed:=by kernel_rfl
 f6 := ⟨"slices.SortFunc[[]leafmesh/neigh.place,leafmesh/neigh.place]", of_decide_eq_true (by kernel_rfl), Eq.trans Tryz.func155 (by kernel_rfl)⟩
 f14 := ⟨"slices.pdqsortCmpFunc[leafmesh/neigh.place]", of_decide_eq_true (by kernel_rfl), Eq.trans Tryz.func214 (by kernel_rfl)⟩
 f15:=Eq.trans Tryz.func120 (by kernel_rfl)
 f20 := ⟨"slices.insertionSortCmpFunc[leafmesh/neigh.place]", of_decide_eq_true (by kernel_rfl), Eq.trans Tryz.func260 (by kernel_rfl)⟩
 f21 := ⟨"slices.heapSortCmpFunc[leafmesh/neigh.place]", of_decide_eq_true (by kernel_rfl), Eq.trans Tryz.func261 (by kernel_rfl)⟩
 f22 := ⟨"slices.breakPatternsCmpFunc[leafmesh/neigh.place]", of_decide_eq_true (by kernel_rfl), Eq.trans Tryz.func262 (by kernel_rfl)⟩
 f23 := ⟨"slices.choosePivotCmpFunc[leafmesh/neigh.place]", of_decide_eq_true (by kernel_rfl), Eq.trans Tryz.func263 (by kernel_rfl)⟩
 f24 := ⟨"slices.reverseRangeCmpFunc[leafmesh/neigh.place]", of_decide_eq_true (by kernel_rfl), Eq.trans Tryz.func264 (by kernel_rfl)⟩
 f25 := ⟨"slices.partialInsertionSortCmpFunc[leafmesh/neigh.place]", of_decide_eq_true (by kernel_rfl), Eq.trans Tryz.func265 (by kernel_rfl)⟩
 f26 := ⟨"slices.partitionEqualCmpFunc[leafmesh/neigh.place]", of_decide_eq_true (by kernel_rfl), Eq.trans Tryz.func266 (by kernel_rfl)⟩
 f27 := ⟨"slices.partitionCmpFunc[leafmesh/neigh.place]", of_decide_eq_true (by kernel_rfl), Eq.trans Tryz.func267 (by kernel_rfl)⟩
 f28:=Eq.trans Tryz.func188 (by kernel_rfl)
 f29:=Eq.trans Tryz.func189 (by kernel_rfl)
 f46 := ⟨"slices.siftDownCmpFunc[leafmesh/neigh.place]", of_decide_eq_true (by kernel_rfl), Eq.trans Tryz.func289 (by kernel_rfl)⟩
 f47:=Eq.trans Tryz.func247 (by kernel_rfl)
 f48:=Eq.trans Tryz.func248 (by kernel_rfl)
 f49 := ⟨"slices.medianAdjacentCmpFunc[leafmesh/neigh.place]", of_decide_eq_true (by kernel_rfl), Eq.trans Tryz.func290 (by kernel_rfl)⟩
 f50 := ⟨"slices.medianCmpFunc[leafmesh/neigh.place]", of_decide_eq_true (by kernel_rfl), Eq.trans Tryz.func291 (by kernel_rfl)⟩
 f57 := ⟨"slices.order2CmpFunc[leafmesh/neigh.place]", of_decide_eq_true (by kernel_rfl), Eq.trans Tryz.func299 (by kernel_rfl)⟩
 t0:=Tryz.underlying0
 a0:=Tryz.isAgg0
 z0:=Tryz.sizeOf0
 v0:=Tryz.zeroValue0
 t3:=Tryz.underlying3
 a3:=Tryz.isAgg3
 z3:=Tryz.sizeOf3
 v3:=Tryz.zeroValue3
 t4:=Tryz.underlying4
 a4:=Tryz.isAgg4
 z4:=Tryz.sizeOf4
 v4:=Tryz.zeroValue4
 t5:=Tryz.underlying5
 a5:=Tryz.isAgg5
 z5:=Tryz.sizeOf5
 v5:=Tryz.zeroValue5
 t9:=Tryz.underlying9
 a9:=Tryz.isAgg9
 z9:=Tryz.sizeOf9
 v9:=Tryz.zeroValue9
 t22:=Tryz.underlying182
 a22:=Tryz.isAgg182
 z22:=Tryz.sizeOf182
 v22:=Tryz.zeroValue182
 t25:=Tryz.underlying190
 a25:=Tryz.isAgg190
 z25:=Tryz.sizeOf190
 v25:=Tryz.zeroValue190
 t39:=Tryz.underlying139
 a39:=Tryz.isAgg139
 z39:=Tryz.sizeOf139
 v39:=Tryz.zeroValue139
 t45:=Tryz.underlying272
 a45:=Tryz.isAgg272
 z45:=Tryz.sizeOf272
 v45:=Tryz.zeroValue272
 t46:=Tryz.underlying273
 a46:=Tryz.isAgg273
 z46:=Tryz.sizeOf273
 v46:=Tryz.zeroValue273
 t50:=Tryz.underlying197
 a50:=Tryz.isAgg197
 z50:=Tryz.sizeOf197
 v50:=Tryz.zeroValue197
 t53:=Tryz.underlying43
 a53:=Tryz.isAgg43
 z53:=Tryz.sizeOf43
 v53:=Tryz.zeroValue43
 t55:=Tryz.underlying40
 a55:=Tryz.isAgg40
 z55:=Tryz.sizeOf40
 v55:=Tryz.zeroValue40
 t66:=Tryz.underlying327
 a66:=Tryz.isAgg327
 z66:=Tryz.sizeOf327
 v66:=Tryz.zeroValue327
 t70:=Tryz.underlying331
 a70:=Tryz.isAgg331
 z70:=Tryz.sizeOf331
 v70:=Tryz.zeroValue331
 t76:=Tryz.underlying358
 a76:=Tryz.isAgg358
 z76:=Tryz.sizeOf358
 v76:=Tryz.zeroValue358
 t77:=Tryz.underlying359
 a77:=Tryz.isAgg359
 z77:=Tryz.sizeOf359
 v77:=Tryz.zeroValue359
end Go.Proofs
namespace Go.L
open Go.AM Go.Proofs Go.Sort
noncomputable def tL(x1:aq)(x2:aq):G prog (Sh.El (.one Int)):=
 .skip 7<|.call jc (x1.bd,x2.bd) fun(r3:Int)=>.skip 4<|.call jH (x1.ip,x2.ip) fun(r4:Int)=>.skip 1<|.call tK [r3,r4] fun(r5:Int)=>.skip 1<|.done [] r5
noncomputable def yA:aA prog:=aA.of eZ 10 96 (aq×aq) (fun x=>[.agg (cq x.1),.agg (cq x.2)]) (.one Int) (fun r=>.ret (si r)) (fun x=>tL x.1 x.2) (fun x=>by kernel_rfl)
def eT(a b:Int):Int:=if a<b then -1 else if a>b then 1 else 0
theorem It(n:Nat)(a b:Int):jc.S n (a,b)=some (eT a b):=by
 have e:∀(x:Int) {β:Type} (k:l6.sh.El→Option β),(l6.S n x).bind k=k false:=fun x β k=>by
  have:l6.S n x=some (x != x):=rfl;rw[this];simp only[bne_self_eq_false];rfl
 show(qG a b).run n=_;simp only[qG,G.run,aK,if_true,e,eT,decide_eq_true_eq];simp only[Bool.false_eq_true,if_false];split
 ·rfl
 ·split<;>rfl
theorem J7(n:Nat)(a b:Int):jH.S n (a,b)=some (eT a b):=by
 have e:∀(x:Int) {β:Type} (k:nr.sh.El→Option β),(nr.S n x).bind k=k false:=fun x β k=>by
  have:nr.S n x=some (x != x):=rfl;rw[this];simp only[bne_self_eq_false];rfl
 show(rR a b).run n=_;simp only[rR,G.run,aK,if_true,e,eT,decide_eq_true_eq];simp only[Bool.false_eq_true,if_false];split
 ·rfl
 ·split<;>rfl
theorem Q1(n:Nat)(p q:Int)(hn:3≤n):tK.S n [p,q]=some (if p=0 then q else p):=by
 obtain⟨m,rfl⟩:∃m,n=m+3:=⟨n - 3,by omega⟩
 show(tJ [p,q]).run (m+3)=_;by_cases hp:p=0
 ·subst hp;by_cases hq:q=0
  ·subst hq;rfl
  ·have hq2:(q != 0)=true:=by simpa using hq
   simp only[tJ,G.run,aK,if_true,bK,bP,bI];simp[ez,hq,show IntKind.wrap .i64 1=1 from rfl];rfl
 ·simp only[tJ,G.run,aK,if_true,bK,bP,bI];simp[ez,hp];rfl
def rS(x y:aq):Int:=if eT x.bd y.bd=0 then eT x.ip y.ip else eT x.bd y.bd
theorem N9(x y:aq):yA.S 3 (x,y)=some (rS x y):=by
 have e1:∀{β:Type} (k:jc.sh.El→Option β),(jc.S 3 (x.bd,y.bd)).bind k=k (eT x.bd y.bd):=fun k=>by rw[It];rfl
 have e2:∀{β:Type} (k:jH.sh.El→Option β),(jH.S 3 (x.ip,y.ip)).bind k=k (eT x.ip y.ip):=fun k=>by rw[J7];rfl
 have e3:∀{β:Type} (k:tK.sh.El→Option β),(tK.S 3 [eT x.bd y.bd,eT x.ip y.ip]).bind k=k (rS x y):=fun k=>by rw[Q1 3 _ _ (Nat.le_refl _)];rfl
 show(tL x y).run 3=_;simp only[tL,G.run,aK,if_true,e1,e2,e3];rfl
def Hh(x:aq):List Value:=[.int .i64 x.bd,.int .u32 x.ip]
instance inhPl:Inhabited aq:=⟨⟨0,0⟩⟩
theorem DD(a b:Int):eT a b<0↔a<b:=by
 unfold eT;split
 ·omega
 ·split<;>omega
theorem Gm(a b:Int):eT a b=0↔a=b:=by
 unfold eT;split
 ·omega
 ·split<;>omega
def fe(x y:aq):Prop:=x.bd<y.bd∨x.bd=y.bd∧x.ip<y.ip
theorem AG(x y:aq):ltOf rS x y=true↔fe x y:=by
 have h1:=DD x.bd y.bd;have h2:=Gm x.bd y.bd;have h3:=DD x.ip y.ip;have h4:rS x y<0↔fe x y:=by
  unfold rS fe;split<;>omega
 simp only[ltOf,decide_eq_true_eq];exact h4
theorem Iu:SWO (ltOf rS) where
 irrefl:=fun x=>by
  have:=mt (AG x x).1 (by unfold fe;omega)
  simpa using this
 trans:=fun x y z h1 h2=>by
  rw[AG]at*;unfold fe at*;omega
 ntrans:=fun x y z h1 h2=>by
  have e:∀a b,ltOf rS a b=false↔¬fe a b:=fun a b=>by rw[← Bool.not_eq_true,AG]
  rw[e]at*;unfold fe at*;omega
theorem Lg(x y:aq):kP prog 96 [.agg (kR Hh x),.agg (kR Hh y)] (.ret (si (rS x y))):=
 yA.ok 3 (x,y) (rS x y) (N9 x y)
noncomputable def eG(l:List aq):List aq:=(pdq (ltOf rS) l.toArray 0 l.length (Lib.bitLen l.length) true true).toList
theorem Lh(l:List aq)(hsz:l.length<4611686018427387904):
 bF prog 155 [.sl 0 0 2 0 l.length,.fn (.func 96) [] []] [.row 0 2 (l.map cq)] (.ret nothing) [.row 0 2 ((eG l).map cq)]:=
 Il (P:=prog) (ρ:=Tryz.EC) Tryz.Qn (gf:=96) (enc:=Hh) (k:=2) (fun _=>rfl) (by omega) (fun x v hv=>by
  simp only[Hh,List.mem_cons,List.not_mem_nil,or_false]at hv;rcases hv with h |h<;>subst h<;>rfl) (cf:=rS) Iu Tryz.isAgg185 Tryz.sizeOf185 (fun args w=>by
  simp[callFunc,Tryz.func96];rfl) ⟨Tryz.f155,_,Tryz.func155,rfl,by decide⟩ Lg l hsz
theorem Li{f:FuncId}{a:List AVal}{H H1:List aa}(h:bF prog f a H (.ret nothing) H1):bF prog f a H (.ret (.bW [])) H1:=
 ⟨h.1,fun g w vs hi hl=>(h.2 g w vs hi hl).mono fun e w' ⟨g',h1,h2,x,h3,h4⟩=>⟨g',h1,h2,x,h3,by
  simp only[nothing,R]at h4;subst h4;simp[R,RL]⟩⟩
noncomputable def FC(x:List aq):Option (List aq):=if x.length<4611686018427387904 then some (eG x)else none
theorem Lj(x:List aq)(r:List aq)(h:FC x=some r):bF prog 155 [.sl 0 0 2 0 x.length,.fn (.func 96) [] []] [.row 0 2 (x.map cq)] (.ret (.bW [])) [.row 0 2 (r.map cq)]:=by
 unfold FC at h;split at h
 ·rename_i hc;cases h;exact Li (Lh x hc)
 ·cases h
theorem J8(l:List aq):(l.map cq).all AVal.aQ=true:=by simp[cq,AVal.aQ,AVal.pure]
noncomputable def mJ:dm prog:={f:=155,X:=List aq,args:=fun x=>[.sl 0 0 2 0 (List.length x),.fn (.func 96) [] []],blk:=fun x=>.row 0 2 (x.map cq),sh:=.one (List aq),out:=fun(_:List aq)=>.ret (.bW []),rN:=fun _ (r:List aq)=>.row 0 2 (r.map cq),S:=fun _ x=>FC x,a0:=fun _=>rfl,b0:=fun x=>J8 x,b1:=fun _ (r:List aq)=>.inl (J8 r),r0:=fun _=>rfl,ok:=fun _ x r h=>Lj x r h}
theorem k6(l:List (aq)):(eG l).Perm l∧(eG l).Pairwise (fun a b=>¬fe b a):=by
 have hp:=pdq_sorts (ltOf rS) Iu l.toArray 0 l.length (Lib.bitLen l.length) true true (Nat.zero_le _) (by simp) (Or.inl rfl)
 obtain⟨⟨h1,_,h3⟩,h4⟩:=hp;have hsz:(eG l).length=l.length:=by unfold eG;simpa using h1
 constructor
 ·unfold eG;generalize pdq (ltOf rS) l.toArray 0 l.length (Lib.bitLen l.length) true true=d at h1 h3;have e1:d.extract 0 l.length=d:=by
   have:l.length=d.size:=by rw[h1];simp
   rw[this];simp
  have e2:l.toArray.extract 0 l.length=l.toArray:=by
   have:l.length=l.toArray.size:=by simp
   rw[this];simp
  rw[e1,e2]at h3;simpa using h3
 ·rw[List.pairwise_iff_getElem];intro i j hi hj hij;have:=h4 i j (Nat.zero_le _) hij (by omega)
  have e:∀(k:Nat) (hk:k<(eG l).length),(eG l)[k]=(pdq (ltOf rS) l.toArray 0 l.length (Lib.bitLen l.length) true true)[k]! :=fun k hk=>by
   have hk':k<(pdq (ltOf rS) l.toArray 0 l.length (Lib.bitLen l.length) true true).size:=by rw[h1];simp;omega
   rw[getElem!_pos _ k hk'];rfl
  rw[e i hi,e j hj,← AG,this];simp
end Go.L
end
section
namespace Go.L
noncomputable section
open Go.AM
def nu:dZ:={val:=fun f=> ![45,46,47,48,49,50,51,137,206,207,208,55,56,57,58,114,116,117,178,59,119,180,181,182,183,184,185,186,187,246,247,248,249,250,92,93,94,95,156,154,213,155,214,260,261,262,263,264,265,266,267,176,243,277,278,279,280,281,282,284,285,296,297,298,175,212,211,244,177,40].contains f,kill:=fun _ _=>[]}
def dL(v:aq):AVal:=.agg (cq v)
def dM(v:ak):AVal:=.agg (cT v)
def pM(v:Int):AVal:=su v
def pN(v:Int):AVal:=si v
def eU(a b:aq):Bool:=((a.bd==b.bd)&&((a.ip==b.ip)&&true))
def kM(a b:Int):Bool:=((a==b)&&true)
def bS(b:Nat)(m:List (aq×ak)):PU:=CC b m dL dM (fun _=>rfl) fun _=>rfl
def gO(b:Nat)(m:List (aq×ak)):PR:=K5 b m dL dM (fun _=>rfl) fun _=>rfl
def nR(b:Nat)(m:List (Int×Int)):PU:=CC b m pM pN (fun _=>rfl) fun _=>rfl
def mH(b aj sz:Nat)(l:List aq):PU:=aP b aj sz l cq fun _=>rfl
def Oa(b aj sz:Nat)(l:List aq):PR:=fZ b aj sz l cq fun _=>rfl
def Ob(b aj sz:Nat)(l:List Known):PU:=aP b aj sz l gd fun _=>rfl
def Bb:G prog (Sh.El (.one Unit)):=
 .skip 3<|.done [] ()
def Bc:aA prog:=aA.of nu 10 90 (Unit) (fun x=>[]) (.one Unit) (fun r=>.ret (.aC [[.fn (.func 142) [] []],[.fn (.func 144) [] []],[.fn (.func 145) [] []],[.fn (.func 147) [] []],[.fn (.func 148) [] []],[.fn (.func 149) [] []]])) (fun x=>Bb) (fun x=>by kernel_rfl)
def GS(x1:Bool)(x2:Bool):G prog (Sh.El (.one Int)):=
 .skip 3<|.br 7 x1 (.skip 4<|.br 5 (!x2) (.skip 2<|.done [] (-(1:Int))) (.skip 3<|.br 13 x2 (.skip 4<|.br 11 (!x1) (.skip 2<|.done [] (1:Int)) (.skip 2<|.done [] (0:Int))) (.skip 6<|.done [] (0:Int)))) (.skip 7<|.br 13 x2 (.skip 4<|.br 11 (!x1) (.skip 2<|.done [] (1:Int)) (.skip 2<|.done [] (0:Int))) (.skip 6<|.done [] (0:Int)))
def om:aA prog:=aA.of nu 10 143 (Bool×Bool) (fun x=>[sb x.1,sb x.2]) (.one Int) (fun r=>.ret (si r)) (fun x=>GS x.1 x.2) (fun x=>by kernel_rfl)
def zO(x1:ak)(x2:ak):G prog (Sh.El (.one Int)):=
 .skip 7<|.call om (x1.cG,x2.cG) fun(r3:Int)=>.skip 1<|.done [] r3
def kn:aA prog:=aA.of nu 10 142 (ak×ak) (fun x=>[.agg (cT x.1),.agg (cT x.2)]) (.one Int) (fun r=>.ret (si r)) (fun x=>zO x.1 x.2) (fun x=>by kernel_rfl)
def zP(x1:ak)(x2:ak):G prog (Sh.El (.one Int)):=
 .skip 7<|.call jc (x2.time,x1.time) fun(r3:Int)=>.skip 1<|.done [] r3
def ko:aA prog:=aA.of nu 10 144 (ak×ak) (fun x=>[.agg (cT x.1),.agg (cT x.2)]) (.one Int) (fun r=>.ret (si r)) (fun x=>zP x.1 x.2) (fun x=>by kernel_rfl)
def nS(x1:Int)(x2:Int):G prog (Sh.El (.one Int)):=
 .skip 2<|.call dK x1 fun(r3:Bool)=>.skip 2<|.call dK x2 fun(r4:Bool)=>.skip 2<|.br 11 r3 (.skip 2<|.br 12 r4 (.skip 2<|.done [] (0:Int)) (.skip 2<|.done [] (-(1:Int)))) (.skip 2<|.br 13 r4 (.skip 2<|.done [] (1:Int)) (.skip 4<|.br 16 (decide (x1<x2)) (.skip 2<|.done [] (-(1:Int))) (.skip 4<|.br 19 (decide (x1>x2)) (.skip 2<|.done [] (1:Int)) (.skip 2<|.done [] (0:Int)))))
def nT:aA prog:=aA.of nu 10 146 (Int×Int) (fun x=>[su x.1,su x.2]) (.one Int) (fun r=>.ret (si r)) (fun x=>nS x.1 x.2) (fun x=>by kernel_rfl)
def zQ(x1:ak)(x2:ak):G prog (Sh.El (.one Int)):=
 .skip 7<|.call nT (x2.seq,x1.seq) fun(r3:Int)=>.skip 1<|.done [] r3
def kq:aA prog:=aA.of nu 10 145 (ak×ak) (fun x=>[.agg (cT x.1),.agg (cT x.2)]) (.one Int) (fun r=>.ret (si r)) (fun x=>zQ x.1 x.2) (fun x=>by kernel_rfl)
def zR(x1:ak)(x2:ak):G prog (Sh.El (.one Int)):=
 .skip 7<|.call om (x1.eC,x2.eC) fun(r3:Int)=>.skip 1<|.done [] r3
def kr:aA prog:=aA.of nu 10 147 (ak×ak) (fun x=>[.agg (cT x.1),.agg (cT x.2)]) (.one Int) (fun r=>.ret (si r)) (fun x=>zR x.1 x.2) (fun x=>by kernel_rfl)
def zS(x1:ak)(x2:ak):G prog (Sh.El (.one Int)):=
 .skip 7<|.call jH (x1.next,x2.next) fun(r3:Int)=>.skip 1<|.done [] r3
def ku:aA prog:=aA.of nu 10 148 (ak×ak) (fun x=>[.agg (cT x.1),.agg (cT x.2)]) (.one Int) (fun r=>.ret (si r)) (fun x=>zS x.1 x.2) (fun x=>by kernel_rfl)
def ED(x1:Int):G prog (Sh.El (.one Bool)):=
 .skip 5<|.done [] (x1 != x1)
def l7:aA prog:=aA.of nu 10 210 (Int) (fun x=>[sq x]) (.one Bool) (fun r=>.ret (sb r)) (fun x=>ED x) (fun x=>by kernel_rfl)
def qH(x1:Int)(x2:Int):G prog (Sh.El (.one Int)):=
 .skip 2<|.call l7 x1 fun(r3:Bool)=>.skip 2<|.call l7 x2 fun(r4:Bool)=>.skip 2<|.br 11 r3 (.skip 2<|.br 12 r4 (.skip 2<|.done [] (0:Int)) (.skip 2<|.done [] (-(1:Int)))) (.skip 2<|.br 13 r4 (.skip 2<|.done [] (1:Int)) (.skip 4<|.br 16 (decide (x1<x2)) (.skip 2<|.done [] (-(1:Int))) (.skip 4<|.br 19 (decide (x1>x2)) (.skip 2<|.done [] (1:Int)) (.skip 2<|.done [] (0:Int)))))
def qI:aA prog:=aA.of nu 10 150 (Int×Int) (fun x=>[sq x.1,sq x.2]) (.one Int) (fun r=>.ret (si r)) (fun x=>qH x.1 x.2) (fun x=>by kernel_rfl)
def zT(x1:ak)(x2:ak):G prog (Sh.El (.one Int)):=
 .skip 7<|.call qI (x1.qx,x2.qx) fun(r3:Int)=>.skip 1<|.done [] r3
def kA:aA prog:=aA.of nu 10 149 (ak×ak) (fun x=>[.agg (cT x.1),.agg (cT x.2)]) (.one Int) (fun r=>.ret (si r)) (fun x=>zT x.1 x.2) (fun x=>by kernel_rfl)
def jI(x1:ak)(x2:ak):G prog (Sh.El (.one Int)):=
 .skip 6<|.fH 300<|.skip 8<|.call kn (x1,x2) fun(r3:Int)=>.skip 3<|.br 21 (r3 != 0) (.skip 3<|.done [] r3) (.skip 11<|.call ko (x1,x2) fun(r5:Int)=>.skip 3<|.br 21 (r5 != 0) (.skip 3<|.done [] r5) (.skip 11<|.call kq (x1,x2) fun(r7:Int)=>.skip 3<|.br 21 (r7 != 0) (.skip 3<|.done [] r7) (.skip 11<|.call kr (x1,x2) fun(r9:Int)=>.skip 3<|.br 21 (r9 != 0) (.skip 3<|.done [] r9) (.skip 11<|.call ku (x1,x2) fun(r11:Int)=>.skip 3<|.br 21 (r11 != 0) (.skip 3<|.done [] r11) (.skip 11<|.call kA (x1,x2) fun(r13:Int)=>.skip 3<|.br 21 (r13 != 0) (.skip 3<|.done [] r13) (.skip 6<|.done [] (0:Int)))))))
def dS:aA prog:=aA.of nu 10 152 (ak×ak) (fun x=>[.agg (cT x.1),.agg (cT x.2),.aC [[.fn (.func 142) [] []],[.fn (.func 144) [] []],[.fn (.func 145) [] []],[.fn (.func 147) [] []],[.fn (.func 148) [] []],[.fn (.func 149) [] []]]]) (.one Int) (fun r=>.ret (si r)) (fun x=>jI x.1 x.2) (fun x=>by kernel_rfl)
def mN(x1:(List (aq×ak)))(x2:Int)(x3:Int)(x4:ak):G prog (Sh.El (.one (List (aq×ak)))):=
 .skip 10<|.op (Eo x1 (aq.mk x2 x3) dL dM eU (ak.mk (0:Int) false (0:Int) (0:Int) false (0:Int)) [(.int .i64),(.int .u32)] true true 0) fun _=>.skip 9<|.br 23 (!(Option.isSome (cm eU (aq.mk x2 x3) x1 (0:Nat)))) (.skip 12<|.op (Ep x1 (aq.mk x2 x3) x4 dL dM eU [(.int .i64),(.int .u32)] true 0) fun _=>.tidy [.keep [],.cut [] [] [CC 0 ((gJ eU (aq.mk x2 x3) x4 x1)) dL dM (fun _=>rfl) fun _=>rfl]]<|.inl [K5 0 ((gJ eU (aq.mk x2 x3) x4 x1)) dL dM (fun _=>rfl) fun _=>rfl]<|.done [] (gJ eU (aq.mk x2 x3) x4 x1)) (.skip 4<|.call dS (x4,(Option.getD (Option.map (fun x=>x.2) (cm eU (aq.mk x2 x3) x1 (0:Nat))) (ak.mk (0:Int) false (0:Int) (0:Int) false (0:Int)))) fun(r6:Int)=>.skip 2<|.br 30 (decide (r6<0)) (.skip 5<|.op (Ep x1 (aq.mk x2 x3) x4 dL dM eU [(.int .i64),(.int .u32)] true 0) fun _=>.tidy [.keep [],.cut [] [] [CC 0 ((gJ eU (aq.mk x2 x3) x4 x1)) dL dM (fun _=>rfl) fun _=>rfl]]<|.inl [K5 0 ((gJ eU (aq.mk x2 x3) x4 x1)) dL dM (fun _=>rfl) fun _=>rfl]<|.done [] (gJ eU (aq.mk x2 x3) x4 x1)) (.skip 1<|.tidy [.keep [],.cut [] [] [bS 0 x1]]<|.inl [gO 0 x1]<|.done [] x1))
def qJ:xk prog:=xk.of nu 92 ((List (aq×ak))×Int×Int×ak) (fun x=>[(.agg [(.mp 0),(.aC [[(.fn (.func 142) [] [])],[(.fn (.func 144) [] [])],[(.fn (.func 145) [] [])],[(.fn (.func 147) [] [])],[(.fn (.func 148) [] [])],[(.fn (.func 149) [] [])]])]),(si x.2.1),(su x.2.2.1),(.agg (cT x.2.2.2))])
 (fun x=>[.map (List.length x.1) (bZ dL dM 0 x.1)]) (.one (List (aq×ak))) (fun r=>.ret (.bW []))
 (fun x r=>[.map (List.length r) (bZ dL dM 0 r)]) (fun x=>mN x.1 x.2.1 x.2.2.1 x.2.2.2)
 {m:=1,pu:=[0],ug:=[0],ME:=fun x=>[bS 0 x.1],Ig:=fun x r=>[bS 0 r],hl:=fun _=>rfl,ho:=fun _=>(fun _=>rfl),hp:=fun _=>⟨rfl,trivial⟩,D9:=fun _=>rfl,hq:=fun _=>(fun _=>⟨rfl,trivial⟩),MF:=fun _=>(fun _=>rfl),hf:=(fun _=>rfl)} (fun x=>by kernel_rfl)
def uN(x1:aD):G prog (Sh.El (.one Bool)):=
 .skip 3<|.call jG x1 fun(r2:(Int×ByteArray×Int))=>.skip 10<|.done [] (r2.1==0)
def zU:aA prog:=aA.of nu 10 170 (aD) (fun x=>[.agg (aL x)]) (.one Bool) (fun r=>.ret (sb r)) (fun x=>uN x) (fun x=>by kernel_rfl)
def tM(x1:Int):G prog (Sh.El (.one (Int×Int))):=
 .skip 5<|.br 6 (decide (x1<0)) (.skip 6<|.done [] ((0:Int),(2:Int))) (.skip 3<|.br 9 (decide (x1≥32)) (.skip 3<|.done [] ((0:Int),(2:Int))) (.skip 7<|.done [] ((IntKind.wrap .u32 ((IntKind.wrap .u32 ((184483840:Int)+(IntKind.wrap .u32 x1)))+1)),(0:Int))))
def EE:aA prog:=aA.of nu 10 241 (Int) (fun x=>[si x]) (.one (Int×Int)) (fun r=>.ret (.bW [su r.1,si r.2])) (fun x=>tM x) (fun x=>by kernel_rfl)
def qK(x1:Int):G prog (Sh.El (.one Int)):=
 .skip 2<|.call EE x1 fun(r2:(Int×Int))=>.skip 7<|.done [] r2.1
def wh:aA prog:=aA.of nu 10 172 (Int) (fun x=>[si x]) (.one Int) (fun r=>.ret (su r)) (fun x=>qK x) (fun x=>by kernel_rfl)
def qL(x1:aD)(x2:Int):G prog (Sh.El (.one Int)):=
 .skip 3<|.call zU x1 fun(r3:Bool)=>.skip 2<|.br 8 (!r3) (.skip 11<|.done [] (0:Int)) (.skip 6<|.call dY (x2,(IntKind.wrap .i64 (x1.Leaves+x1.cZ))) fun(r5:Bool)=>.skip 2<|.br 17 (!r5) (.skip 2<|.done [] (0:Int)) (.skip 2<|.call wh x2 fun(r7:Int)=>.skip 1<|.done [] r7))
def mO:aA prog:=aA.of nu 10 112 (aD×Int) (fun x=>[.agg (aL x.1),si x.2]) (.one Int) (fun r=>.ret (su r)) (fun x=>qL x.1 x.2) (fun x=>by kernel_rfl)
def uO:aa:=(.row 0 2 [[(.mp 0),(.aC [[(.fn (.func 142) [] [])],[(.fn (.func 144) [] [])],[(.fn (.func 145) [] [])],[(.fn (.func 147) [] [])],[(.fn (.func 148) [] [])],[(.fn (.func 149) [] [])]])]])
def J9(x93:bt)(r97:(Bool×Int×Bool)):aa:=(.row 0 6 [[(sq x93.N.bN),(sb false),(si 0),(su r97.2.1),(sb (!((x93.N.cF.a0==0)&&((x93.N.cF.a1==0)&&((x93.N.cF.a2==0)&&((x93.N.cF.a3==0)&&((x93.N.cF.a4==0)&&((x93.N.cF.a5==0)&&((x93.N.cF.a6==0)&&((x93.N.cF.a7==0)&&((x93.N.cF.a8==0)&&((x93.N.cF.a9==0)&&true)))))))))))),(su x93.A.Next)]])
def FD(x3:Int)(x4:(List bt))(r5:Int):List AVal:=[.av,.av,(si x3),(.aC (List.map cc x4)),(.ptr 1 0 0 0),(.ptr 2 0 0 0),.av,.av,(su r5),(.mp 3)]
def nU(x1:(List (aq×ak)))(x2:aD)(x3:Int)(x4:(List bt)):G prog (Sh.El (.one (List (aq×ak)))):=
 .skip 4<|.call mO (x2,x3) fun(r5:Int)=>.skip 5<|.op (bJ x2.au bu) fun _=>.skip 1<|.loop (.one (List (Int×Int))) [.keep [2,3,4,5,8,9,29,30,31],.cut [1,2,3] [] [bS 0 x1]] (fun(a:(Int×List (Int×Int)))=>⟨(ap (FD x3 x4 r5) (ap (jl 19) (ap [(.aC (List.map bu x2.au)),(si (x2.au.length:Int)),si a.1] (jl 93)))),[(.map (List.length x1) (bZ dL dM 0 x1)),uO,.row 0 19 [aL x2],.map a.2.length (bZ pM pN 0 a.2)],[]⟩)
  (fun(t:(List (Int×Int)))=>(.exit 0,⟨(ap [.av,.av,.av,(.aC (List.map cc x4)),(.ptr 1 0 0 0),.av,.av,.av,(su r5),(.mp 3)] (jl 115)),[(.map (List.length x1) (bZ dL dM 0 x1)),uO,.row 0 19 [aL x2],.map t.length (bZ pM pN 0 t)],[]⟩)) ((0:Int),[])
  (fun(a35:(Int×List (Int×Int)))=>.skip 1<|.br 32 (decide (a35.1<(x2.au.length:Int))) (.skip 1<|.op (bG x2.au bu 2 a35.1) fun x36=>.skip 6<|.call de (x36.Leaves,x3) fun(r37:Bool)=>.br 38 r37 (.skip 3<|.op (bJ x36.aI (eI .i64)) fun _=>.skip 1<|.loop (.one (List (Int×Int))) [.keep [2,3,4,5,8,9,29,30,31,40,41,42]] (fun(a:(Int×List (Int×Int)))=>⟨(ap (FD x3 x4 r5) (ap (jl 19) (ap [(.aC (List.map bu x2.au)),(si (x2.au.length:Int)),(si a35.1)] (ap (jl 8) (ap [(.aC (List.map (eI .i64) x36.aI)),(si (x36.aI.length:Int)),si a.1] (jl 82)))))),[(.map (List.length x1) (bZ dL dM 0 x1)),uO,.row 0 19 [aL x2],.map a.2.length (bZ pM pN 0 a.2),.row 0 2 [bu x36]],[]⟩)
  (fun(t:(List (Int×Int)))=>(.exit 2,⟨(ap (FD x3 x4 r5) (ap (jl 19) (ap [(.aC (List.map bu x2.au)),(si (x2.au.length:Int)),(si a35.1)] (jl 93)))),[(.map (List.length x1) (bZ dL dM 0 x1)),uO,.row 0 19 [aL x2],.map t.length (bZ pM pN 0 t),.row 0 2 [bu x36]],[]⟩)) ((0:Int),a35.2)
  (fun(a38:(Int×List (Int×Int)))=>.skip 1<|.br 43 (decide (a38.1<(x36.aI.length:Int))) (.skip 1<|.op (bG x36.aI (eI .i64) 1 a38.1) fun x39=>.skip 6<|.op (bG x2.aI eu 6 x39) fun x40=>.skip 3<|.op (Ep a38.2 x40.Target x39 pM pN kM [(.int .u32)] false 3) fun _=>.skip 2<|.done [.keep [2,3,4,5,8,9,29,30,31,40,41,42]] (.inl ((IntKind.wrap .i64 (a38.1+1)),(gJ kM x40.Target x39 a38.2)))) (.skip 1<|.done [.keep [2,3,4,5,8,9,29,30,31]] (.inr a38.2)))
  (fun(t43:(List (Int×Int)))=>.skip 2<|.done [.keep [2,3,4,5,8,9,29,30,31],.cut [1,2,3] [] [bS 0 x1,nR 3 t43]] (.inl ((IntKind.wrap .i64 (a35.1+1)),t43)))) (.skip 3<|.done [.keep [2,3,4,5,8,9,29,30,31],.cut [1,2,3] [] [bS 0 x1,nR 3 a35.2]] (.inl ((IntKind.wrap .i64 (a35.1+1)),a35.2)))) (.skip 1<|.done [.keep [3,4,8,9],.cut [1,2,3] [] [bS 0 x1,nR 3 a35.2]] (.inr a35.2)))
  (fun(t47:(List (Int×Int)))=>.skip 1<|.op (bJ x4 cc) fun _=>.skip 1<|.loop (.one (List (aq×ak))) [.keep [4,8,9,56,57,58],.cut [1,3] [] [bS 0 x1,nR 3 t47]] (fun(a:(Int×List (aq×ak)))=>⟨(ap (jl 4) (ap [(.ptr 1 0 0 0),.av,.av,.av,(su r5),(.mp 2)] (ap (jl 46) (ap [(.aC (List.map cc x4)),(si (x4.length:Int)),si a.1] (jl 66))))),[.map a.2.length (bZ dL dM 0 a.2),uO,(.map (List.length t47) (bZ pM pN 0 t47))],[]⟩)
  (fun(t:(List (aq×ak)))=>(.exit 4,⟨(jl 125),[.map t.length (bZ dL dM 0 t),(.row 0 2 [[(.mp 0),(.aC [[(.fn (.func 142) [] [])],[(.fn (.func 144) [] [])],[(.fn (.func 145) [] [])],[(.fn (.func 147) [] [])],[(.fn (.func 148) [] [])],[(.fn (.func 149) [] [])]])]]),(.map (List.length t47) (bZ pM pN 0 t47))],[]⟩)) ((0:Int),x1)
  (fun(a92:(Int×List (aq×ak)))=>.skip 1<|.br 59 (decide (a92.1<(x4.length:Int))) (.skip 1<|.op (bG x4 cc 38 a92.1) fun x93=>.skip 8<|.br 66 (x93.N.Kind != 2) (.skip 15<|.done [.keep [4,8,9,56,57,58],.cut [1,2] [] [bS 0 a92.2,nR 2 t47]] (.inl ((IntKind.wrap .i64 (a92.1+1)),a92.2))) (.skip 6<|.br 72 (!x93.N.qm) (.skip 9<|.done [.keep [4,8,9,56,57,58],.cut [1,2] [] [bS 0 a92.2,nR 2 t47]] (.inl ((IntKind.wrap .i64 (a92.1+1)),a92.2))) (.skip 6<|.br 78 (x93.A.Next==r5) (.skip 3<|.done [.keep [4,8,9,56,57,58],.cut [1,2] [] [bS 0 a92.2,nR 2 t47]] (.inl ((IntKind.wrap .i64 (a92.1+1)),a92.2))) (.skip 4<|.call jb x93.A.fh fun(r97:(Bool×Int×Bool))=>.skip 25<|.call qo x93.A.fh fun(r98:(List Int))=>.op (bJ r98 (eI .u32)) fun _=>.skip 1<|.loop (.one (List (aq×ak))) [.keep [4,8,9,15,19,56,57,58,103,104,105]] (fun(a:(Int×List (aq×ak)))=>⟨(ap (jl 4) (ap [(.ptr 1 0 0 0),.av,.av,.av,(su r5),(.mp 2)] (ap (jl 5) (ap [(.ptr 3 0 0 0),.av,.av,.av,(.ptr 4 0 0 0)] (ap (jl 36) (ap [(.aC (List.map cc x4)),(si (x4.length:Int)),(si a92.1)] (ap (jl 44) (ap [(.aC (List.map (eI .u32) r98)),(si (r98.length:Int)),si a.1] (jl 19))))))))),[.map a.2.length (bZ dL dM 0 a.2),uO,(.map (List.length t47) (bZ pM pN 0 t47)),.row 0 38 [cc x93],(J9 x93 r97)],[]⟩)
  (fun(t:(List (aq×ak)))=>(.exit 6,⟨(ap (jl 4) (ap [(.ptr 1 0 0 0),.av,.av,.av,(su r5),(.mp 2)] (ap (jl 46) (ap [(.aC (List.map cc x4)),(si (x4.length:Int)),(si a92.1)] (jl 66))))),[.map t.length (bZ dL dM 0 t),uO,(.map (List.length t47) (bZ pM pN 0 t47)),.row 0 38 [cc x93],(J9 x93 r97)],[]⟩)) ((0:Int),a92.2)
  (fun(a99:(Int×List (aq×ak)))=>.skip 1<|.br 106 (decide (a99.1<(r98.length:Int))) (.skip 1<|.op (bG r98 (eI .u32) 1 a99.1) fun x100=>.skip 4<|.op (Eo t47 x100 pM pN kM (0:Int) [(.int .u32)] false true 2) fun _=>.skip 6<|.br 115 (Option.isSome (cm kM x100 t47 (0:Nat))) (.skip 7<|.inl [gO 0 a99.2]<|.fM (qJ.at [0] 5 rfl) (a99.2,(Option.getD (Option.map (fun x=>x.2) (cm kM x100 t47 (0:Nat))) (0:Int)),x93.N.IP,(ak.mk x93.N.bN false (0:Int) r97.2.1 (!((x93.N.cF.a0==0)&&((x93.N.cF.a1==0)&&((x93.N.cF.a2==0)&&((x93.N.cF.a3==0)&&((x93.N.cF.a4==0)&&((x93.N.cF.a5==0)&&((x93.N.cF.a6==0)&&((x93.N.cF.a7==0)&&((x93.N.cF.a8==0)&&((x93.N.cF.a9==0)&&true))))))))))) x93.A.Next)) fun(r101:(List (aq×ak)))=>.skip 2<|.done [.keep [4,8,9,15,19,56,57,58,103,104,105]] (.inl ((IntKind.wrap .i64 (a99.1+1)),r101))) (.skip 3<|.done [.keep [4,8,9,15,19,56,57,58,103,104,105]] (.inl ((IntKind.wrap .i64 (a99.1+1)),a99.2)))) (.skip 1<|.done [.keep [4,8,9,56,57,58]] (.inr a99.2)))
  (fun(t105:(List (aq×ak)))=>.skip 2<|.done [.keep [4,8,9,56,57,58],.cut [1,2] [] [bS 0 t105,nR 2 t47]] (.inl ((IntKind.wrap .i64 (a92.1+1)),t105))))))) (.skip 1<|.done [.keep [],.cut [1,2] [] [bS 0 a92.2,nR 2 t47]] (.inr a92.2)))
  (fun(t108:(List (aq×ak)))=>.tidy [.keep [],.cut [] [] [bS 0 t108]]<|.inl [gO 0 t108]<|.done [] t108))
def tN:xk prog:=xk.of nu 93 ((List (aq×ak))×aD×Int×(List bt)) (fun x=>[(.agg [(.mp 0),(.aC [[(.fn (.func 142) [] [])],[(.fn (.func 144) [] [])],[(.fn (.func 145) [] [])],[(.fn (.func 147) [] [])],[(.fn (.func 148) [] [])],[(.fn (.func 149) [] [])]])]),(.agg (aL x.2.1)),(si x.2.2.1),(.aC (List.map cc x.2.2.2))])
 (fun x=>[.map (List.length x.1) (bZ dL dM 0 x.1)]) (.one (List (aq×ak))) (fun r=>.ret (.bW []))
 (fun x r=>[.map (List.length r) (bZ dL dM 0 r)]) (fun x=>nU x.1 x.2.1 x.2.2.1 x.2.2.2)
 {m:=1,pu:=[0],ug:=[0],ME:=fun x=>[bS 0 x.1],Ig:=fun x r=>[bS 0 r],hl:=fun _=>rfl,ho:=fun _=>(fun _=>rfl),hp:=fun _=>⟨rfl,trivial⟩,D9:=fun _=>rfl,hq:=fun _=>(fun _=>⟨rfl,trivial⟩),MF:=fun _=>(fun _=>rfl),hf:=(fun _=>rfl)} (fun x=>by kernel_rfl)
def fS(x1:(List (aq×ak))):G prog (Sh.El (.one (Nat×List aq))):=
 .skip 2 <| .inl [gO 1 x1] <| .skip 2 <| .inl [gO 1 x1] <| .skip 3 <| .inl [gO 1 x1] <| .skip 2 <| .loop (.one (List Nat × List aq)) [.keep [0, 5], .cut [5] [] [bS 1 x1], .own (.b 2 0) 2] (fun (a : (List Nat × List aq)) => ⟨(ap [(.gZ 4)] (ap (jl 4) (ap [(.ptr 5 0 0 0)] (jl 8)))), [(.row 0 1 [[(.mp 1)]]), (.map (List.length x1) (bZ dL dM 0 x1)), .row 0 1 [[.sl 6 0 2 0 a.2.length]], .dead, (.loop Go.LoopState.ready (Option.none) (0 : Go.FuncId) [sn, (.fn (.func 156) [] [(.ptr 0 0 0 0)]), (.ptr 2 0 0 0), (.sc (.tuple (List.toArray []))), sn, (.sc (.tuple (List.toArray []))), (.fn (.func 156) [] [(.ptr 0 0 0 0)]), (.sc (.tuple (List.toArray []))), (.sc (.tuple (List.toArray []))), (.sc (.tuple (List.toArray []))), (.sc (.tuple (List.toArray []))), (.sc (.tuple (List.toArray []))), (.sc (.tuple (List.toArray [])))] [(7 : Nat)] (Go.Code.region (2 : Nat) (List.toArray [(Go.Oper.mk (Option.some (5 : Nat)) (Go.Op.alloc (185 : Nat)) (0 : Nat) "iter.go:51" (List.toArray []) (Option.none)), (Go.Oper.mk (Option.none) (Go.Op.store (185 : Nat) (Go.Operand.tmp (5 : Nat)) (Go.Operand.tmp (7 : Nat))) (0 : Nat) "iter.go:51" (List.toArray [(Go.Edge.mk (0 : Nat) Go.Ground.data), (Go.Edge.mk (0 : Nat) Go.Ground.phase)]) (Option.none))]) false) (Go.Code.block (1 : Nat) (Go.Code.region (3 : Nat) (List.toArray [(Go.Oper.mk (Option.some (8 : Nat)) (Go.Op.load (182 : Nat) (Go.Operand.tmp (2 : Nat))) (182 : Nat) "iter.go:52" (List.toArray []) (Option.none)), (Go.Oper.mk (Option.some (9 : Nat)) (Go.Op.load (185 : Nat) (Go.Operand.tmp (5 : Nat))) (185 : Nat) "iter.go:52" (List.toArray []) (Option.none)), (Go.Oper.mk (Option.some (10 : Nat)) (Go.Op.buildSlice (182 : Nat) (1 : Nat) (List.toArray [((0 : Nat), (Go.Operand.tmp (9 : Nat)))])) (182 : Nat) "iter.go:52" (List.toArray [(Go.Edge.mk (1 : Nat) Go.Ground.data)]) (Option.none)), (Go.Oper.mk (Option.some (11 : Nat)) (Go.Op.call (Go.Call.mk (Go.Callee.builtin Go.Builtin.append) (List.toArray [(Go.Operand.tmp (8 : Nat)), (Go.Operand.tmp (10 : Nat))]) (List.toArray [(182 : Nat), (182 : Nat)]))) (182 : Nat) "iter.go:52" (List.toArray [(Go.Edge.mk (0 : Nat) Go.Ground.data), (Go.Edge.mk (2 : Nat) Go.Ground.data)]) (Option.none)), (Go.Oper.mk (Option.none) (Go.Op.store (182 : Nat) (Go.Operand.tmp (2 : Nat)) (Go.Operand.tmp (11 : Nat))) (0 : Nat) "iter.go:52" (List.toArray [(Go.Edge.mk (3 : Nat) Go.Ground.data), (Go.Edge.mk (3 : Nat) Go.Ground.chain), (Go.Edge.mk (0 : Nat) Go.Ground.phase), (Go.Edge.mk (1 : Nat) Go.Ground.phase), (Go.Edge.mk (2 : Nat) Go.Ground.phase), (Go.Edge.mk (3 : Nat) Go.Ground.phase)]) (Option.none))]) false))), .iter ((.mp 1)) ((List.length x1)) a.1 ((List.length x1)), .row 0 2 (a.2.map cq)], []⟩)
  (fun (t : (List Nat × List aq)) => (.exit 0, ⟨(jl 14), [(.row 0 1 [[(.mp 1)]]), (.map (List.length x1) (bZ dL dM 0 x1)), .row 0 1 [[.sl 6 0 2 0 t.2.length]], .dead, (.loop Go.LoopState.ready (Option.none) (0 : Go.FuncId) [sn, (.fn (.func 156) [] [(.ptr 0 0 0 0)]), (.ptr 2 0 0 0), (.sc (.tuple (List.toArray []))), sn, (.sc (.tuple (List.toArray []))), (.fn (.func 156) [] [(.ptr 0 0 0 0)]), (.sc (.tuple (List.toArray []))), (.sc (.tuple (List.toArray []))), (.sc (.tuple (List.toArray []))), (.sc (.tuple (List.toArray []))), (.sc (.tuple (List.toArray []))), (.sc (.tuple (List.toArray [])))] [(7 : Nat)] (Go.Code.region (2 : Nat) (List.toArray [(Go.Oper.mk (Option.some (5 : Nat)) (Go.Op.alloc (185 : Nat)) (0 : Nat) "iter.go:51" (List.toArray []) (Option.none)), (Go.Oper.mk (Option.none) (Go.Op.store (185 : Nat) (Go.Operand.tmp (5 : Nat)) (Go.Operand.tmp (7 : Nat))) (0 : Nat) "iter.go:51" (List.toArray [(Go.Edge.mk (0 : Nat) Go.Ground.data), (Go.Edge.mk (0 : Nat) Go.Ground.phase)]) (Option.none))]) false) (Go.Code.block (1 : Nat) (Go.Code.region (3 : Nat) (List.toArray [(Go.Oper.mk (Option.some (8 : Nat)) (Go.Op.load (182 : Nat) (Go.Operand.tmp (2 : Nat))) (182 : Nat) "iter.go:52" (List.toArray []) (Option.none)), (Go.Oper.mk (Option.some (9 : Nat)) (Go.Op.load (185 : Nat) (Go.Operand.tmp (5 : Nat))) (185 : Nat) "iter.go:52" (List.toArray []) (Option.none)), (Go.Oper.mk (Option.some (10 : Nat)) (Go.Op.buildSlice (182 : Nat) (1 : Nat) (List.toArray [((0 : Nat), (Go.Operand.tmp (9 : Nat)))])) (182 : Nat) "iter.go:52" (List.toArray [(Go.Edge.mk (1 : Nat) Go.Ground.data)]) (Option.none)), (Go.Oper.mk (Option.some (11 : Nat)) (Go.Op.call (Go.Call.mk (Go.Callee.builtin Go.Builtin.append) (List.toArray [(Go.Operand.tmp (8 : Nat)), (Go.Operand.tmp (10 : Nat))]) (List.toArray [(182 : Nat), (182 : Nat)]))) (182 : Nat) "iter.go:52" (List.toArray [(Go.Edge.mk (0 : Nat) Go.Ground.data), (Go.Edge.mk (2 : Nat) Go.Ground.data)]) (Option.none)), (Go.Oper.mk (Option.none) (Go.Op.store (182 : Nat) (Go.Operand.tmp (2 : Nat)) (Go.Operand.tmp (11 : Nat))) (0 : Nat) "iter.go:52" (List.toArray [(Go.Edge.mk (3 : Nat) Go.Ground.data), (Go.Edge.mk (3 : Nat) Go.Ground.chain), (Go.Edge.mk (0 : Nat) Go.Ground.phase), (Go.Edge.mk (1 : Nat) Go.Ground.phase), (Go.Edge.mk (2 : Nat) Go.Ground.phase), (Go.Edge.mk (3 : Nat) Go.Ground.phase)]) (Option.none))]) false))), .iter ((.mp 1)) ((List.length x1)) t.1 ((List.length x1)), .row 0 2 (t.2.map cq)], []⟩)) ([], [])
  (fun(a12:(List Nat×List aq))=>.pick (RG 5 1 x1 dL dM) a12.1 (pk (.skip 2<|.done [.keep [],.cut [5,6] [] [bS 1 x1,mH 6 0 2 a12.2]] (.inr (a12.1,a12.2))) fun i14=>.skip 2<|.op (Rr x1 dL dM 5 1 a12.1 i14) fun e15=>.skip 5<|.inl [gO 1 x1,Oa 6 0 2 a12.2]<|.skip 5<|.op (oO (List.length a12.2) a12.2 [e15.1] cq 2 16 6 0 10 [9]) fun _=>.skip 1<|.tidy [.keep [],.cut [] [] [bS 1 x1,mH 6 1 2 (a12.2++[e15.1])]]<|.skip 2<|.done [.keep [0,5],.cut [5,6] [] [bS 1 x1,mH 6 1 2 (a12.2++[e15.1])]] (.inl ((a12.1++[i14]),(a12.2++[e15.1])))))
  (fun(t17:(List Nat×List aq))=>.tidy [.keep [],.cut [6] [] [bS 1 x1,mH 6 0 2 t17.2]]<|.inl [gO 1 x1]<|.skip 2<|.tidy []<|.inl [gO 1 x1]<|.skip 1<|.tidy [.keep [2],.cut [5] [] [bS 1 x1,mH 5 0 2 t17.2]]<|.inl [gO 1 x1]<|.skip 3<|.bk mJ 2 0 [] t17.2 fun(r18:(List aq))=>.skip 2<|.tidy [.keep [4],.cut [2] [] [bS 1 x1,mH 2 0 2 r18]]<|.inl [gO 1 x1]<|.done [] ((List.length t17.2),r18))
def sQ:yy prog:=yy.of nu 94 ((List (aq×ak))) (fun x=>[(.fn (.func 156) [] [(.ptr 0 0 0 0)]),(.fn (.func 96) [] [])])
 (fun x=>[.row 0 1 [[(.mp 1)]],.map (List.length x) (bZ dL dM 0 x)]) (.one (Nat×List aq)) (fun r=>.ret (.sl 2 0 2 0 r.1))
 (fun x r=>[.row 0 1 [[(.mp 1)]],.map (List.length x) (bZ dL dM 0 x),.row 0 2 (List.map cq r.2)]) (fun x=>fS x)
 {m:=2,pu:=[1],ug:=[1,2],ME:=fun x=>[bS 1 x],Ig:=fun x r=>[bS 1 x,mH 2 0 2 r.2],hl:=fun _=>rfl,ho:=fun _=>(fun _=>rfl),hp:=fun _=>⟨rfl,trivial⟩,D9:=fun _=>rfl,hq:=fun _=>(fun _=>⟨rfl,rfl,trivial⟩),MF:=fun _=>(fun _=>rfl),hf:=(fun _=>rfl)} (fun x=>by kernel_rfl)
end
end Go.L
end
