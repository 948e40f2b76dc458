/- comm.Sort, told by guides on the library's sort and Compact. No conditions. -/
import Derived.Test.YtpgpmlaafigpaaaGreatDoorWPm
import Derived.Test.YtpgpmlaafigpaaaGreatDoorAe
import Derived.Lib.SlicesCompact
namespace Go.Proofs
open Go.Shelf
set_option maxRecDepth 100000
def Tryz.JO:Shelf.Ren where
 f:=fun x=>match x with
  | 6=>254
  | 15=>191
  | 14=>333
  | 28=>280
  | 29=>281
  | 20=>395
  | 21=>396
  | 22=>397
  | 23=>398
  | 24=>399
  | 25=>400
  | 26=>401
  | 27=>402
  | 46=>421
  | 47=>363
  | 48=>364
  | 49=>422
  | 50=>423
  | 57=>427
  |n=>n
 t:=fun x=>match x with
  | 22=>35
  | 24=>60
  | 25=>269
  | 3=>3
  | 39=>171
  | 0=>0
  | 53=>26
  | 55=>23
  | 4=>4
  | 46=>358
  | 45=>357
  | 50=>219
  | 5=>5
  | 9=>9
  | 66=>424
  | 70=>428
  | 76=>463
  | 77=>464
  |n=>n
 g:=fun n=>n
theorem Tryz.Wx:SlLaysF0.n6 Tryz.prog Tryz.JO where
 mixed:=by kernel_rfl
 f6 := ⟨"slices.SortFunc[[]leafmesh/api.Comm,leafmesh/api.Comm]", of_decide_eq_true (by kernel_rfl), Eq.trans Tryz.func254 (by kernel_rfl)⟩
 f14 := ⟨"slices.pdqsortCmpFunc[leafmesh/api.Comm]", of_decide_eq_true (by kernel_rfl), Eq.trans Tryz.func333 (by kernel_rfl)⟩
 f15:=Eq.trans Tryz.func191 (by kernel_rfl)
 f20 := ⟨"slices.insertionSortCmpFunc[leafmesh/api.Comm]", of_decide_eq_true (by kernel_rfl), Eq.trans Tryz.func395 (by kernel_rfl)⟩
 f21 := ⟨"slices.heapSortCmpFunc[leafmesh/api.Comm]", of_decide_eq_true (by kernel_rfl), Eq.trans Tryz.func396 (by kernel_rfl)⟩
 f22 := ⟨"slices.breakPatternsCmpFunc[leafmesh/api.Comm]", of_decide_eq_true (by kernel_rfl), Eq.trans Tryz.func397 (by kernel_rfl)⟩
 f23 := ⟨"slices.choosePivotCmpFunc[leafmesh/api.Comm]", of_decide_eq_true (by kernel_rfl), Eq.trans Tryz.func398 (by kernel_rfl)⟩
 f24 := ⟨"slices.reverseRangeCmpFunc[leafmesh/api.Comm]", of_decide_eq_true (by kernel_rfl), Eq.trans Tryz.func399 (by kernel_rfl)⟩
 f25 := ⟨"slices.partialInsertionSortCmpFunc[leafmesh/api.Comm]", of_decide_eq_true (by kernel_rfl), Eq.trans Tryz.func400 (by kernel_rfl)⟩
 f26 := ⟨"slices.partitionEqualCmpFunc[leafmesh/api.Comm]", of_decide_eq_true (by kernel_rfl), Eq.trans Tryz.func401 (by kernel_rfl)⟩
 f27 := ⟨"slices.partitionCmpFunc[leafmesh/api.Comm]", of_decide_eq_true (by kernel_rfl), Eq.trans Tryz.func402 (by kernel_rfl)⟩
 f28:=Eq.trans Tryz.func280 (by kernel_rfl)
 f29:=Eq.trans Tryz.func281 (by kernel_rfl)
 f46 := ⟨"slices.siftDownCmpFunc[leafmesh/api.Comm]", of_decide_eq_true (by kernel_rfl), Eq.trans Tryz.func421 (by kernel_rfl)⟩
 f47:=Eq.trans Tryz.func363 (by kernel_rfl)
 f48:=Eq.trans Tryz.func364 (by kernel_rfl)
 f49 := ⟨"slices.medianAdjacentCmpFunc[leafmesh/api.Comm]", of_decide_eq_true (by kernel_rfl), Eq.trans Tryz.func422 (by kernel_rfl)⟩
 f50 := ⟨"slices.medianCmpFunc[leafmesh/api.Comm]", of_decide_eq_true (by kernel_rfl), Eq.trans Tryz.func423 (by kernel_rfl)⟩
 f57 := ⟨"slices.order2CmpFunc[leafmesh/api.Comm]", of_decide_eq_true (by kernel_rfl), Eq.trans Tryz.func427 (by kernel_rfl)⟩
 t0:=Tryz.underlying0
 a0:=Tryz.isAgg0
 z0:=Tryz.sizeOf0
 v0:=Tryz.zeroValue0
 t3:=Tryz.underlying3
 a3:=Tryz.isAgg3
 z3:=Tryz.sizeOf3
 v3:=Tryz.zeroValue3
 t4:=Tryz.underlying4
 a4:=Tryz.isAgg4
 z4:=Tryz.sizeOf4
 v4:=Tryz.zeroValue4
 t5:=Tryz.underlying5
 a5:=Tryz.isAgg5
 z5:=Tryz.sizeOf5
 v5:=Tryz.zeroValue5
 t9:=Tryz.underlying9
 a9:=Tryz.isAgg9
 z9:=Tryz.sizeOf9
 v9:=Tryz.zeroValue9
 t22:=Tryz.underlying35
 a22:=Tryz.isAgg35
 z22:=Tryz.sizeOf35
 v22:=Tryz.zeroValue35
 t25:=Tryz.underlying269
 a25:=Tryz.isAgg269
 z25:=Tryz.sizeOf269
 v25:=Tryz.zeroValue269
 t39:=Tryz.underlying171
 a39:=Tryz.isAgg171
 z39:=Tryz.sizeOf171
 v39:=Tryz.zeroValue171
 t45:=Tryz.underlying357
 a45:=Tryz.isAgg357
 z45:=Tryz.sizeOf357
 v45:=Tryz.zeroValue357
 t46:=Tryz.underlying358
 a46:=Tryz.isAgg358
 z46:=Tryz.sizeOf358
 v46:=Tryz.zeroValue358
 t50:=Tryz.underlying219
 a50:=Tryz.isAgg219
 z50:=Tryz.sizeOf219
 v50:=Tryz.zeroValue219
 t53:=Tryz.underlying26
 a53:=Tryz.isAgg26
 z53:=Tryz.sizeOf26
 v53:=Tryz.zeroValue26
 t55:=Tryz.underlying23
 a55:=Tryz.isAgg23
 z55:=Tryz.sizeOf23
 v55:=Tryz.zeroValue23
 t66:=Tryz.underlying424
 a66:=Tryz.isAgg424
 z66:=Tryz.sizeOf424
 v66:=Tryz.zeroValue424
 t70:=Tryz.underlying428
 a70:=Tryz.isAgg428
 z70:=Tryz.sizeOf428
 v70:=Tryz.zeroValue428
 t76:=Tryz.underlying463
 a76:=Tryz.isAgg463
 z76:=Tryz.sizeOf463
 v76:=Tryz.zeroValue463
 t77:=Tryz.underlying464
 a77:=Tryz.isAgg464
 z77:=Tryz.sizeOf464
 v77:=Tryz.zeroValue464
end Go.Proofs
namespace Go.L
open Go.AM Go.Proofs Go.Sort
set_option maxRecDepth 100000
set_option linter.unusedVariables false
set_option linter.unusedSimpArgs false
noncomputable def Kn(x1:(Go.AM.V8 Int))(x2:(Go.AM.V8 Int)):G prog (Sh.El (.one Int)):=
 .skip 5<|.inl []<|.skip 5<|.tidy []<|.inl []<|.skip 1<|.done [] (Go.Lib.compareBytes (Go.Lib.bytesOf [x1.a0,x1.a1,x1.a2,x1.a3,x1.a4,x1.a5,x1.a6,x1.a7]) (Go.Lib.bytesOf [x2.a0,x2.a1,x2.a2,x2.a3,x2.a4,x2.a5,x2.a6,x2.a7]))
noncomputable def DP:aA prog:=aA.of i7 10 255 ((Go.AM.V8 Int)×(Go.AM.V8 Int)) (fun x=>[.agg ((ay (cI .u8)) x.1),.agg ((ay (cI .u8)) x.2)]) (.one Int) (fun r=>.ret (.sc (.int .i64 r))) (fun x=>Kn x.1 x.2) (fun x=>by kernel_rfl)
def KI(x:V8 Int):List Value:=[.int .u8 x.a0,.int .u8 x.a1,.int .u8 x.a2,.int .u8 x.a3,.int .u8 x.a4,.int .u8 x.a5,.int .u8 x.a6,.int .u8 x.a7]
def iu(x:V8 Int):List UInt8:=Lib.bytesOf [x.a0,x.a1,x.a2,x.a3,x.a4,x.a5,x.a6,x.a7]
def Bq(x y:V8 Int):Int:=Lib.compareBytes (iu x) (iu y)
instance inhV8:Inhabited (V8 Int):=⟨⟨0,0,0,0,0,0,0,0⟩⟩
theorem N7:∀(a b:List UInt8),Lib.compareBytes a b<0↔a<b
 | [],[]=>by simp[Lib.compareBytes]
 | [],_::_=>by simp[Lib.compareBytes]
 |_::_,[]=>by simp[Lib.compareBytes]
 |a::ar,b::br=>by
  rw[Lib.compareBytes,List.cons_lt_cons_iff];by_cases h:a<b
  ·simp[h]
  ·rw[if_neg h];by_cases h':b<a
   ·rw[if_pos h'];have hne:a≠b:=fun e=>by subst e;exact h h'
    simp[h,hne]
   ·rw[if_neg h'];have he:a=b:=UInt8.le_antisymm (UInt8.not_lt.1 h') (UInt8.not_lt.1 h);subst he;simp[N7 ar br]
theorem zM(x y:V8 Int):ltOf Bq x y=true↔iu x<iu y:=by
 simp only[ltOf,decide_eq_true_eq,Bq,N7]
theorem I3:SWO (ltOf Bq) where
 irrefl:=fun x=>by
  have:=mt (zM x x).1 (List.lt_irrefl _);simpa using this
 trans:=fun x y z h1 h2=>(zM x z).2 (List.lt_trans ((zM x y).1 h1) ((zM y z).1 h2))
 ntrans:=fun x y z h1 h2=>by
  have e:∀a b,ltOf Bq a b=false↔iu b≤iu a:=fun a b=>by
   rw[← List.not_lt,← zM];simp
  rw[e]at h1 h2 ⊢;exact List.le_trans h2 h1
theorem Rs(x y:V8 Int):iQ prog 255 [.agg (l7 KI x),.agg (l7 KI y)] (.ret (.sc (.int .i64 (Bq x y)))):=by
 have h:DP.S 0 (x,y)=some (Bq x y):=by kernel_rfl
 exact DP.ok 0 (x,y) (Bq x y) h
noncomputable def jv(l:List (V8 Int)):List (V8 Int):=(pdq (ltOf Bq) l.toArray 0 l.length (Lib.bitLen l.length) true true).toList
theorem Rt(l:List (V8 Int))(hsz:l.length<4611686018427387904):
 bz prog 254 [.sl 0 0 8 0 l.length,.fn (.func 255) [] []] [.row 0 8 (l.map (ay (cI .u8)))] (.ret nothing) [.row 0 8 ((jv l).map (ay (cI .u8)))]:=
 Ez (P:=prog) (ρ:=Tryz.JO) Tryz.Wx (gf:=255) (enc:=KI) (k:=8) (fun _=>rfl) (by omega) (fun x v hv=>by
  simp only[KI,List.mem_cons,List.not_mem_nil,or_false]at hv;rcases hv with h |h |h |h |h |h |h |h<;>subst h<;>rfl) (cf:=Bq) I3 Tryz.isAgg60 Tryz.sizeOf60 (fun args w=>by
  simp[callFunc,Tryz.func255];rfl) ⟨Tryz.f254,_,Tryz.func254,rfl,by decide⟩ Rs l hsz
theorem PF{f:FuncId}{a:List AVal}{H H1:List aa}(h:bz prog f a H (.ret nothing) H1):bz prog f a H (.ret (.cw [])) H1:=
 ⟨h.1,fun g w vs hi hl=>(h.2 g w vs hi hl).mono fun e w' ⟨g',h1,h2,x,h3,h4⟩=>⟨g',h1,h2,x,h3,by
  simp only[nothing,R]at h4;subst h4;simp[R,RL]⟩⟩
noncomputable def Cz(x:List (V8 Int)×Nat):Option (List (V8 Int)):=if x.2=x.1.length∧x.1.length<4611686018427387904 then some (jv x.1)else none
theorem Ru(x:List (V8 Int)×Nat)(r:List (V8 Int))(h:Cz x=some r):bz prog 254 [.sl 0 0 8 0 x.2,.fn (.func 255) [] []] [.row 0 8 (x.1.map (ay (cI .u8)))] (.ret (.cw [])) [.row 0 8 (r.map (ay (cI .u8)))]:=by
 unfold Cz at h;split at h
 ·rename_i hc;cases h;rw[hc.1];exact PF (Rt x.1 hc.2)
 ·cases h
noncomputable def cT:cD prog:={f:=254,X:=List (V8 Int)×Nat,args:=fun x=>[.sl 0 0 8 0 x.2,.fn (.func 255) [] []],blk:=fun x=>.row 0 8 (x.1.map (ay (cI .u8))),sh:=.one (List (V8 Int)),out:=fun(_:List (V8 Int))=>.ret (.cw []),o5:=fun _ (r:List (V8 Int))=>.row 0 8 (r.map (ay (cI .u8))),S:=fun _ x=>Cz x,a0:=fun _=>rfl,b0:=fun x=>by simp[aa.jt,ay,cI,AVal.aT,AVal.pure],b1:=fun _ (r:List (V8 Int))=>.inl (by simp[aa.jt,ay,cI,AVal.aT,AVal.pure]),r0:=fun _=>rfl,ok:=fun _ x r h=>Ru x r h}
noncomputable def gQ(x1:(List (Go.AM.V8 Int)))(x2:Nat):G prog (Sh.El (.one (Prod Nat (List (Go.AM.V8 Int))))):=
 .skip 4<|.br 8 (decide (((x2:Nat):Int)<(2:Int))) (.skip 3<|.done [] (x2,x1)) (.skip 2<|.loop (.two (.one (Prod Nat (List (Go.AM.V8 Int)))) (.one Unit)) [.keep [0,3]] (fun(a:Int)=>⟨(ap [(.sl 0 0 8 0 x2),.af,.af,.sc (.int .i64 a)] (jl 57)),[(.row 0 8 (List.map (Go.AM.ay (Go.AM.cI .u8)) x1))],[]⟩)
  (Sum.elim (fun(t:(Prod Nat (List (Go.AM.V8 Int))))=>(.ret,⟨(ap [.af,.af,.sl 0 0 8 0 t.1] (jl 58)),[.row 0 8 (t.2.map (ay (cI .u8)))],[]⟩)) (fun(_:Unit)=>(.exit 0,⟨(ap [(.sl 0 0 8 0 x2)] (jl 60)),[(.row 0 8 (List.map (Go.AM.ay (Go.AM.cI .u8)) x1))],[]⟩))) (1:Int)
  (fun(a4:Int)=>.skip 4<|.br 13 (decide (a4<((x2:Nat):Int))) (.skip 3<|.op (aN x2 8 0 0 a4) fun _=>.op (bX x1 (Go.AM.ay (Go.AM.cI .u8)) 8 0 0 (Int.toNat a4) 0 fun v=>.agg ((ay (cI .u8)) v)) fun x5=>.skip 3<|.op (aN x2 8 0 0 (Go.IntKind.wrap .i64 (a4 - (1:Int)))) fun _=>.op (bX x1 (Go.AM.ay (Go.AM.cI .u8)) 8 0 0 (Int.toNat (Go.IntKind.wrap .i64 (a4 - (1:Int)))) 0 fun v=>.agg ((ay (cI .u8)) v)) fun x6=>.skip 1<|.br 25 ((x5.a0==x6.a0)&&((x5.a1==x6.a1)&&((x5.a2==x6.a2)&&((x5.a3==x6.a3)&&((x5.a4==x6.a4)&&((x5.a5==x6.a5)&&((x5.a6==x6.a6)&&((x5.a7==x6.a7)&&true)))))))) (.skip 3<|.op (Ae x2 8 0 0 0 a4) fun h7=>.skip 2<|.loop (.one (Prod Int (List (Go.AM.V8 Int)))) [.keep [0,3,4,5]] (fun(a:(Prod Int (Prod Int (List (Go.AM.V8 Int)))))=>⟨(ap [(.sl 0 0 8 0 x2),.af,.af,.sc (.int .i64 a.1),(.sl 0 0 8 (0+h7) (x2 - h7)),.sc (.int .i64 a.2.1)] (jl 55)),[.row 0 8 (a.2.2.map (ay (cI .u8)))],[]⟩)
  (fun(t:(Prod Int (List (Go.AM.V8 Int))))=>(.exit 2,⟨(ap [(.sl 0 0 8 0 x2),.af,.af,.sc (.int .i64 t.1)] (jl 57)),[.row 0 8 (t.2.map (ay (cI .u8)))],[]⟩)) (a4,(1:Int),x1)
  (fun(a16:(Prod Int (Prod Int (List (Go.AM.V8 Int)))))=>.skip 4<|.br 32 (decide (a16.2.1<(((x2 - h7):Nat):Int))) (.skip 3<|.op (Ph ((x2 - h7)) 8 0 0 ((0+h7)) a16.2.1) fun _=>.op (bX a16.2.2 (Go.AM.ay (Go.AM.cI .u8)) 8 0 0 ((0+h7)+(Int.toNat a16.2.1)) 0 fun v=>.agg ((ay (cI .u8)) v)) fun x17=>.skip 3<|.op (Ph ((x2 - h7)) 8 0 0 ((0+h7)) (Go.IntKind.wrap .i64 (a16.2.1 - (1:Int)))) fun _=>.op (bX a16.2.2 (Go.AM.ay (Go.AM.cI .u8)) 8 0 0 ((0+h7)+(Int.toNat (Go.IntKind.wrap .i64 (a16.2.1 - (1:Int))))) 0 fun v=>.agg ((ay (cI .u8)) v)) fun x18=>.skip 1<|.br 44 (!((x17.a0==x18.a0)&&((x17.a1==x18.a1)&&((x17.a2==x18.a2)&&((x17.a3==x18.a3)&&((x17.a4==x18.a4)&&((x17.a5==x18.a5)&&((x17.a6==x18.a6)&&((x17.a7==x18.a7)&&true))))))))) (.skip 5<|.op (Ph ((x2 - h7)) 8 0 0 ((0+h7)) a16.2.1) fun _=>.op (bX a16.2.2 (Go.AM.ay (Go.AM.cI .u8)) 8 0 0 ((0+h7)+(Int.toNat a16.2.1)) 0 fun v=>.agg ((ay (cI .u8)) v)) fun x19=>.op (aN x2 8 0 0 a16.1) fun _=>.op (ig a16.2.2 (Go.AM.ay (Go.AM.cI .u8)) 8 0 0 (Int.toNat a16.1) 0 fun v=>x19) fun x20=>.skip 6<|.done [.keep [0,3,4,5]] (.inl ((Go.IntKind.wrap .i64 (a16.1+(1:Int))),(Go.IntKind.wrap .i64 (a16.2.1+(1:Int))),(List.set a16.2.2 (Int.toNat a16.1) x19)))) (.skip 4<|.done [.keep [0,3,4,5]] (.inl (a16.1,(Go.IntKind.wrap .i64 (a16.2.1+(1:Int))),a16.2.2)))) (.skip 1<|.done [.keep [0,3]] (.inr (a16.1,a16.2.2))))
  (fun(t24:(Prod Int (List (Go.AM.V8 Int))))=>.skip 2<|.op (Ae x2 8 0 0 0 t24.1) fun h25=>.op (Pj t24.2 ((@Go.AM.V8.mk Int (0:Int) (0:Int) (0:Int) (0:Int) (0:Int) (0:Int) (0:Int) (0:Int))) ((Go.AM.ay (Go.AM.cI .u8))) ((x2 - h25)) 8 0 0 ((0+h25))) fun _=>.skip 2<|.op (yB x2 8 0 0 0 t24.1) fun h26=>.skip 1<|.done [.keep [2]] (.inr (.inl (h26,(((List.take (0+h25) t24.2)++(List.replicate (x2 - h25) (@Go.AM.V8.mk Int (0:Int) (0:Int) (0:Int) (0:Int) (0:Int) (0:Int) (0:Int) (0:Int))))++(List.drop ((0+h25)+(x2 - h25)) t24.2))))))) (.skip 4<|.done [.keep [0,3]] (.inl (Go.IntKind.wrap .i64 (a4+(1:Int)))))) (.skip 1<|.done [.keep [0]] (.inr (.inr ()))))
  (Sum.elim (fun(t30:(Prod Nat (List (Go.AM.V8 Int))))=>.done [] (t30.1,t30.2)) (fun _=>.skip 2<|.done [] (x2,x1))))
noncomputable def yj:cD prog:=cD.sj cfg 10 257 ((List (Go.AM.V8 Int))×Nat) (fun x=>[.sl 0 0 8 0 x.2]) (V8 Int) 8 (ay (cI .u8)) (fun x=>x.1) (.one (Prod Nat (List (Go.AM.V8 Int)))) (fun r=>.ret (.sl 0 0 8 0 r.1)) (fun r=>r.2) (fun x=>gQ x.1 x.2) (fun _=>rfl) (fun _=>rfl) (fun _=>rfl) (fun x=>by kernel_rfl)
noncomputable def dc:cD prog:=yj.shrink (V8 Int) 8 (ay (cI .u8)) (fun _=>rfl) (fun(r:Nat×List (V8 Int))=>r.1) (fun(r:Nat×List (V8 Int))=>r.2) (fun _=>rfl) (fun _ _=>rfl)
noncomputable def B6(x1:(List (Go.AM.V8 Int))):G prog (Sh.El (.one (List (Go.AM.V8 Int)))):=
 .skip 2<|.inl []<|.skip 2<|.op (Lu x1 (Go.AM.ay (Go.AM.cI .u8)) true) fun _=>.skip 3<|.op (fu 0 [] x1 (ay (cI .u8)) 8 8 0 0 1 []) fun _=>.skip 1<|.tidy [.keep [2],.cut [0] [] [aR 0 1 8 ([]++x1) (Go.AM.ay (Go.AM.cI .u8)) fun _=>rfl]]<|.inl []<|.skip 2<|.ax cT 0 0 [] (([]++x1),(List.length ([]++x1))) fun(r2:(List (Go.AM.V8 Int)))=>.skip 1<|.ax dc 0 0 [] (r2,(List.length ([]++x1))) fun(r3:(List (Go.AM.V8 Int)))=>.skip 1<|.done [.cN (bh (.s 2) 0 0 8 (List.length r3) r3 (Go.AM.ay (Go.AM.cI .u8)) fun _=>rfl)] r3
noncomputable def EM:G prog (Sh.El (.one (List (Go.AM.V8 Int)))):=
 .skip 2<|.inl []<|.skip 5<|.tidy []<|.inl []<|.skip 2<|.inl []<|.skip 7<|.call mD (Go.IntKind.wrap .u64 (((0:Nat):Nat):Int)) fun(r1:Int)=>.skip 1<|.inl []<|.skip 2<|.fL 300<|.skip 11<|.inl []<|.skip 3<|.fL 300<|.skip 4<|.tidy []<|.inl []<|.tidy []<|.inl []<|.tidy []<|.inl []<|.skip 1<|.inl []<|.skip 7<|.tidy []<|.inl []<|.skip 1<|.done [] []
noncomputable def As:G prog (Sh.El (.one (List (Go.AM.V8 Int)))):=
 .skip 2<|.inl []<|.skip 8<|.tidy [.keep [2],.cut [0] [] []]<|.inl []<|.skip 2<|.ax cT 0 0 [] ([],0) fun(r1:(List (Go.AM.V8 Int)))=>.skip 1<|.ax dc 0 0 [] (r1,0) fun(r2:(List (Go.AM.V8 Int)))=>.skip 1<|.done [.cN (bh (.s 2) 0 0 8 (List.length r2) r2 (Go.AM.ay (Go.AM.cI .u8)) fun _=>rfl)] r2
theorem N8(n:Nat)(x:List (V8 Int)×Nat):cT.S n x=Cz x:=by kernel_rfl
theorem Rv(n:Nat):cT.S n (([]:List (V8 Int)),0)=some ([]:List (V8 Int)):=by
 rw[N8];unfold Cz;rw[if_pos ⟨rfl,by simp⟩]
 have:=(pdq_sorts (ltOf Bq) I3 (#[]:Array (V8 Int)) 0 0 (Lib.bitLen 0) true true (Nat.zero_le _) (Nat.zero_le _) (Or.inl rfl)).1.1;have h0:jv []=[]:=by
  unfold jv;apply List.eq_nil_of_length_eq_zero;simpa using this
 rw[h0]
theorem UF(n:Nat)(x:List (V8 Int)×Nat):dc.S n x=((gQ x.1 x.2).run n).bind (fun r=>if r.1≤r.2.length then some (r.2.take r.1)else none):=by kernel_rfl
theorem Rw(n:Nat):dc.S n (([]:List (V8 Int)),0)=some ([]:List (V8 Int)):=by
 kernel_rfl
theorem Nd(n:Nat){β:Type}(k:cT.sh.El→Option β):(cT.S n (([]:List (V8 Int)),0)).bind k=k ([]:List (V8 Int)):=by rw[Rv];rfl
theorem Nf(n:Nat){β:Type}(k:dc.sh.El→Option β):(dc.S n (([]:List (V8 Int)),0)).bind k=k ([]:List (V8 Int)):=by rw[Rw];rfl
theorem I4(n:Nat):EM.run n=some ([]:List (V8 Int)):=by kernel_rfl
theorem I5(n:Nat):As.run n=some ([]:List (V8 Int)):=by
 unfold As;simp only[G.run,aI,if_true];rw[Nd,Nf];rfl
noncomputable def kg:aA prog:=aA.Pe i7 10 177 (V8 Int) (ay (cI .u8)) (.one (List (Go.AM.V8 Int))) (fun r=>.ret (.aj (r.map (ay (cI .u8))))) (fun x=>B6 x) EM As [] (I4 0) (I5 0) (fun x=>by kernel_rfl) (by kernel_rfl) (by kernel_rfl)
end Go.L
