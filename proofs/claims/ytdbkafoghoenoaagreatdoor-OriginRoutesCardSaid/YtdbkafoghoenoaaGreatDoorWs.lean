/- Parts put together. No conditions. -/
import Derived.Test.YtdbkafoghoenoaaGreatDoorWk
import Derived.Test.YtdbkafoghoenoaaGreatDoorAd
import Derived.Test.YtdbkafoghoenoaaGreatDoorAe
import Derived.Lib.SlicesCompact
import Derived.Test.YtdbkafoghoenoaaGreatDoorWb
set_option linter.unusedSimpArgs false
set_option linter.unusedVariables false
set_option maxRecDepth 100000
section
namespace Go.Proofs
open Go.Shelf
def Tryz.sortK_ren:Shelf.Ren where
 f:=fun x=>match x with
  | 6=>227
  | 15=>108
  | 14=>255
  | 28=>175
  | 29=>176
  | 20=>259
  | 21=>260
  | 22=>261
  | 23=>262
  | 24=>263
  | 25=>264
  | 26=>265
  | 27=>266
  | 46=>267
  | 47=>236
  | 48=>237
  | 49=>268
  | 50=>269
  | 57=>270
  |n=>n
 t:=fun x=>match x with
  | 22=>61
  | 24=>84
  | 25=>150
  | 3=>3
  | 39=>137
  | 0=>0
  | 53=>25
  | 55=>23
  | 4=>4
  | 46=>235
  | 45=>234
  | 50=>86
  | 5=>5
  | 9=>9
  | 66=>282
  | 70=>286
  | 76=>303
  | 77=>304
  |n=>n
 g:=fun n=>n
theorem Tryz.sortK:SlLaysF0.n6 Tryz.prog Tryz.sortK_ren where
 mixed:=by kernel_rfl
 f6 := ⟨"slices.SortFunc[[]leafmesh/api.Comm,leafmesh/api.Comm]", of_decide_eq_true (by kernel_rfl), Eq.trans Tryz.func227 (by kernel_rfl)⟩
 f14 := ⟨"slices.pdqsortCmpFunc[leafmesh/api.Comm]", of_decide_eq_true (by kernel_rfl), Eq.trans Tryz.func255 (by kernel_rfl)⟩
 f15:=Eq.trans Tryz.func108 (by kernel_rfl)
 f20 := ⟨"slices.insertionSortCmpFunc[leafmesh/api.Comm]", of_decide_eq_true (by kernel_rfl), Eq.trans Tryz.func259 (by kernel_rfl)⟩
 f21 := ⟨"slices.heapSortCmpFunc[leafmesh/api.Comm]", of_decide_eq_true (by kernel_rfl), Eq.trans Tryz.func260 (by kernel_rfl)⟩
 f22 := ⟨"slices.breakPatternsCmpFunc[leafmesh/api.Comm]", of_decide_eq_true (by kernel_rfl), Eq.trans Tryz.func261 (by kernel_rfl)⟩
 f23 := ⟨"slices.choosePivotCmpFunc[leafmesh/api.Comm]", of_decide_eq_true (by kernel_rfl), Eq.trans Tryz.func262 (by kernel_rfl)⟩
 f24 := ⟨"slices.reverseRangeCmpFunc[leafmesh/api.Comm]", of_decide_eq_true (by kernel_rfl), Eq.trans Tryz.func263 (by kernel_rfl)⟩
 f25 := ⟨"slices.partialInsertionSortCmpFunc[leafmesh/api.Comm]", of_decide_eq_true (by kernel_rfl), Eq.trans Tryz.func264 (by kernel_rfl)⟩
 f26 := ⟨"slices.partitionEqualCmpFunc[leafmesh/api.Comm]", of_decide_eq_true (by kernel_rfl), Eq.trans Tryz.func265 (by kernel_rfl)⟩
 f27 := ⟨"slices.partitionCmpFunc[leafmesh/api.Comm]", of_decide_eq_true (by kernel_rfl), Eq.trans Tryz.func266 (by kernel_rfl)⟩
 f28:=Eq.trans Tryz.func175 (by kernel_rfl)
 f29:=Eq.trans Tryz.func176 (by kernel_rfl)
 f46 := ⟨"slices.siftDownCmpFunc[leafmesh/api.Comm]", of_decide_eq_true (by kernel_rfl), Eq.trans Tryz.func267 (by kernel_rfl)⟩
 f47:=Eq.trans Tryz.func236 (by kernel_rfl)
 f48:=Eq.trans Tryz.func237 (by kernel_rfl)
 f49 := ⟨"slices.medianAdjacentCmpFunc[leafmesh/api.Comm]", of_decide_eq_true (by kernel_rfl), Eq.trans Tryz.func268 (by kernel_rfl)⟩
 f50 := ⟨"slices.medianCmpFunc[leafmesh/api.Comm]", of_decide_eq_true (by kernel_rfl), Eq.trans Tryz.func269 (by kernel_rfl)⟩
 f57 := ⟨"slices.order2CmpFunc[leafmesh/api.Comm]", of_decide_eq_true (by kernel_rfl), Eq.trans Tryz.func270 (by kernel_rfl)⟩
 t0:=Tryz.underlying0
 a0:=Tryz.isAgg0
 z0:=Tryz.sizeOf0
 v0:=Tryz.zeroValue0
 t3:=Tryz.underlying3
 a3:=Tryz.isAgg3
 z3:=Tryz.sizeOf3
 v3:=Tryz.zeroValue3
 t4:=Tryz.underlying4
 a4:=Tryz.isAgg4
 z4:=Tryz.sizeOf4
 v4:=Tryz.zeroValue4
 t5:=Tryz.underlying5
 a5:=Tryz.isAgg5
 z5:=Tryz.sizeOf5
 v5:=Tryz.zeroValue5
 t9:=Tryz.underlying9
 a9:=Tryz.isAgg9
 z9:=Tryz.sizeOf9
 v9:=Tryz.zeroValue9
 t22:=Tryz.underlying61
 a22:=Tryz.isAgg61
 z22:=Tryz.sizeOf61
 v22:=Tryz.zeroValue61
 t25:=Tryz.underlying150
 a25:=Tryz.isAgg150
 z25:=Tryz.sizeOf150
 v25:=Tryz.zeroValue150
 t39:=Tryz.underlying137
 a39:=Tryz.isAgg137
 z39:=Tryz.sizeOf137
 v39:=Tryz.zeroValue137
 t45:=Tryz.underlying234
 a45:=Tryz.isAgg234
 z45:=Tryz.sizeOf234
 v45:=Tryz.zeroValue234
 t46:=Tryz.underlying235
 a46:=Tryz.isAgg235
 z46:=Tryz.sizeOf235
 v46:=Tryz.zeroValue235
 t50:=Tryz.underlying86
 a50:=Tryz.isAgg86
 z50:=Tryz.sizeOf86
 v50:=Tryz.zeroValue86
 t53:=Tryz.underlying25
 a53:=Tryz.isAgg25
 z53:=Tryz.sizeOf25
 v53:=Tryz.zeroValue25
 t55:=Tryz.underlying23
 a55:=Tryz.isAgg23
 z55:=Tryz.sizeOf23
 v55:=Tryz.zeroValue23
 t66:=Tryz.underlying282
 a66:=Tryz.isAgg282
 z66:=Tryz.sizeOf282
 v66:=Tryz.zeroValue282
 t70:=Tryz.underlying286
 a70:=Tryz.isAgg286
 z70:=Tryz.sizeOf286
 v70:=Tryz.zeroValue286
 t76:=Tryz.underlying303
 a76:=Tryz.isAgg303
 z76:=Tryz.sizeOf303
 v76:=Tryz.zeroValue303
 t77:=Tryz.underlying304
 a77:=Tryz.isAgg304
 z77:=Tryz.sizeOf304
 v77:=Tryz.zeroValue304
end Go.Proofs
namespace Go.L
open Go.AM Go.Proofs Go.Sort
def cfgO:Cfg:={val:=fun f=> ![39,40,41,42,43,44,45,236,237,227,230,226,255,259,229].contains f,kill:=fun _ _=>[]}
noncomputable def g_comm_Sort_1(x1:(V8 Int))(x2:(V8 Int)):G prog (Sh.El (.one Int)):=
 .skip 5<|.inl []<|.skip 5<|.tidy []<|.inl []<|.skip 1<|.done [] (Go.Lib.compareBytes (Go.Lib.bytesOf [x1.a0,x1.a1,x1.a2,x1.a3,x1.a4,x1.a5,x1.a6,x1.a7]) (Go.Lib.bytesOf [x2.a0,x2.a1,x2.a2,x2.a3,x2.a4,x2.a5,x2.a6,x2.a7]))
noncomputable def c_comm_Sort_1:Ctr prog:=Ctr.of cfgO 10 228 ((V8 Int)×(V8 Int)) (fun x=>[.agg ((eV8 (cI .u8)) x.1),.agg ((eV8 (cI .u8)) x.2)]) (.one Int) (fun r=>.ret (si r)) (fun x=>g_comm_Sort_1 x.1 x.2) (fun x=>by kernel_rfl)
def encV8(x:V8 Int):List Value:=[.int .u8 x.a0,.int .u8 x.a1,.int .u8 x.a2,.int .u8 x.a3,.int .u8 x.a4,.int .u8 x.a5,.int .u8 x.a6,.int .u8 x.a7]
def byV8(x:V8 Int):List UInt8:=Lib.bytesOf [x.a0,x.a1,x.a2,x.a3,x.a4,x.a5,x.a6,x.a7]
def cfC(x y:V8 Int):Int:=Lib.compareBytes (byV8 x) (byV8 y)
instance inhV8:Inhabited (V8 Int):=⟨⟨0,0,0,0,0,0,0,0⟩⟩
theorem cmpB_lt:∀(a b:List UInt8),Lib.compareBytes a b<0↔a<b
 | [],[]=>by simp[Lib.compareBytes]
 | [],_::_=>by simp[Lib.compareBytes]
 |_::_,[]=>by simp[Lib.compareBytes]
 |a::ar,b::br=>by
  rw[Lib.compareBytes,List.cons_lt_cons_iff];by_cases h:a<b
  ·simp[h]
  ·rw[if_neg h];by_cases h':b<a
   ·rw[if_pos h'];have hne:a≠b:=fun e=>by subst e;exact h h'
    simp[h,hne]
   ·rw[if_neg h'];have he:a=b:=UInt8.le_antisymm (UInt8.not_lt.1 h') (UInt8.not_lt.1 h);subst he;simp[cmpB_lt ar br]
theorem ltC_iff(x y:V8 Int):ltOf cfC x y=true↔byV8 x<byV8 y:=by
 simp only[ltOf,decide_eq_true_eq,cfC,cmpB_lt]
theorem ltC_swo:SWO (ltOf cfC) where
 irrefl:=fun x=>by
  have:=mt (ltC_iff x x).1 (List.lt_irrefl _);simpa using this
 trans:=fun x y z h1 h2=>(ltC_iff x z).2 (List.lt_trans ((ltC_iff x y).1 h1) ((ltC_iff y z).1 h2))
 ntrans:=fun x y z h1 h2=>by
  have e:∀a b,ltOf cfC a b=false↔byV8 b≤byV8 a:=fun a b=>by
   rw[← List.not_lt,← ltC_iff];simp
  rw[e]at h1 h2 ⊢;exact List.le_trans h2 h1
theorem sortC_cmp(x y:V8 Int):FnVal prog 228 [.agg (encA encV8 x),.agg (encA encV8 y)] (.ret (si (cfC x y))):=by
 have h:c_comm_Sort_1.S 0 (x,y)=some (cfC x y):=by kernel_rfl
 exact c_comm_Sort_1.ok 0 (x,y) (cfC x y) h
noncomputable def sortCv(l:List (V8 Int)):List (V8 Int):=(pdq (ltOf cfC) l.toArray 0 l.length (Lib.bitLen l.length) true true).toList
theorem sortC_ref(l:List (V8 Int))(hsz:l.length<4611686018427387904):
 FnRef prog 227 [.sl 0 0 8 0 l.length,.fn (.func 228) [] []] [.row 0 8 (l.map (eV8 (cI .u8)))] (.ret nothing) [.row 0 8 ((sortCv l).map (eV8 (cI .u8)))]:=
 sortFunc_ref (P:=prog) (ρ:=Tryz.sortK_ren) Tryz.sortK (gf:=228) (enc:=encV8) (k:=8) (fun _=>rfl) (by omega) (fun x v hv=>by
  simp only[encV8,List.mem_cons,List.not_mem_nil,or_false]at hv;rcases hv with h |h |h |h |h |h |h |h<;>subst h<;>rfl) (cf:=cfC) ltC_swo Tryz.isAgg84 Tryz.sizeOf84 (fun args w=>by
  simp[callFunc,Tryz.func228];rfl) ⟨Tryz.f227,_,Tryz.func227,rfl,by decide⟩ sortC_cmp l hsz
theorem fnRef_tup0{f:FuncId}{a:List AVal}{H H1:List ABlk}(h:FnRef prog f a H (.ret nothing) H1):FnRef prog f a H (.ret (.tup [])) H1:=
 ⟨h.1,fun g w vs hi hl=>(h.2 g w vs hi hl).mono fun e w' ⟨g',h1,h2,x,h3,h4⟩=>⟨g',h1,h2,x,h3,by
  simp only[nothing,R]at h4;subst h4;simp[R,RL]⟩⟩
noncomputable def sortCS(x:List (V8 Int)×Nat):Option (List (V8 Int)):=if x.2=x.1.length∧x.1.length<4611686018427387904 then some (sortCv x.1)else none
theorem sortCS_ok(x:List (V8 Int)×Nat)(r:List (V8 Int))(h:sortCS x=some r):FnRef prog 227 [.sl 0 0 8 0 x.2,.fn (.func 228) [] []] [.row 0 8 (x.1.map (eV8 (cI .u8)))] (.ret (.tup [])) [.row 0 8 (r.map (eV8 (cI .u8)))]:=by
 unfold sortCS at h;split at h
 ·rename_i hc;cases h;rw[hc.1];exact fnRef_tup0 (sortC_ref x.1 hc.2)
 ·cases h
noncomputable def c_slices_SortFunc_Comm_Comm:Ctr1 prog:={f:=227,X:=List (V8 Int)×Nat,args:=fun x=>[.sl 0 0 8 0 x.2,.fn (.func 228) [] []],blk:=fun x=>.row 0 8 (x.1.map (eV8 (cI .u8))),sh:=.one (List (V8 Int)),out:=fun(_:List (V8 Int))=>.ret (.tup []),outB:=fun _ (r:List (V8 Int))=>.row 0 8 (r.map (eV8 (cI .u8))),S:=fun _ x=>sortCS x,a0:=fun _=>rfl,b0:=fun x=>by simp[ABlk.row0,eV8,cI,AVal.pureL,AVal.pure],b1:=fun _ (r:List (V8 Int))=>.inl (by simp[ABlk.row0,eV8,cI,AVal.pureL,AVal.pure]),r0:=fun _=>rfl,ok:=fun _ x r h=>sortCS_ok x r h}
noncomputable def g_slices_Compact_Comm_Comm(x1:(List (V8 Int)))(x2:Nat):G prog (Sh.El (.one (Nat×(List (V8 Int))))):=
 .skip 4<|.br 8 (decide (((x2:Nat):Int)<2)) (.skip 3<|.done [] (x2,x1)) (.skip 2<|.loop (.two (.one (Nat×(List (V8 Int)))) (.one Unit)) [.keep [0,3]] (fun(a:Int)=>⟨(ap [(.sl 0 0 8 0 x2),.junk,.junk,si a] (jl 57)),[(.row 0 8 (List.map (eV8 (cI .u8)) x1))],[]⟩)
  (Sum.elim (fun(t:(Nat×(List (V8 Int))))=>(.ret,⟨(ap [.junk,.junk,.sl 0 0 8 0 t.1] (jl 58)),[.row 0 8 (t.2.map (eV8 (cI .u8)))],[]⟩)) (fun(_:Unit)=>(.exit 0,⟨(ap [(.sl 0 0 8 0 x2)] (jl 60)),[(.row 0 8 (List.map (eV8 (cI .u8)) x1))],[]⟩))) (1:Int)
  (fun(a4:Int)=>.skip 4<|.br 13 (decide (a4<((x2:Nat):Int))) (.skip 3<|.op (idxS x2 8 0 0 a4) fun _=>.op (ldO x1 (eV8 (cI .u8)) 8 0 0 (Int.toNat a4) 0 fun v=>.agg ((eV8 (cI .u8)) v)) fun x5=>.skip 3<|.op (idxS x2 8 0 0 (IntKind.wrap .i64 (a4 - 1))) fun _=>.op (ldO x1 (eV8 (cI .u8)) 8 0 0 (Int.toNat (IntKind.wrap .i64 (a4 - 1))) 0 fun v=>.agg ((eV8 (cI .u8)) v)) fun x6=>.skip 1<|.br 25 ((x5.a0==x6.a0)&&((x5.a1==x6.a1)&&((x5.a2==x6.a2)&&((x5.a3==x6.a3)&&((x5.a4==x6.a4)&&((x5.a5==x6.a5)&&((x5.a6==x6.a6)&&((x5.a7==x6.a7)&&true)))))))) (.skip 3<|.op (slcL x2 8 0 0 0 a4) fun h7=>.skip 2<|.loop (.one (Int×(List (V8 Int)))) [.keep [0,3,4,5]] (fun(a:(Int×Int×(List (V8 Int))))=>⟨(ap [(.sl 0 0 8 0 x2),.junk,.junk,si a.1,(.sl 0 0 8 (0+h7) (x2 - h7)),si a.2.1] (jl 55)),[.row 0 8 (a.2.2.map (eV8 (cI .u8)))],[]⟩)
  (fun(t:(Int×(List (V8 Int))))=>(.exit 2,⟨(ap [(.sl 0 0 8 0 x2),.junk,.junk,si t.1] (jl 57)),[.row 0 8 (t.2.map (eV8 (cI .u8)))],[]⟩)) (a4,(1:Int),x1)
  (fun(a16:(Int×Int×(List (V8 Int))))=>.skip 4<|.br 32 (decide (a16.2.1<(((x2 - h7):Nat):Int))) (.skip 3<|.op (idxP ((x2 - h7)) 8 0 0 ((0+h7)) a16.2.1) fun _=>.op (ldO a16.2.2 (eV8 (cI .u8)) 8 0 0 ((0+h7)+(Int.toNat a16.2.1)) 0 fun v=>.agg ((eV8 (cI .u8)) v)) fun x17=>.skip 3<|.op (idxP ((x2 - h7)) 8 0 0 ((0+h7)) (IntKind.wrap .i64 (a16.2.1 - 1))) fun _=>.op (ldO a16.2.2 (eV8 (cI .u8)) 8 0 0 ((0+h7)+(Int.toNat (IntKind.wrap .i64 (a16.2.1 - 1)))) 0 fun v=>.agg ((eV8 (cI .u8)) v)) fun x18=>.skip 1<|.br 44 (!((x17.a0==x18.a0)&&((x17.a1==x18.a1)&&((x17.a2==x18.a2)&&((x17.a3==x18.a3)&&((x17.a4==x18.a4)&&((x17.a5==x18.a5)&&((x17.a6==x18.a6)&&((x17.a7==x18.a7)&&true))))))))) (.skip 5<|.op (idxP ((x2 - h7)) 8 0 0 ((0+h7)) a16.2.1) fun _=>.op (ldO a16.2.2 (eV8 (cI .u8)) 8 0 0 ((0+h7)+(Int.toNat a16.2.1)) 0 fun v=>.agg ((eV8 (cI .u8)) v)) fun x19=>.op (idxS x2 8 0 0 a16.1) fun _=>.op (stO a16.2.2 (eV8 (cI .u8)) 8 0 0 (Int.toNat a16.1) 0 fun v=>x19) fun x20=>.skip 6<|.done [.keep [0,3,4,5]] (.inl ((IntKind.wrap .i64 (a16.1+1)),(IntKind.wrap .i64 (a16.2.1+1)),(List.set a16.2.2 (Int.toNat a16.1) x19)))) (.skip 4<|.done [.keep [0,3,4,5]] (.inl (a16.1,(IntKind.wrap .i64 (a16.2.1+1)),a16.2.2)))) (.skip 1<|.done [.keep [0,3]] (.inr (a16.1,a16.2.2))))
  (fun(t24:(Int×(List (V8 Int))))=>.skip 2<|.op (slcL x2 8 0 0 0 t24.1) fun h25=>.op (clrP t24.2 ((@V8.mk Int (0:Int) (0:Int) (0:Int) (0:Int) (0:Int) (0:Int) (0:Int) (0:Int))) ((eV8 (cI .u8))) ((x2 - h25)) 8 0 0 ((0+h25))) fun _=>.skip 2<|.op (slcH x2 8 0 0 0 t24.1) fun h26=>.skip 1<|.done [.keep [2]] (.inr (.inl (h26,(((List.take (0+h25) t24.2)++(List.replicate (x2 - h25) (@V8.mk Int (0:Int) (0:Int) (0:Int) (0:Int) (0:Int) (0:Int) (0:Int) (0:Int))))++(List.drop ((0+h25)+(x2 - h25)) t24.2))))))) (.skip 4<|.done [.keep [0,3]] (.inl (IntKind.wrap .i64 (a4+1))))) (.skip 1<|.done [.keep [0]] (.inr (.inr ()))))
  (Sum.elim (fun(t30:(Nat×(List (V8 Int))))=>.done [] (t30.1,t30.2)) (fun _=>.skip 2<|.done [] (x2,x1))))
noncomputable def c0_slices_Compact_Comm_Comm:Ctr1 prog:=Ctr1.ofRows cfgO 10 230 ((List (V8 Int))×Nat) (fun x=>[.sl 0 0 8 0 x.2]) (V8 Int) 8 (eV8 (cI .u8)) (fun x=>x.1) (.one (Nat×(List (V8 Int)))) (fun r=>.ret (.sl 0 0 8 0 r.1)) (fun r=>r.2) (fun x=>g_slices_Compact_Comm_Comm x.1 x.2) (fun _=>rfl) (fun _=>rfl) (fun _=>rfl) (fun x=>by kernel_rfl)
noncomputable def c_slices_Compact_Comm_Comm:Ctr1 prog:=c0_slices_Compact_Comm_Comm.shrink (V8 Int) 8 (eV8 (cI .u8)) (fun _=>rfl) (fun(r:Nat×List (V8 Int))=>r.1) (fun(r:Nat×List (V8 Int))=>r.2) (fun _=>rfl) (fun _ _=>rfl)
noncomputable def g_comm_Sort(x1:(List (V8 Int))):G prog (Sh.El (.one (List (V8 Int)))):=
 .skip 2<|.inl []<|.skip 2<|.op (nilO x1 (eV8 (cI .u8)) true) fun _=>.skip 3<|.op (appO 0 [] x1 (eV8 (cI .u8)) 8 8 0 0 1 []) fun _=>.skip 1<|.tidy [.keep [2],.cut [0] [] [puRow 0 1 8 ([]++x1) (eV8 (cI .u8)) fun _=>rfl]]<|.inl []<|.skip 2<|.call1 c_slices_SortFunc_Comm_Comm 0 0 [] (([]++x1),(List.length ([]++x1))) fun(r2:(List (V8 Int)))=>.skip 1<|.call1 c_slices_Compact_Comm_Comm 0 0 [] (r2,(List.length ([]++x1))) fun(r3:(List (V8 Int)))=>.skip 1<|.done [.frz (fzRow (.s 2) 0 0 8 (List.length r3) r3 (eV8 (cI .u8)) fun _=>rfl)] r3
noncomputable def g0_comm_Sort:G prog (Sh.El (.one (List (V8 Int)))):=
 .skip 2<|.inl []<|.skip 5<|.tidy []<|.inl []<|.skip 2<|.inl []<|.skip 7<|.call c_math_bits_Len (IntKind.wrap .u64 (((0:Nat):Nat):Int)) fun(r1:Int)=>.skip 1<|.inl []<|.skip 2<|.unroll 300<|.skip 11<|.inl []<|.skip 3<|.unroll 300<|.skip 4<|.tidy []<|.inl []<|.tidy []<|.inl []<|.tidy []<|.inl []<|.skip 1<|.inl []<|.skip 7<|.tidy []<|.inl []<|.skip 1<|.done [] []
noncomputable def g1_comm_Sort:G prog (Sh.El (.one (List (V8 Int)))):=
 .skip 2<|.inl []<|.skip 8<|.tidy [.keep [2],.cut [0] [] []]<|.inl []<|.skip 2<|.call1 c_slices_SortFunc_Comm_Comm 0 0 [] ([],0) fun(r1:(List (V8 Int)))=>.skip 1<|.call1 c_slices_Compact_Comm_Comm 0 0 [] (r1,0) fun(r2:(List (V8 Int)))=>.skip 1<|.done [.frz (fzRow (.s 2) 0 0 8 (List.length r2) r2 (eV8 (cI .u8)) fun _=>rfl)] r2
theorem sortC_S(n:Nat)(x:List (V8 Int)×Nat):c_slices_SortFunc_Comm_Comm.S n x=sortCS x:=by kernel_rfl
theorem sortC_nil(n:Nat):c_slices_SortFunc_Comm_Comm.S n (([]:List (V8 Int)),0)=some ([]:List (V8 Int)):=by
 rw[sortC_S];unfold sortCS;rw[if_pos ⟨rfl,by simp⟩]
 have:=(pdq_sorts (ltOf cfC) ltC_swo (#[]:Array (V8 Int)) 0 0 (Lib.bitLen 0) true true (Nat.zero_le _) (Nat.zero_le _) (Or.inl rfl)).1.1;have h0:sortCv []=[]:=by
  unfold sortCv;apply List.eq_nil_of_length_eq_zero;simpa using this
 rw[h0]
theorem compC_S(n:Nat)(x:List (V8 Int)×Nat):c_slices_Compact_Comm_Comm.S n x=((g_slices_Compact_Comm_Comm x.1 x.2).run n).bind (fun r=>if r.1≤r.2.length then some (r.2.take r.1)else none):=by kernel_rfl
theorem compC_nil(n:Nat):c_slices_Compact_Comm_Comm.S n (([]:List (V8 Int)),0)=some ([]:List (V8 Int)):=by
 kernel_rfl
theorem sortC_nil_b(n:Nat){β:Type}(k:c_slices_SortFunc_Comm_Comm.sh.El→Option β):(c_slices_SortFunc_Comm_Comm.S n (([]:List (V8 Int)),0)).bind k=k ([]:List (V8 Int)):=by rw[sortC_nil];rfl
theorem compC_nil_b(n:Nat){β:Type}(k:c_slices_Compact_Comm_Comm.sh.El→Option β):(c_slices_Compact_Comm_Comm.S n (([]:List (V8 Int)),0)).bind k=k ([]:List (V8 Int)):=by rw[compC_nil];rfl
theorem run0_comm_Sort(n:Nat):g0_comm_Sort.run n=some ([]:List (V8 Int)):=by kernel_rfl
theorem run1_comm_Sort(n:Nat):g1_comm_Sort.run n=some ([]:List (V8 Int)):=by
 unfold g1_comm_Sort;simp only[G.run,tsOk,if_true];rw[sortC_nil_b,compC_nil_b];rfl
noncomputable def c_comm_Sort:Ctr prog:=Ctr.ofNil cfgO 10 152 (V8 Int) (eV8 (cI .u8)) (.one (List (V8 Int))) (fun r=>.ret (.lst (r.map (eV8 (cI .u8))))) (fun x=>g_comm_Sort x) g0_comm_Sort g1_comm_Sort [] (run0_comm_Sort 0) (run1_comm_Sort 0) (fun x=>by kernel_rfl) (by kernel_rfl) (by kernel_rfl)
end Go.L
end
section
namespace Go.L
noncomputable section
open Go.AM
def g_nlri_Key(x1:NLRI):G prog (Sh.El (.one NLRI)):=
 .skip 10<|.br 7 (x1.Kind==5) (.skip 8<|.done [] (NLRI.mk x1.Kind x1.RD (@V10.mk Int (0:Int) (0:Int) (0:Int) (0:Int) (0:Int) (0:Int) (0:Int) (0:Int) (0:Int) (0:Int)) x1.Tag x1.MAC x1.IP x1.HasIP x1.Prefix (0:Int) (0:Int) (0:Int))) (.skip 3<|.br 9 (x1.Kind==2) (.skip 6<|.done [] (NLRI.mk x1.Kind x1.RD (@V10.mk Int (0:Int) (0:Int) (0:Int) (0:Int) (0:Int) (0:Int) (0:Int) (0:Int) (0:Int) (0:Int)) x1.Tag x1.MAC x1.IP x1.HasIP x1.Prefix x1.Gateway (0:Int) (0:Int))) (.skip 3<|.done [] (NLRI.mk x1.Kind x1.RD x1.ESI x1.Tag x1.MAC x1.IP x1.HasIP x1.Prefix x1.Gateway (0:Int) (0:Int))))
def c_nlri_Key:Ctr prog:=Ctr.of cfg 10 109 (NLRI) (fun x=>[.agg (eNLRI x)]) (.one NLRI) (fun r=>.ret (.agg (eNLRI r))) (fun x=>g_nlri_Key x) (fun x=>by kernel_rfl)
def g_cmp_isNaN_int(x1:Int):G prog (Sh.El (.one Bool)):=
 .skip 5<|.done [] (x1 != x1)
def c_cmp_isNaN_int:Ctr prog:=Ctr.of cfg 10 177 (Int) (fun x=>[si x]) (.one Bool) (fun r=>.ret (sb r)) (fun x=>g_cmp_isNaN_int x) (fun x=>by kernel_rfl)
def g_cmp_Compare_int(x1:Int)(x2:Int):G prog (Sh.El (.one Int)):=
 .skip 2<|.call c_cmp_isNaN_int x1 fun(r3:Bool)=>.skip 2<|.call c_cmp_isNaN_int x2 fun(r4:Bool)=>.skip 2<|.br 11 r3 (.skip 2<|.br 12 r4 (.skip 2<|.done [] (0:Int)) (.skip 2<|.done [] (-(1:Int)))) (.skip 2<|.br 13 r4 (.skip 2<|.done [] (1:Int)) (.skip 4<|.br 16 (decide (x1<x2)) (.skip 2<|.done [] (-(1:Int))) (.skip 4<|.br 19 (decide (x1>x2)) (.skip 2<|.done [] (1:Int)) (.skip 2<|.done [] (0:Int)))))
def c_cmp_Compare_int:Ctr prog:=Ctr.of cfg 10 111 (Int×Int) (fun x=>[si x.1,si x.2]) (.one Int) (fun r=>.ret (si r)) (fun x=>g_cmp_Compare_int x.1 x.2) (fun x=>by kernel_rfl)
def g_cmp_isNaN_uint64(x1:Int):G prog (Sh.El (.one Bool)):=
 .skip 5<|.done [] (x1 != x1)
def c_cmp_isNaN_uint64:Ctr prog:=Ctr.of cfg 10 178 (Int) (fun x=>[sq x]) (.one Bool) (fun r=>.ret (sb r)) (fun x=>g_cmp_isNaN_uint64 x) (fun x=>by kernel_rfl)
def g_cmp_Compare_uint64(x1:Int)(x2:Int):G prog (Sh.El (.one Int)):=
 .skip 2<|.call c_cmp_isNaN_uint64 x1 fun(r3:Bool)=>.skip 2<|.call c_cmp_isNaN_uint64 x2 fun(r4:Bool)=>.skip 2<|.br 11 r3 (.skip 2<|.br 12 r4 (.skip 2<|.done [] (0:Int)) (.skip 2<|.done [] (-(1:Int)))) (.skip 2<|.br 13 r4 (.skip 2<|.done [] (1:Int)) (.skip 4<|.br 16 (decide (x1<x2)) (.skip 2<|.done [] (-(1:Int))) (.skip 4<|.br 19 (decide (x1>x2)) (.skip 2<|.done [] (1:Int)) (.skip 2<|.done [] (0:Int)))))
def c_cmp_Compare_uint64:Ctr prog:=Ctr.of cfg 10 112 (Int×Int) (fun x=>[sq x.1,sq x.2]) (.one Int) (fun r=>.ret (si r)) (fun x=>g_cmp_Compare_uint64 x.1 x.2) (fun x=>by kernel_rfl)
def g_addr_octets(x1:(V10 Int)):G prog (Sh.El (.one (Int×Int×Int×Int×Int×Int×Int×Int×Int×Int))):=
 .skip 4<|.done [] (x1.a0,x1.a1,x1.a2,x1.a3,x1.a4,x1.a5,x1.a6,x1.a7,x1.a8,x1.a9)
def c_addr_octets:Ctr prog:=Ctr.of cfg 10 159 ((V10 Int)) (fun x=>[.agg ((eV10 (cI .u8)) x)]) (.one (Int×Int×Int×Int×Int×Int×Int×Int×Int×Int)) (fun r=>.ret (.fn (.func 233) [] [.cptr [s8 r.1,s8 r.2.1,s8 r.2.2.1,s8 r.2.2.2.1,s8 r.2.2.2.2.1,s8 r.2.2.2.2.2.1,s8 r.2.2.2.2.2.2.1,s8 r.2.2.2.2.2.2.2.1,s8 r.2.2.2.2.2.2.2.2.1,s8 r.2.2.2.2.2.2.2.2.2] 0])) (fun x=>g_addr_octets x) (fun x=>by kernel_rfl)
def g_cmp_isNaN_byte(x1:Int):G prog (Sh.El (.one Bool)):=
 .skip 5<|.done [] (x1 != x1)
def c_cmp_isNaN_byte:Ctr prog:=Ctr.of cfg 10 240 (Int) (fun x=>[s8 x]) (.one Bool) (fun r=>.ret (sb r)) (fun x=>g_cmp_isNaN_byte x) (fun x=>by kernel_rfl)
def g_cmp_Compare_byte(x1:Int)(x2:Int):G prog (Sh.El (.one Int)):=
 .skip 2<|.call c_cmp_isNaN_byte x1 fun(r3:Bool)=>.skip 2<|.call c_cmp_isNaN_byte x2 fun(r4:Bool)=>.skip 2<|.br 11 r3 (.skip 2<|.br 12 r4 (.skip 2<|.done [] (0:Int)) (.skip 2<|.done [] (-(1:Int)))) (.skip 2<|.br 13 r4 (.skip 2<|.done [] (1:Int)) (.skip 4<|.br 16 (decide (x1<x2)) (.skip 2<|.done [] (-(1:Int))) (.skip 4<|.br 19 (decide (x1>x2)) (.skip 2<|.done [] (1:Int)) (.skip 2<|.done [] (0:Int)))))
def c_cmp_Compare_byte:Ctr prog:=Ctr.of cfg 10 179 (Int×Int) (fun x=>[s8 x.1,s8 x.2]) (.one Int) (fun r=>.ret (si r)) (fun x=>g_cmp_Compare_byte x.1 x.2) (fun x=>by kernel_rfl)
def g_addr_CompareESI(x1:(V10 Int))(x2:(V10 Int)):G prog (Sh.El (.one Int)):=
 .skip 4<|.call c_addr_octets x1 fun(r3:(Int×Int×Int×Int×Int×Int×Int×Int×Int×Int))=>.inl []<|.skip 2<|.unroll 300<|.skip 9<|.inl []<|.skip 6<|.call c_cmp_Compare_byte (r3.1,x2.a0) fun(r4:Int)=>.skip 3<|.br 18 (r4 != 0) (.skip 3<|.tidy []<|.skip 2<|.tidy []<|.inl []<|.done [] r4) (.skip 1<|.tidy []<|.skip 13<|.inl []<|.skip 6<|.call c_cmp_Compare_byte (r3.2.1,x2.a1) fun(r6:Int)=>.skip 3<|.br 18 (r6 != 0) (.skip 3<|.tidy []<|.skip 2<|.tidy []<|.inl []<|.done [] r6) (.skip 1<|.tidy []<|.skip 13<|.inl []<|.skip 6<|.call c_cmp_Compare_byte (r3.2.2.1,x2.a2) fun(r8:Int)=>.skip 3<|.br 18 (r8 != 0) (.skip 3<|.tidy []<|.skip 2<|.tidy []<|.inl []<|.done [] r8) (.skip 1<|.tidy []<|.skip 13<|.inl []<|.skip 6<|.call c_cmp_Compare_byte (r3.2.2.2.1,x2.a3) fun(r10:Int)=>.skip 3<|.br 18 (r10 != 0) (.skip 3<|.tidy []<|.skip 2<|.tidy []<|.inl []<|.done [] r10) (.skip 1<|.tidy []<|.skip 13<|.inl []<|.skip 6<|.call c_cmp_Compare_byte (r3.2.2.2.2.1,x2.a4) fun(r12:Int)=>.skip 3<|.br 18 (r12 != 0) (.skip 3<|.tidy []<|.skip 2<|.tidy []<|.inl []<|.done [] r12) (.skip 1<|.tidy []<|.skip 13<|.inl []<|.skip 6<|.call c_cmp_Compare_byte (r3.2.2.2.2.2.1,x2.a5) fun(r14:Int)=>.skip 3<|.br 18 (r14 != 0) (.skip 3<|.tidy []<|.skip 2<|.tidy []<|.inl []<|.done [] r14) (.skip 1<|.tidy []<|.skip 13<|.inl []<|.skip 6<|.call c_cmp_Compare_byte (r3.2.2.2.2.2.2.1,x2.a6) fun(r16:Int)=>.skip 3<|.br 18 (r16 != 0) (.skip 3<|.tidy []<|.skip 2<|.tidy []<|.inl []<|.done [] r16) (.skip 1<|.tidy []<|.skip 13<|.inl []<|.skip 6<|.call c_cmp_Compare_byte (r3.2.2.2.2.2.2.2.1,x2.a7) fun(r18:Int)=>.skip 3<|.br 18 (r18 != 0) (.skip 3<|.tidy []<|.skip 2<|.tidy []<|.inl []<|.done [] r18) (.skip 1<|.tidy []<|.skip 13<|.inl []<|.skip 6<|.call c_cmp_Compare_byte (r3.2.2.2.2.2.2.2.2.1,x2.a8) fun(r20:Int)=>.skip 3<|.br 18 (r20 != 0) (.skip 3<|.tidy []<|.skip 2<|.tidy []<|.inl []<|.done [] r20) (.skip 1<|.tidy []<|.skip 13<|.inl []<|.skip 6<|.call c_cmp_Compare_byte (r3.2.2.2.2.2.2.2.2.2,x2.a9) fun(r22:Int)=>.skip 3<|.br 18 (r22 != 0) (.skip 3<|.tidy []<|.skip 2<|.tidy []<|.inl []<|.done [] r22) (.skip 1<|.tidy []<|.skip 6<|.tidy []<|.inl []<|.skip 1<|.done [] (0:Int)))))))))))
def c_addr_CompareESI:Ctr prog:=Ctr.of cfg 10 113 ((V10 Int)×(V10 Int)) (fun x=>[.agg ((eV10 (cI .u8)) x.1),.agg ((eV10 (cI .u8)) x.2)]) (.one Int) (fun r=>.ret (si r)) (fun x=>g_addr_CompareESI x.1 x.2) (fun x=>by kernel_rfl)
def g_cmp_isNaN_uint32(x1:Int):G prog (Sh.El (.one Bool)):=
 .skip 5<|.done [] (x1 != x1)
def c_cmp_isNaN_uint32:Ctr prog:=Ctr.of cfg 10 180 (Int) (fun x=>[su x]) (.one Bool) (fun r=>.ret (sb r)) (fun x=>g_cmp_isNaN_uint32 x) (fun x=>by kernel_rfl)
def g_cmp_Compare_uint32(x1:Int)(x2:Int):G prog (Sh.El (.one Int)):=
 .skip 2<|.call c_cmp_isNaN_uint32 x1 fun(r3:Bool)=>.skip 2<|.call c_cmp_isNaN_uint32 x2 fun(r4:Bool)=>.skip 2<|.br 11 r3 (.skip 2<|.br 12 r4 (.skip 2<|.done [] (0:Int)) (.skip 2<|.done [] (-(1:Int)))) (.skip 2<|.br 13 r4 (.skip 2<|.done [] (1:Int)) (.skip 4<|.br 16 (decide (x1<x2)) (.skip 2<|.done [] (-(1:Int))) (.skip 4<|.br 19 (decide (x1>x2)) (.skip 2<|.done [] (1:Int)) (.skip 2<|.done [] (0:Int)))))
def c_cmp_Compare_uint32:Ctr prog:=Ctr.of cfg 10 114 (Int×Int) (fun x=>[su x.1,su x.2]) (.one Int) (fun r=>.ret (si r)) (fun x=>g_cmp_Compare_uint32 x.1 x.2) (fun x=>by kernel_rfl)
def g_cmp_isNaN_MAC(x1:Int):G prog (Sh.El (.one Bool)):=
 .skip 5<|.done [] (x1 != x1)
def c_cmp_isNaN_MAC:Ctr prog:=Ctr.of cfg 10 181 (Int) (fun x=>[sq x]) (.one Bool) (fun r=>.ret (sb r)) (fun x=>g_cmp_isNaN_MAC x) (fun x=>by kernel_rfl)
def g_cmp_Compare_MAC(x1:Int)(x2:Int):G prog (Sh.El (.one Int)):=
 .skip 2<|.call c_cmp_isNaN_MAC x1 fun(r3:Bool)=>.skip 2<|.call c_cmp_isNaN_MAC x2 fun(r4:Bool)=>.skip 2<|.br 11 r3 (.skip 2<|.br 12 r4 (.skip 2<|.done [] (0:Int)) (.skip 2<|.done [] (-(1:Int)))) (.skip 2<|.br 13 r4 (.skip 2<|.done [] (1:Int)) (.skip 4<|.br 16 (decide (x1<x2)) (.skip 2<|.done [] (-(1:Int))) (.skip 4<|.br 19 (decide (x1>x2)) (.skip 2<|.done [] (1:Int)) (.skip 2<|.done [] (0:Int)))))
def c_cmp_Compare_MAC:Ctr prog:=Ctr.of cfg 10 115 (Int×Int) (fun x=>[sq x.1,sq x.2]) (.one Int) (fun r=>.ret (si r)) (fun x=>g_cmp_Compare_MAC x.1 x.2) (fun x=>by kernel_rfl)
def g_nlri_order(x1:Bool)(x2:Bool):G prog (Sh.El (.one Int)):=
 .skip 5<|.br 5 (x1==x2) (.skip 2<|.done [] (0:Int)) (.skip 3<|.br 9 x2 (.skip 2<|.done [] (-(1:Int))) (.skip 2<|.done [] (1:Int)))
def c_nlri_order:Ctr prog:=Ctr.of cfg 10 116 (Bool×Bool) (fun x=>[sb x.1,sb x.2]) (.one Int) (fun r=>.ret (si r)) (fun x=>g_nlri_order x.1 x.2) (fun x=>by kernel_rfl)
def g_cmp_isNaN_IP(x1:Int):G prog (Sh.El (.one Bool)):=
 .skip 5<|.done [] (x1 != x1)
def c_cmp_isNaN_IP:Ctr prog:=Ctr.of cfg 10 182 (Int) (fun x=>[su x]) (.one Bool) (fun r=>.ret (sb r)) (fun x=>g_cmp_isNaN_IP x) (fun x=>by kernel_rfl)
def g_cmp_Compare_IP(x1:Int)(x2:Int):G prog (Sh.El (.one Int)):=
 .skip 2<|.call c_cmp_isNaN_IP x1 fun(r3:Bool)=>.skip 2<|.call c_cmp_isNaN_IP x2 fun(r4:Bool)=>.skip 2<|.br 11 r3 (.skip 2<|.br 12 r4 (.skip 2<|.done [] (0:Int)) (.skip 2<|.done [] (-(1:Int)))) (.skip 2<|.br 13 r4 (.skip 2<|.done [] (1:Int)) (.skip 4<|.br 16 (decide (x1<x2)) (.skip 2<|.done [] (-(1:Int))) (.skip 4<|.br 19 (decide (x1>x2)) (.skip 2<|.done [] (1:Int)) (.skip 2<|.done [] (0:Int)))))
def c_cmp_Compare_IP:Ctr prog:=Ctr.of cfg 10 117 (Int×Int) (fun x=>[su x.1,su x.2]) (.one Int) (fun r=>.ret (si r)) (fun x=>g_cmp_Compare_IP x.1 x.2) (fun x=>by kernel_rfl)
def g_cmp_Or_int(x1:(List Int)):G prog (Sh.El (.one Int)):=
 .skip 3<|.op (lenO x1 (eI .i64)) fun _=>.skip 1<|.loop (.two (.one Int) (.one Unit)) [.keep [3,6,7,8]] (fun(a:Int)=>⟨(ap [.junk,.junk,.junk,(si 0),.junk,.junk,(.lst (List.map (eI .i64) x1)),(si (x1.length:Int)),si a] (jl 9)),[],[]⟩)
  (Sum.elim (fun(t:Int)=>(.ret,⟨(ap [.junk,.junk,si t] (jl 15)),[],[]⟩)) (fun(_:Unit)=>(.exit 0,⟨(ap [.junk,.junk,.junk,(si 0)] (jl 14)),[],[]⟩))) (0:Int)
  (fun(a2:Int)=>.skip 1<|.br 9 (decide (a2<(x1.length:Int))) (.skip 1<|.op (idxO x1 (eI .i64) 1 a2) fun x3=>.skip 5<|.br 14 (x3 != 0) (.skip 3<|.done [.keep [2]] (.inr (.inl x3))) (.skip 3<|.done [.keep [3,6,7,8]] (.inl (IntKind.wrap .i64 (a2+1))))) (.skip 1<|.done [.keep [3]] (.inr (.inr ()))))
  (Sum.elim (fun(t7:Int)=>.done [] t7) (fun _=>.skip 2<|.done [] (0:Int)))
def c_cmp_Or_int:Ctr prog:=Ctr.of cfg 10 110 ((List Int)) (fun x=>[.lst (x.map (eI .i64))]) (.one Int) (fun r=>.ret (si r)) (fun x=>g_cmp_Or_int x) (fun x=>by kernel_rfl)
def g_nlri_Compare(x1:NLRI)(x2:NLRI):G prog (Sh.El (.one Int)):=
 .skip 4<|.call c_nlri_Key x1 fun(r3:NLRI)=>.skip 1<|.call c_nlri_Key x2 fun(r4:NLRI)=>.skip 6<|.call c_cmp_Compare_int (r3.Kind,r4.Kind) fun(r5:Int)=>.skip 4<|.call c_cmp_Compare_uint64 (r3.RD,r4.RD) fun(r6:Int)=>.skip 4<|.call c_addr_CompareESI (r3.ESI,r4.ESI) fun(r7:Int)=>.skip 4<|.call c_cmp_Compare_uint32 (r3.Tag,r4.Tag) fun(r8:Int)=>.skip 4<|.call c_cmp_Compare_MAC (r3.MAC,r4.MAC) fun(r9:Int)=>.skip 4<|.call c_nlri_order (r3.HasIP,r4.HasIP) fun(r10:Int)=>.skip 4<|.call c_cmp_Compare_IP (r3.IP,r4.IP) fun(r11:Int)=>.skip 6<|.call c_cmp_Compare_IP (r3.Prefix.IP,r4.Prefix.IP) fun(r12:Int)=>.skip 6<|.call c_cmp_Compare_int (r3.Prefix.Len,r4.Prefix.Len) fun(r13:Int)=>.skip 4<|.call c_cmp_Compare_IP (r3.Gateway,r4.Gateway) fun(r14:Int)=>.skip 1<|.call c_cmp_Or_int [r5,r6,r7,r8,r9,r10,r11,r12,r13,r14] fun(r15:Int)=>.skip 1<|.done [] r15
def c_nlri_Compare:Ctr prog:=Ctr.of cfg 10 59 (NLRI×NLRI) (fun x=>[.agg (eNLRI x.1),.agg (eNLRI x.2)]) (.one Int) (fun r=>.ret (si r)) (fun x=>g_nlri_Compare x.1 x.2) (fun x=>by kernel_rfl)
end
end Go.L
end
