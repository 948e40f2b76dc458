/- The library's sort of ints, laid at this program, as a contract. No conditions. -/
import Derived.Test.YtpgpmlaafigpaaaGreatDoorWBg
import Derived.Test.YtpgpmlaafigpaaaGreatDoorAe
namespace Go.Proofs
open Go.Shelf
set_option maxRecDepth 100000
def Tryz.JK:Shelf.Ren where
 f:=fun x=>match x with
  | 5=>167
  | 8=>191
  | 7=>250
  | 19=>280
  | 20=>281
  | 10=>323
  | 11=>324
  | 12=>325
  | 13=>326
  | 14=>327
  | 15=>328
  | 16=>329
  | 17=>330
  | 18=>331
  | 30=>392
  | 31=>363
  | 32=>364
  | 33=>393
  | 34=>394
  | 35=>192
  | 40=>420
  |n=>n
 t:=fun x=>match x with
  | 23=>45
  | 25=>3
  | 3=>3
  | 32=>171
  | 22=>45
  | 0=>0
  | 44=>26
  | 46=>23
  | 4=>4
  | 36=>358
  | 35=>357
  | 41=>219
  | 5=>5
  | 9=>9
  | 53=>424
  | 57=>428
  | 63=>463
  | 64=>464
  |n=>n
 g:=fun n=>n
theorem Tryz.Wm:SlLaysM.n5 Tryz.prog Tryz.JK where
 mixed:=by kernel_rfl
 f5 := ⟨"slices.Sort[[]int,int]", of_decide_eq_true (by kernel_rfl), Eq.trans Tryz.func167 (by kernel_rfl)⟩
 f7 := ⟨"slices.pdqsortOrdered[int]", of_decide_eq_true (by kernel_rfl), Eq.trans Tryz.func250 (by kernel_rfl)⟩
 f8:=Eq.trans Tryz.func191 (by kernel_rfl)
 f10 := ⟨"slices.insertionSortOrdered[int]", of_decide_eq_true (by kernel_rfl), Eq.trans Tryz.func323 (by kernel_rfl)⟩
 f11 := ⟨"slices.heapSortOrdered[int]", of_decide_eq_true (by kernel_rfl), Eq.trans Tryz.func324 (by kernel_rfl)⟩
 f12 := ⟨"slices.breakPatternsOrdered[int]", of_decide_eq_true (by kernel_rfl), Eq.trans Tryz.func325 (by kernel_rfl)⟩
 f13 := ⟨"slices.choosePivotOrdered[int]", of_decide_eq_true (by kernel_rfl), Eq.trans Tryz.func326 (by kernel_rfl)⟩
 f14 := ⟨"slices.reverseRangeOrdered[int]", of_decide_eq_true (by kernel_rfl), Eq.trans Tryz.func327 (by kernel_rfl)⟩
 f15 := ⟨"slices.partialInsertionSortOrdered[int]", of_decide_eq_true (by kernel_rfl), Eq.trans Tryz.func328 (by kernel_rfl)⟩
 f16 := ⟨"cmp.Less[int]", of_decide_eq_true (by kernel_rfl), Eq.trans Tryz.func329 (by kernel_rfl)⟩
 f17 := ⟨"slices.partitionEqualOrdered[int]", of_decide_eq_true (by kernel_rfl), Eq.trans Tryz.func330 (by kernel_rfl)⟩
 f18 := ⟨"slices.partitionOrdered[int]", of_decide_eq_true (by kernel_rfl), Eq.trans Tryz.func331 (by kernel_rfl)⟩
 f19:=Eq.trans Tryz.func280 (by kernel_rfl)
 f20:=Eq.trans Tryz.func281 (by kernel_rfl)
 f30 := ⟨"slices.siftDownOrdered[int]", of_decide_eq_true (by kernel_rfl), Eq.trans Tryz.func392 (by kernel_rfl)⟩
 f31:=Eq.trans Tryz.func363 (by kernel_rfl)
 f32:=Eq.trans Tryz.func364 (by kernel_rfl)
 f33 := ⟨"slices.medianAdjacentOrdered[int]", of_decide_eq_true (by kernel_rfl), Eq.trans Tryz.func393 (by kernel_rfl)⟩
 f34 := ⟨"slices.medianOrdered[int]", of_decide_eq_true (by kernel_rfl), Eq.trans Tryz.func394 (by kernel_rfl)⟩
 f35 := ⟨"cmp.isNaN[int]", of_decide_eq_true (by kernel_rfl), Eq.trans Tryz.func192 (by kernel_rfl)⟩
 f40 := ⟨"slices.order2Ordered[int]", of_decide_eq_true (by kernel_rfl), Eq.trans Tryz.func420 (by kernel_rfl)⟩
 t0:=Tryz.underlying0
 a0:=Tryz.isAgg0
 z0:=Tryz.sizeOf0
 v0:=Tryz.zeroValue0
 t3:=Tryz.underlying3
 a3:=Tryz.isAgg3
 z3:=Tryz.sizeOf3
 v3:=Tryz.zeroValue3
 t4:=Tryz.underlying4
 a4:=Tryz.isAgg4
 z4:=Tryz.sizeOf4
 v4:=Tryz.zeroValue4
 t5:=Tryz.underlying5
 a5:=Tryz.isAgg5
 z5:=Tryz.sizeOf5
 v5:=Tryz.zeroValue5
 t9:=Tryz.underlying9
 a9:=Tryz.isAgg9
 z9:=Tryz.sizeOf9
 v9:=Tryz.zeroValue9
 t22:=Tryz.underlying45
 a22:=Tryz.isAgg45
 z22:=Tryz.sizeOf45
 v22:=Tryz.zeroValue45
 t23:=Tryz.underlying45
 a23:=Tryz.isAgg45
 z23:=Tryz.sizeOf45
 v23:=Tryz.zeroValue45
 t25:=Tryz.underlying3
 a25:=Tryz.isAgg3
 z25:=Tryz.sizeOf3
 v25:=Tryz.zeroValue3
 t32:=Tryz.underlying171
 a32:=Tryz.isAgg171
 z32:=Tryz.sizeOf171
 v32:=Tryz.zeroValue171
 t35:=Tryz.underlying357
 a35:=Tryz.isAgg357
 z35:=Tryz.sizeOf357
 v35:=Tryz.zeroValue357
 t36:=Tryz.underlying358
 a36:=Tryz.isAgg358
 z36:=Tryz.sizeOf358
 v36:=Tryz.zeroValue358
 t41:=Tryz.underlying219
 a41:=Tryz.isAgg219
 z41:=Tryz.sizeOf219
 v41:=Tryz.zeroValue219
 t44:=Tryz.underlying26
 a44:=Tryz.isAgg26
 z44:=Tryz.sizeOf26
 v44:=Tryz.zeroValue26
 t46:=Tryz.underlying23
 a46:=Tryz.isAgg23
 z46:=Tryz.sizeOf23
 v46:=Tryz.zeroValue23
 t53:=Tryz.underlying424
 a53:=Tryz.isAgg424
 z53:=Tryz.sizeOf424
 v53:=Tryz.zeroValue424
 t57:=Tryz.underlying428
 a57:=Tryz.isAgg428
 z57:=Tryz.sizeOf428
 v57:=Tryz.zeroValue428
 t63:=Tryz.underlying463
 a63:=Tryz.isAgg463
 z63:=Tryz.sizeOf463
 v63:=Tryz.zeroValue463
 t64:=Tryz.underlying464
 a64:=Tryz.isAgg464
 z64:=Tryz.sizeOf464
 v64:=Tryz.zeroValue464
end Go.Proofs
namespace Go.L
open Go.AM
set_option maxRecDepth 100000
set_option linter.unusedVariables false
def Pr(l:List Int):Option (List Int):=if l.length<4611686018427387904 then some (l.mergeSort Sn.le)else none
theorem Rh : ∃ fn c, prog.funcs[167]? = some fn ∧ fn.body = some c ∧ fn.name ≠ "runtime.NumGoroutine" := by
 have h : (match prog.funcs[167]? with | some fn => fn.body.isSome && fn.name != "runtime.NumGoroutine" | none => false) = true := by kernel_rfl
 cases hf:prog.funcs[167]? with
 |none=>rw[hf]at h;cases h
 |some fn=>
  rw[hf]at h;simp only[Bool.and_eq_true,bne_iff_ne,ne_eq]at h;obtain⟨c,hc⟩:=Option.isSome_iff_exists.1 h.1;exact⟨fn,c,rfl,hc,h.2⟩
theorem S5(n:Nat)(x r:List Int)(h:Pr x=some r):bz prog 167 [.sl 0 0 1 0 x.length] [.row 0 1 (x.map (eI .i64))] (.ret (.cw [])) [.row 0 1 (r.map (eI .i64))]:=by
 unfold Pr at h;split at h
 ·rename_i hl;simp only[Option.some.injEq]at h;subst h;exact Sn.M4 (ρ:=Go.Proofs.Tryz.JK) Go.Proofs.Tryz.Wm Rh x hl
 ·cases h
noncomputable def A0:cD prog:={f:=167,X:=List Int,args:=fun x=>[.sl 0 0 1 0 (List.length x)],blk:=fun x=>.row 0 1 (x.map (eI .i64)),sh:=.one (List Int),out:=fun(_:List Int)=>.ret (.cw []),o5:=fun _ (r:List Int)=>.row 0 1 (r.map (eI .i64)),S:=fun _ x=>Pr x,a0:=fun _=>rfl,b0:=fun x=>by simp[aa.jt,eI,AVal.aT,AVal.pure],b1:=fun _ (r:List Int)=>.inl (by simp[aa.jt,eI,AVal.aT,AVal.pure]),r0:=fun _=>rfl,ok:=fun n x r h=>S5 n x r h}
end Go.L
