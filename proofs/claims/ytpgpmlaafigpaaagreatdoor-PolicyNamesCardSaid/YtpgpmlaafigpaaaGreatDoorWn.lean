/- Put together out of parts. No conditions. -/
import Derived.Test.YtpgpmlaafigpaaaGreatDoorWi
import Derived.Test.YtpgpmlaafigpaaaGreatDoorAmSh
import Derived.Test.YtpgpmlaafigpaaaGreatDoorAmSo
import Derived.Lib.SlicesCompact
import Derived.Test.YtpgpmlaafigpaaaGreatDoorAmZ
/- What the functions compute, each told by a guide that the kernel checks against the program. No conditions. -/
namespace Go.L
open Go.AM
set_option maxRecDepth 100000
set_option linter.unusedVariables false
set_option linter.unusedSimpArgs false

def cfgP : Cfg := { val := fun f => ![113,114,115,116,117,118,119,126,196,197,198,102,103,104,105,187,188,189,270,106,190,272,273,274,275,276,277,278,279,362,363,364,365,366,136,137,138,139,215,213,290,214,291,373,374,375,376,377,378,379,380,77,78,168,166,249,167,250,323,324,325,326,327,328,330,331,392,393,394,162,246,315,316,317,318,319,320,321,322,389,390,391,161,381,382,289,288,360,163,254,257,84,79,80,85,175,176,253,18,333,395,256].contains f, kill := fun _ _ => [] }
end Go.L
/- comm.Sort, told by guides on the library's sort and Compact. No conditions. -/
namespace Go.Proofs
open Go.Shelf
set_option maxRecDepth 100000
def Tryz.sortK_ren : Shelf.Ren where
  f := fun x => match x with
    | 6 => 254
    | 15 => 191
    | 14 => 333
    | 28 => 280
    | 29 => 281
    | 20 => 395
    | 21 => 396
    | 22 => 397
    | 23 => 398
    | 24 => 399
    | 25 => 400
    | 26 => 401
    | 27 => 402
    | 46 => 421
    | 47 => 363
    | 48 => 364
    | 49 => 422
    | 50 => 423
    | 57 => 427
    | n => n
  t := fun x => match x with
    | 22 => 35
    | 24 => 60
    | 25 => 269
    | 3 => 3
    | 39 => 171
    | 0 => 0
    | 53 => 26
    | 55 => 23
    | 4 => 4
    | 46 => 358
    | 45 => 357
    | 50 => 219
    | 5 => 5
    | 9 => 9
    | 66 => 424
    | 70 => 428
    | 76 => 463
    | 77 => 464
    | n => n
  g := fun n => n
theorem Tryz.sortK : SlLaysF0.n6 Tryz.prog Tryz.sortK_ren where
  mixed := by kernel_rfl
  f6 := ⟨"slices.SortFunc[[]leafmesh/api.Comm,leafmesh/api.Comm]", of_decide_eq_true (by kernel_rfl), Eq.trans Tryz.func254 (by kernel_rfl)⟩
  f14 := ⟨"slices.pdqsortCmpFunc[leafmesh/api.Comm]", of_decide_eq_true (by kernel_rfl), Eq.trans Tryz.func333 (by kernel_rfl)⟩
  f15 := Eq.trans Tryz.func191 (by kernel_rfl)
  f20 := ⟨"slices.insertionSortCmpFunc[leafmesh/api.Comm]", of_decide_eq_true (by kernel_rfl), Eq.trans Tryz.func395 (by kernel_rfl)⟩
  f21 := ⟨"slices.heapSortCmpFunc[leafmesh/api.Comm]", of_decide_eq_true (by kernel_rfl), Eq.trans Tryz.func396 (by kernel_rfl)⟩
  f22 := ⟨"slices.breakPatternsCmpFunc[leafmesh/api.Comm]", of_decide_eq_true (by kernel_rfl), Eq.trans Tryz.func397 (by kernel_rfl)⟩
  f23 := ⟨"slices.choosePivotCmpFunc[leafmesh/api.Comm]", of_decide_eq_true (by kernel_rfl), Eq.trans Tryz.func398 (by kernel_rfl)⟩
  f24 := ⟨"slices.reverseRangeCmpFunc[leafmesh/api.Comm]", of_decide_eq_true (by kernel_rfl), Eq.trans Tryz.func399 (by kernel_rfl)⟩
  f25 := ⟨"slices.partialInsertionSortCmpFunc[leafmesh/api.Comm]", of_decide_eq_true (by kernel_rfl), Eq.trans Tryz.func400 (by kernel_rfl)⟩
  f26 := ⟨"slices.partitionEqualCmpFunc[leafmesh/api.Comm]", of_decide_eq_true (by kernel_rfl), Eq.trans Tryz.func401 (by kernel_rfl)⟩
  f27 := ⟨"slices.partitionCmpFunc[leafmesh/api.Comm]", of_decide_eq_true (by kernel_rfl), Eq.trans Tryz.func402 (by kernel_rfl)⟩
  f28 := Eq.trans Tryz.func280 (by kernel_rfl)
  f29 := Eq.trans Tryz.func281 (by kernel_rfl)
  f46 := ⟨"slices.siftDownCmpFunc[leafmesh/api.Comm]", of_decide_eq_true (by kernel_rfl), Eq.trans Tryz.func421 (by kernel_rfl)⟩
  f47 := Eq.trans Tryz.func363 (by kernel_rfl)
  f48 := Eq.trans Tryz.func364 (by kernel_rfl)
  f49 := ⟨"slices.medianAdjacentCmpFunc[leafmesh/api.Comm]", of_decide_eq_true (by kernel_rfl), Eq.trans Tryz.func422 (by kernel_rfl)⟩
  f50 := ⟨"slices.medianCmpFunc[leafmesh/api.Comm]", of_decide_eq_true (by kernel_rfl), Eq.trans Tryz.func423 (by kernel_rfl)⟩
  f57 := ⟨"slices.order2CmpFunc[leafmesh/api.Comm]", of_decide_eq_true (by kernel_rfl), Eq.trans Tryz.func427 (by kernel_rfl)⟩
  t0 := Tryz.underlying0
  a0 := Tryz.isAgg0
  z0 := Tryz.sizeOf0
  v0 := Tryz.zeroValue0
  t3 := Tryz.underlying3
  a3 := Tryz.isAgg3
  z3 := Tryz.sizeOf3
  v3 := Tryz.zeroValue3
  t4 := Tryz.underlying4
  a4 := Tryz.isAgg4
  z4 := Tryz.sizeOf4
  v4 := Tryz.zeroValue4
  t5 := Tryz.underlying5
  a5 := Tryz.isAgg5
  z5 := Tryz.sizeOf5
  v5 := Tryz.zeroValue5
  t9 := Tryz.underlying9
  a9 := Tryz.isAgg9
  z9 := Tryz.sizeOf9
  v9 := Tryz.zeroValue9
  t22 := Tryz.underlying35
  a22 := Tryz.isAgg35
  z22 := Tryz.sizeOf35
  v22 := Tryz.zeroValue35
  t25 := Tryz.underlying269
  a25 := Tryz.isAgg269
  z25 := Tryz.sizeOf269
  v25 := Tryz.zeroValue269
  t39 := Tryz.underlying171
  a39 := Tryz.isAgg171
  z39 := Tryz.sizeOf171
  v39 := Tryz.zeroValue171
  t45 := Tryz.underlying357
  a45 := Tryz.isAgg357
  z45 := Tryz.sizeOf357
  v45 := Tryz.zeroValue357
  t46 := Tryz.underlying358
  a46 := Tryz.isAgg358
  z46 := Tryz.sizeOf358
  v46 := Tryz.zeroValue358
  t50 := Tryz.underlying219
  a50 := Tryz.isAgg219
  z50 := Tryz.sizeOf219
  v50 := Tryz.zeroValue219
  t53 := Tryz.underlying26
  a53 := Tryz.isAgg26
  z53 := Tryz.sizeOf26
  v53 := Tryz.zeroValue26
  t55 := Tryz.underlying23
  a55 := Tryz.isAgg23
  z55 := Tryz.sizeOf23
  v55 := Tryz.zeroValue23
  t66 := Tryz.underlying424
  a66 := Tryz.isAgg424
  z66 := Tryz.sizeOf424
  v66 := Tryz.zeroValue424
  t70 := Tryz.underlying428
  a70 := Tryz.isAgg428
  z70 := Tryz.sizeOf428
  v70 := Tryz.zeroValue428
  t76 := Tryz.underlying463
  a76 := Tryz.isAgg463
  z76 := Tryz.sizeOf463
  v76 := Tryz.zeroValue463
  t77 := Tryz.underlying464
  a77 := Tryz.isAgg464
  z77 := Tryz.sizeOf464
  v77 := Tryz.zeroValue464
end Go.Proofs
namespace Go.L
open Go.AM Go.Proofs Go.Sort
set_option maxRecDepth 100000
set_option linter.unusedVariables false
set_option linter.unusedSimpArgs false

/- leafmesh/comm.Sort$1 -/
noncomputable def g_comm_Sort_1 (x1 : (Go.AM.V8 Int)) (x2 : (Go.AM.V8 Int)) : G prog (Sh.El (.one Int)) :=
  .skip 5 <| .inl [] <| .skip 5 <| .tidy [] <| .inl [] <| .skip 1 <| .done [] (Go.Lib.compareBytes (Go.Lib.bytesOf [x1.a0, x1.a1, x1.a2, x1.a3, x1.a4, x1.a5, x1.a6, x1.a7]) (Go.Lib.bytesOf [x2.a0, x2.a1, x2.a2, x2.a3, x2.a4, x2.a5, x2.a6, x2.a7]))
noncomputable def c_comm_Sort_1 : Ctr prog := Ctr.of cfgP 10 255 ((Go.AM.V8 Int) × (Go.AM.V8 Int)) (fun x => [.agg ((eV8 (cI .u8)) x.1), .agg ((eV8 (cI .u8)) x.2)]) (.one Int) (fun r => .ret (.sc (.int .i64 r))) (fun x => g_comm_Sort_1 x.1 x.2) (fun x => by kernel_rfl)


def encV8 (x : V8 Int) : List Value := [.int .u8 x.a0, .int .u8 x.a1, .int .u8 x.a2, .int .u8 x.a3, .int .u8 x.a4, .int .u8 x.a5, .int .u8 x.a6, .int .u8 x.a7]
def byV8 (x : V8 Int) : List UInt8 := Lib.bytesOf [x.a0, x.a1, x.a2, x.a3, x.a4, x.a5, x.a6, x.a7]
def cfC (x y : V8 Int) : Int := Lib.compareBytes (byV8 x) (byV8 y)
instance inhV8 : Inhabited (V8 Int) := ⟨⟨0, 0, 0, 0, 0, 0, 0, 0⟩⟩
theorem cmpB_lt : ∀ (a b : List UInt8), Lib.compareBytes a b < 0 ↔ a < b
  | [], [] => by simp [Lib.compareBytes]
  | [], _ :: _ => by simp [Lib.compareBytes]
  | _ :: _, [] => by simp [Lib.compareBytes]
  | a :: ar, b :: br => by
    rw [Lib.compareBytes, List.cons_lt_cons_iff]
    by_cases h : a < b
    · simp [h]
    · rw [if_neg h]
      by_cases h' : b < a
      · rw [if_pos h']
        have hne : a ≠ b := fun e => by subst e; exact h h'
        simp [h, hne]
      · rw [if_neg h']
        have he : a = b := UInt8.le_antisymm (UInt8.not_lt.1 h') (UInt8.not_lt.1 h)
        subst he
        simp [cmpB_lt ar br]
theorem ltC_iff (x y : V8 Int) : ltOf cfC x y = true ↔ byV8 x < byV8 y := by
  simp only [ltOf, decide_eq_true_eq, cfC, cmpB_lt]
theorem ltC_swo : SWO (ltOf cfC) where
  irrefl := fun x => by
    have := mt (ltC_iff x x).1 (List.lt_irrefl _)
    simpa using this
  trans := fun x y z h1 h2 => (ltC_iff x z).2 (List.lt_trans ((ltC_iff x y).1 h1) ((ltC_iff y z).1 h2))
  ntrans := fun x y z h1 h2 => by
    have e : ∀ a b, ltOf cfC a b = false ↔ byV8 b ≤ byV8 a := fun a b => by
      rw [← List.not_lt, ← ltC_iff]; simp
    rw [e] at h1 h2 ⊢
    exact List.le_trans h2 h1
theorem sortC_cmp (x y : V8 Int) : FnVal prog 255 [.agg (encA encV8 x), .agg (encA encV8 y)] (.ret (.sc (.int .i64 (cfC x y)))) := by
  have h : c_comm_Sort_1.S 0 (x, y) = some (cfC x y) := by kernel_rfl
  exact c_comm_Sort_1.ok 0 (x, y) (cfC x y) h
noncomputable def sortCv (l : List (V8 Int)) : List (V8 Int) := (pdq (ltOf cfC) l.toArray 0 l.length (Lib.bitLen l.length) true true).toList
theorem sortC_ref (l : List (V8 Int)) (hsz : l.length < 4611686018427387904) :
    FnRef prog 254 [.sl 0 0 8 0 l.length, .fn (.func 255) [] []] [.row 0 8 (l.map (eV8 (cI .u8)))] (.ret nothing) [.row 0 8 ((sortCv l).map (eV8 (cI .u8)))] :=
  sortFunc_ref (P := prog) (ρ := Tryz.sortK_ren) Tryz.sortK (gf := 255) (enc := encV8) (k := 8) (fun _ => rfl) (by omega) (fun x v hv => by
    simp only [encV8, List.mem_cons, List.not_mem_nil, or_false] at hv
    rcases hv with h | h | h | h | h | h | h | h <;> subst h <;> rfl) (cf := cfC) ltC_swo Tryz.isAgg60 Tryz.sizeOf60 (fun args w => by
    simp [callFunc, Tryz.func255]; rfl) ⟨Tryz.f254, _, Tryz.func254, rfl, by decide⟩ sortC_cmp l hsz
theorem fnRef_tup0 {f : FuncId} {a : List AVal} {H H1 : List ABlk} (h : FnRef prog f a H (.ret nothing) H1) : FnRef prog f a H (.ret (.tup [])) H1 :=
  ⟨h.1, fun g w vs hi hl => (h.2 g w vs hi hl).mono fun e w' ⟨g', h1, h2, x, h3, h4⟩ => ⟨g', h1, h2, x, h3, by
    simp only [nothing, R] at h4
    subst h4
    simp [R, RL]⟩⟩
noncomputable def sortCS (x : List (V8 Int) × Nat) : Option (List (V8 Int)) := if x.2 = x.1.length ∧ x.1.length < 4611686018427387904 then some (sortCv x.1) else none
theorem sortCS_ok (x : List (V8 Int) × Nat) (r : List (V8 Int)) (h : sortCS x = some r) : FnRef prog 254 [.sl 0 0 8 0 x.2, .fn (.func 255) [] []] [.row 0 8 (x.1.map (eV8 (cI .u8)))] (.ret (.tup [])) [.row 0 8 (r.map (eV8 (cI .u8)))] := by
  unfold sortCS at h
  split at h
  · rename_i hc
    cases h
    rw [hc.1]
    exact fnRef_tup0 (sortC_ref x.1 hc.2)
  · cases h
noncomputable def c_slices_SortFunc_Comm_Comm : Ctr1 prog := { f := 254, X := List (V8 Int) × Nat, args := fun x => [.sl 0 0 8 0 x.2, .fn (.func 255) [] []], blk := fun x => .row 0 8 (x.1.map (eV8 (cI .u8))), sh := .one (List (V8 Int)), out := fun (_ : List (V8 Int)) => .ret (.tup []), outB := fun _ (r : List (V8 Int)) => .row 0 8 (r.map (eV8 (cI .u8))), S := fun _ x => sortCS x, a0 := fun _ => rfl, b0 := fun x => by simp [ABlk.row0, eV8, cI, AVal.pureL, AVal.pure], b1 := fun _ (r : List (V8 Int)) => .inl (by simp [ABlk.row0, eV8, cI, AVal.pureL, AVal.pure]), r0 := fun _ => rfl, ok := fun _ x r h => sortCS_ok x r h }
/- slices.Compact[[]leafmesh/api.Comm,leafmesh/api.Comm] -/
noncomputable def g_slices_Compact_Comm_Comm (x1 : (List (Go.AM.V8 Int))) (x2 : Nat) : G prog (Sh.El (.one (Prod Nat (List (Go.AM.V8 Int))))) :=
  .skip 4 <| .br 8 (decide (((x2 : Nat) : Int) < (2 : Int))) (.skip 3 <| .done [] (x2, x1)) (.skip 2 <| .loop (.two (.one (Prod Nat (List (Go.AM.V8 Int)))) (.one Unit)) [.keep [0, 3]] (fun (a : Int) => ⟨(ap [(.sl 0 0 8 0 x2), .junk, .junk, .sc (.int .i64 a)] (jl 57)), [(.row 0 8 (List.map (Go.AM.eV8 (Go.AM.cI .u8)) x1))], []⟩)
    (Sum.elim (fun (t : (Prod Nat (List (Go.AM.V8 Int)))) => (.ret, ⟨(ap [.junk, .junk, .sl 0 0 8 0 t.1] (jl 58)), [.row 0 8 (t.2.map (eV8 (cI .u8)))], []⟩)) (fun (_ : Unit) => (.exit 0, ⟨(ap [(.sl 0 0 8 0 x2)] (jl 60)), [(.row 0 8 (List.map (Go.AM.eV8 (Go.AM.cI .u8)) x1))], []⟩))) (1 : Int)
    (fun (a4 : Int) => .skip 4 <| .br 13 (decide (a4 < ((x2 : Nat) : Int))) (.skip 3 <| .op (idxS x2 8 0 0 a4) fun _ => .op (ldO x1 (Go.AM.eV8 (Go.AM.cI .u8)) 8 0 0 (Int.toNat a4) 0 fun v => .agg ((eV8 (cI .u8)) v)) fun x5 => .skip 3 <| .op (idxS x2 8 0 0 (Go.IntKind.wrap .i64 (a4 - (1 : Int)))) fun _ => .op (ldO x1 (Go.AM.eV8 (Go.AM.cI .u8)) 8 0 0 (Int.toNat (Go.IntKind.wrap .i64 (a4 - (1 : Int)))) 0 fun v => .agg ((eV8 (cI .u8)) v)) fun x6 => .skip 1 <| .br 25 ((x5.a0 == x6.a0) && ((x5.a1 == x6.a1) && ((x5.a2 == x6.a2) && ((x5.a3 == x6.a3) && ((x5.a4 == x6.a4) && ((x5.a5 == x6.a5) && ((x5.a6 == x6.a6) && ((x5.a7 == x6.a7) && true)))))))) (.skip 3 <| .op (slcL x2 8 0 0 0 a4) fun h7 => .skip 2 <| .loop (.one (Prod Int (List (Go.AM.V8 Int)))) [.keep [0, 3, 4, 5]] (fun (a : (Prod Int (Prod Int (List (Go.AM.V8 Int))))) => ⟨(ap [(.sl 0 0 8 0 x2), .junk, .junk, .sc (.int .i64 a.1), (.sl 0 0 8 (0 + h7) (x2 - h7)), .sc (.int .i64 a.2.1)] (jl 55)), [.row 0 8 (a.2.2.map (eV8 (cI .u8)))], []⟩)
    (fun (t : (Prod Int (List (Go.AM.V8 Int)))) => (.exit 2, ⟨(ap [(.sl 0 0 8 0 x2), .junk, .junk, .sc (.int .i64 t.1)] (jl 57)), [.row 0 8 (t.2.map (eV8 (cI .u8)))], []⟩)) (a4, (1 : Int), x1)
    (fun (a16 : (Prod Int (Prod Int (List (Go.AM.V8 Int))))) => .skip 4 <| .br 32 (decide (a16.2.1 < (((x2 - h7) : Nat) : Int))) (.skip 3 <| .op (idxP ((x2 - h7)) 8 0 0 ((0 + h7)) a16.2.1) fun _ => .op (ldO a16.2.2 (Go.AM.eV8 (Go.AM.cI .u8)) 8 0 0 ((0 + h7) + (Int.toNat a16.2.1)) 0 fun v => .agg ((eV8 (cI .u8)) v)) fun x17 => .skip 3 <| .op (idxP ((x2 - h7)) 8 0 0 ((0 + h7)) (Go.IntKind.wrap .i64 (a16.2.1 - (1 : Int)))) fun _ => .op (ldO a16.2.2 (Go.AM.eV8 (Go.AM.cI .u8)) 8 0 0 ((0 + h7) + (Int.toNat (Go.IntKind.wrap .i64 (a16.2.1 - (1 : Int))))) 0 fun v => .agg ((eV8 (cI .u8)) v)) fun x18 => .skip 1 <| .br 44 (!((x17.a0 == x18.a0) && ((x17.a1 == x18.a1) && ((x17.a2 == x18.a2) && ((x17.a3 == x18.a3) && ((x17.a4 == x18.a4) && ((x17.a5 == x18.a5) && ((x17.a6 == x18.a6) && ((x17.a7 == x18.a7) && true))))))))) (.skip 5 <| .op (idxP ((x2 - h7)) 8 0 0 ((0 + h7)) a16.2.1) fun _ => .op (ldO a16.2.2 (Go.AM.eV8 (Go.AM.cI .u8)) 8 0 0 ((0 + h7) + (Int.toNat a16.2.1)) 0 fun v => .agg ((eV8 (cI .u8)) v)) fun x19 => .op (idxS x2 8 0 0 a16.1) fun _ => .op (stO a16.2.2 (Go.AM.eV8 (Go.AM.cI .u8)) 8 0 0 (Int.toNat a16.1) 0 fun v => x19) fun x20 => .skip 6 <| .done [.keep [0, 3, 4, 5]] (.inl ((Go.IntKind.wrap .i64 (a16.1 + (1 : Int))), (Go.IntKind.wrap .i64 (a16.2.1 + (1 : Int))), (List.set a16.2.2 (Int.toNat a16.1) x19)))) (.skip 4 <| .done [.keep [0, 3, 4, 5]] (.inl (a16.1, (Go.IntKind.wrap .i64 (a16.2.1 + (1 : Int))), a16.2.2)))) (.skip 1 <| .done [.keep [0, 3]] (.inr (a16.1, a16.2.2))))
    (fun (t24 : (Prod Int (List (Go.AM.V8 Int)))) => .skip 2 <| .op (slcL x2 8 0 0 0 t24.1) fun h25 => .op (clrP t24.2 ((@Go.AM.V8.mk Int (0 : Int) (0 : Int) (0 : Int) (0 : Int) (0 : Int) (0 : Int) (0 : Int) (0 : Int))) ((Go.AM.eV8 (Go.AM.cI .u8))) ((x2 - h25)) 8 0 0 ((0 + h25))) fun _ => .skip 2 <| .op (slcH x2 8 0 0 0 t24.1) fun h26 => .skip 1 <| .done [.keep [2]] (.inr (.inl (h26, (((List.take (0 + h25) t24.2) ++ (List.replicate (x2 - h25) (@Go.AM.V8.mk Int (0 : Int) (0 : Int) (0 : Int) (0 : Int) (0 : Int) (0 : Int) (0 : Int) (0 : Int)))) ++ (List.drop ((0 + h25) + (x2 - h25)) t24.2))))))) (.skip 4 <| .done [.keep [0, 3]] (.inl (Go.IntKind.wrap .i64 (a4 + (1 : Int)))))) (.skip 1 <| .done [.keep [0]] (.inr (.inr ()))))
    (Sum.elim (fun (t30 : (Prod Nat (List (Go.AM.V8 Int)))) => .done [] (t30.1, t30.2)) (fun _ => .skip 2 <| .done [] (x2, x1))))
noncomputable def c0_slices_Compact_Comm_Comm : Ctr1 prog := Ctr1.ofRows cfg 10 257 ((List (Go.AM.V8 Int)) × Nat) (fun x => [.sl 0 0 8 0 x.2]) (V8 Int) 8 (eV8 (cI .u8)) (fun x => x.1) (.one (Prod Nat (List (Go.AM.V8 Int)))) (fun r => .ret (.sl 0 0 8 0 r.1)) (fun r => r.2) (fun x => g_slices_Compact_Comm_Comm x.1 x.2) (fun _ => rfl) (fun _ => rfl) (fun _ => rfl) (fun x => by kernel_rfl)

noncomputable def c_slices_Compact_Comm_Comm : Ctr1 prog := c0_slices_Compact_Comm_Comm.shrink (V8 Int) 8 (eV8 (cI .u8)) (fun _ => rfl) (fun (r : Nat × List (V8 Int)) => r.1) (fun (r : Nat × List (V8 Int)) => r.2) (fun _ => rfl) (fun _ _ => rfl)
/- leafmesh/comm.Sort -/
noncomputable def g_comm_Sort (x1 : (List (Go.AM.V8 Int))) : G prog (Sh.El (.one (List (Go.AM.V8 Int)))) :=
  .skip 2 <| .inl [] <| .skip 2 <| .op (nilO x1 (Go.AM.eV8 (Go.AM.cI .u8)) true) fun _ => .skip 3 <| .op (appO 0 [] x1 (eV8 (cI .u8)) 8 8 0 0 1 []) fun _ => .skip 1 <| .tidy [.keep [2], .cut [0] [] [puRow 0 1 8 ([] ++ x1) (Go.AM.eV8 (Go.AM.cI .u8)) fun _ => rfl]] <| .inl [] <| .skip 2 <| .call1 c_slices_SortFunc_Comm_Comm 0 0 [] (([] ++ x1), (List.length ([] ++ x1))) fun (r2 : (List (Go.AM.V8 Int))) => .skip 1 <| .call1 c_slices_Compact_Comm_Comm 0 0 [] (r2, (List.length ([] ++ x1))) fun (r3 : (List (Go.AM.V8 Int))) => .skip 1 <| .done [.frz (fzRow (.s 2) 0 0 8 (List.length r3) r3 (Go.AM.eV8 (Go.AM.cI .u8)) fun _ => rfl)] r3
noncomputable def g0_comm_Sort : G prog (Sh.El (.one (List (Go.AM.V8 Int)))) :=
  .skip 2 <| .inl [] <| .skip 5 <| .tidy [] <| .inl [] <| .skip 2 <| .inl [] <| .skip 7 <| .call c_math_bits_Len (Go.IntKind.wrap .u64 (((0 : Nat) : Nat) : Int)) fun (r1 : Int) => .skip 1 <| .inl [] <| .skip 2 <| .unroll 300 <| .skip 11 <| .inl [] <| .skip 3 <| .unroll 300 <| .skip 4 <| .tidy [] <| .inl [] <| .tidy [] <| .inl [] <| .tidy [] <| .inl [] <| .skip 1 <| .inl [] <| .skip 7 <| .tidy [] <| .inl [] <| .skip 1 <| .done [] []
noncomputable def g1_comm_Sort : G prog (Sh.El (.one (List (Go.AM.V8 Int)))) :=
  .skip 2 <| .inl [] <| .skip 8 <| .tidy [.keep [2], .cut [0] [] []] <| .inl [] <| .skip 2 <| .call1 c_slices_SortFunc_Comm_Comm 0 0 [] ([], 0) fun (r1 : (List (Go.AM.V8 Int))) => .skip 1 <| .call1 c_slices_Compact_Comm_Comm 0 0 [] (r1, 0) fun (r2 : (List (Go.AM.V8 Int))) => .skip 1 <| .done [.frz (fzRow (.s 2) 0 0 8 (List.length r2) r2 (Go.AM.eV8 (Go.AM.cI .u8)) fun _ => rfl)] r2
theorem sortC_S (n : Nat) (x : List (V8 Int) × Nat) : c_slices_SortFunc_Comm_Comm.S n x = sortCS x := by kernel_rfl
theorem sortC_nil (n : Nat) : c_slices_SortFunc_Comm_Comm.S n (([] : List (V8 Int)), 0) = some ([] : List (V8 Int)) := by
  rw [sortC_S]
  unfold sortCS
  rw [if_pos ⟨rfl, by simp⟩]
  have := (pdq_sorts (ltOf cfC) ltC_swo (#[] : Array (V8 Int)) 0 0 (Lib.bitLen 0) true true (Nat.zero_le _) (Nat.zero_le _) (Or.inl rfl)).1.1
  have h0 : sortCv [] = [] := by
    unfold sortCv
    apply List.eq_nil_of_length_eq_zero
    simpa using this
  rw [h0]
theorem compC_S (n : Nat) (x : List (V8 Int) × Nat) : c_slices_Compact_Comm_Comm.S n x = ((g_slices_Compact_Comm_Comm x.1 x.2).run n).bind (fun r => if r.1 ≤ r.2.length then some (r.2.take r.1) else none) := by kernel_rfl
theorem compC_nil (n : Nat) : c_slices_Compact_Comm_Comm.S n (([] : List (V8 Int)), 0) = some ([] : List (V8 Int)) := by
  kernel_rfl
theorem sortC_nil_b (n : Nat) {β : Type} (k : c_slices_SortFunc_Comm_Comm.sh.El → Option β) : (c_slices_SortFunc_Comm_Comm.S n (([] : List (V8 Int)), 0)).bind k = k ([] : List (V8 Int)) := by rw [sortC_nil]; rfl
theorem compC_nil_b (n : Nat) {β : Type} (k : c_slices_Compact_Comm_Comm.sh.El → Option β) : (c_slices_Compact_Comm_Comm.S n (([] : List (V8 Int)), 0)).bind k = k ([] : List (V8 Int)) := by rw [compC_nil]; rfl
theorem run0_comm_Sort (n : Nat) : g0_comm_Sort.run n = some ([] : List (V8 Int)) := by kernel_rfl
theorem run1_comm_Sort (n : Nat) : g1_comm_Sort.run n = some ([] : List (V8 Int)) := by
  unfold g1_comm_Sort
  simp only [G.run, tsOk, if_true]
  rw [sortC_nil_b, compC_nil_b]
  rfl
noncomputable def c_comm_Sort : Ctr prog := Ctr.ofNil cfgP 10 177 (V8 Int) (eV8 (cI .u8)) (.one (List (Go.AM.V8 Int))) (fun r => .ret (.lst (r.map (eV8 (cI .u8))))) (fun x => g_comm_Sort x) g0_comm_Sort g1_comm_Sort [] (run0_comm_Sort 0) (run1_comm_Sort 0) (fun x => by kernel_rfl) (by kernel_rfl) (by kernel_rfl)

end Go.L
/- What the functions compute, each told by a guide that the kernel checks against the program. No conditions. -/
namespace Go.L
open Go.AM
set_option maxRecDepth 100000
set_option linter.unusedVariables false
set_option linter.unusedSimpArgs false

/- leafmesh/leafmeshkit.Same[leafmesh/api.Comm] -/
noncomputable def g_kit_Same_Comm (x1 : (List (Go.AM.V8 Int))) (x2 : (List (Go.AM.V8 Int))) : G prog (Sh.El (.one Bool)) :=
  .skip 2 <| .op (lenO x1 (Go.AM.eV8 (Go.AM.cI .u8))) fun _ => .skip 1 <| .op (lenO x2 (Go.AM.eV8 (Go.AM.cI .u8))) fun _ => .skip 1 <| .br 10 ((((List.length x1) : Nat) : Int) != (((List.length x2) : Nat) : Int)) (.skip 2 <| .done [] false) (.skip 2 <| .loop (.two (.one Unit) (.one Unit)) [.keep [0, 1, 5]] (fun (a : Int) => ⟨(ap [(.lst (List.map (Go.AM.eV8 (Go.AM.cI .u8)) x1)), (.lst (List.map (Go.AM.eV8 (Go.AM.cI .u8)) x2)), .junk, .junk, .junk, .sc (.int .i64 a)] (jl 20)), [], []⟩)
    (Sum.elim (fun (_ : Unit) => (.ret, ⟨(ap (jl 4) (ap [(.sc (.bool false))] (jl 21))), [], []⟩)) (fun (_ : Unit) => (.exit 0, ⟨(jl 26), [], []⟩))) (0 : Int)
    (fun (a4 : Int) => .skip 2 <| .op (lenO x1 (Go.AM.eV8 (Go.AM.cI .u8))) fun _ => .skip 1 <| .br 14 (decide (a4 < (((List.length x1) : Nat) : Int))) (.skip 3 <| .op (idxO x1 (Go.AM.eV8 (Go.AM.cI .u8)) 8 a4) fun x5 => .skip 3 <| .op (idxO x2 (Go.AM.eV8 (Go.AM.cI .u8)) 8 a4) fun x6 => .skip 2 <| .br 25 (!((x5.a0 == x6.a0) && ((x5.a1 == x6.a1) && ((x5.a2 == x6.a2) && ((x5.a3 == x6.a3) && ((x5.a4 == x6.a4) && ((x5.a5 == x6.a5) && ((x5.a6 == x6.a6) && ((x5.a7 == x6.a7) && true))))))))) (.skip 2 <| .done [.keep [4]] (.inr (.inl ()))) (.skip 4 <| .done [.keep [0, 1, 5]] (.inl (Go.IntKind.wrap .i64 (a4 + (1 : Int)))))) (.skip 1 <| .done [.keep []] (.inr (.inr ()))))
    (Sum.elim (fun _ => .done [] false) (fun _ => .skip 1 <| .done [] true)))
noncomputable def c_kit_Same_Comm : Ctr prog := Ctr.of cfgP 10 24 ((List (Go.AM.V8 Int)) × (List (Go.AM.V8 Int))) (fun x => [.lst (x.1.map (eV8 (cI .u8))), .lst (x.2.map (eV8 (cI .u8)))]) (.one Bool) (fun r => .ret (.sc (.bool r))) (fun x => g_kit_Same_Comm x.1 x.2) (fun x => by kernel_rfl)
end Go.L
/- What the functions compute, each told by a guide that the kernel checks against the program. No conditions. -/
namespace Go.L
open Go.AM
set_option maxRecDepth 100000
set_option linter.unusedVariables false
set_option linter.unusedSimpArgs false
def cfgG : Cfg := { val := fun f => ![113,114,115,116,117,118,119,126,196,197,198,102,103,104,105,187,188,189,270,106,190,272,273,274,275,276,277,278,279,362,363,364,365,366,136,137,138,139,215,213,290,214,291,373,374,375,376,377,378,379,380,77,78,168,166,249,167,250,323,324,325,326,327,328,330,331,392,393,394,162,246,315,316,317,318,319,320,321,322,389,390,391,161,381,382,289,288,360,163].contains f, kill := fun _ _ => [] }
/- leafmesh/leafmeshkit.Same[int] -/
noncomputable def g_kit_Same_int (x1 : (List Int)) (x2 : (List Int)) : G prog (Sh.El (.one Bool)) :=
  .skip 2 <| .op (lenO x1 (Go.AM.eI .i64)) fun _ => .skip 1 <| .op (lenO x2 (Go.AM.eI .i64)) fun _ => .skip 1 <| .br 10 ((((List.length x1) : Nat) : Int) != (((List.length x2) : Nat) : Int)) (.skip 2 <| .done [] false) (.skip 2 <| .loop (.two (.one Unit) (.one Unit)) [.keep [0, 1, 5]] (fun (a : Int) => ⟨(ap [(.lst (List.map (Go.AM.eI .i64) x1)), (.lst (List.map (Go.AM.eI .i64) x2)), .junk, .junk, .junk, .sc (.int .i64 a)] (jl 20)), [], []⟩)
    (Sum.elim (fun (_ : Unit) => (.ret, ⟨(ap (jl 4) (ap [(.sc (.bool false))] (jl 21))), [], []⟩)) (fun (_ : Unit) => (.exit 0, ⟨(jl 26), [], []⟩))) (0 : Int)
    (fun (a4 : Int) => .skip 2 <| .op (lenO x1 (Go.AM.eI .i64)) fun _ => .skip 1 <| .br 14 (decide (a4 < (((List.length x1) : Nat) : Int))) (.skip 3 <| .op (idxO x1 (Go.AM.eI .i64) 1 a4) fun x5 => .skip 3 <| .op (idxO x2 (Go.AM.eI .i64) 1 a4) fun x6 => .skip 2 <| .br 25 (x5 != x6) (.skip 2 <| .done [.keep [4]] (.inr (.inl ()))) (.skip 4 <| .done [.keep [0, 1, 5]] (.inl (Go.IntKind.wrap .i64 (a4 + (1 : Int)))))) (.skip 1 <| .done [.keep []] (.inr (.inr ()))))
    (Sum.elim (fun _ => .done [] false) (fun _ => .skip 1 <| .done [] true)))
noncomputable def c_kit_Same_int : Ctr prog := Ctr.of cfgG 10 23 ((List Int) × (List Int)) (fun x => [.lst (x.1.map (eI .i64)), .lst (x.2.map (eI .i64))]) (.one Bool) (fun r => .ret (.sc (.bool r))) (fun x => g_kit_Same_int x.1 x.2) (fun x => by kernel_rfl)
end Go.L
/- What the functions compute, each told by a guide that the kernel checks against the program. No conditions. -/
namespace Go.L
open Go.AM
set_option maxRecDepth 100000
set_option linter.unusedVariables false
set_option linter.unusedSimpArgs false
/-- A closed call that was worked out. -/
noncomputable def ctrEn (e : Entry) (h : EntryOk prog e) : Ctr prog := { f := e.f, X := Unit, args := fun _ => e.args, sh := .one Unit, out := fun _ => .ret e.res, S := fun _ _ => some (), ok := fun _ _ _ _ => h }
def cfgN : Cfg := { val := fun f => [13,15,19,20,21,22,23,24,25,177].contains f, kill := fun _ _ => [] }
/- leafmesh/leafmeshlaw19.prefix -/
def e_1 : Entry := ⟨19, [(.sc (.int .u32 (167772160 : Int))), (.sc (.int .i64 (8 : Int))), (.sc (.int .u32 (7 : Int)))], (.agg [(.sc (.int .i64 (5 : Int))), (.sc (.int .u64 (0 : Int))), (.sc (.int .u8 (0 : Int))), (.sc (.int .u8 (0 : Int))), (.sc (.int .u8 (0 : Int))), (.sc (.int .u8 (0 : Int))), (.sc (.int .u8 (0 : Int))), (.sc (.int .u8 (0 : Int))), (.sc (.int .u8 (0 : Int))), (.sc (.int .u8 (0 : Int))), (.sc (.int .u8 (0 : Int))), (.sc (.int .u8 (0 : Int))), (.sc (.int .u32 (0 : Int))), (.sc (.int .u64 (0 : Int))), (.sc (.int .u32 (0 : Int))), (.sc (.bool false)), (.sc (.int .u32 (167772160 : Int))), (.sc (.int .i64 (8 : Int))), (.sc (.int .u32 (0 : Int))), (.sc (.int .u32 (0 : Int))), (.sc (.int .u32 (0 : Int))), (.sc (.int .i64 (0 : Int))), (.sc (.slice (Option.none) (0 : Nat) (0 : Nat))), (.sc (.int .u32 (0 : Int))), (.sc (.bool false)), (.sc (.int .u32 (0 : Int))), (.sc (.bool false)), (.sc (.int .u32 (0 : Int))), (.sc (.bool false)), (.sc (.int .u32 (0 : Int))), (.sc (.slice (Option.none) (0 : Nat) (0 : Nat))), (.lst [[(.sc (.int .u8 (0 : Int))), (.sc (.int .u8 (2 : Int))), (.sc (.int .u8 (253 : Int))), (.sc (.int .u8 (232 : Int))), (.sc (.int .u8 (0 : Int))), (.sc (.int .u8 (0 : Int))), (.sc (.int .u8 (0 : Int))), (.sc (.int .u8 (7 : Int)))]]), (.sc (.int .i64 (0 : Int))), (.sc (.int .u32 (0 : Int))), (.sc (.int .u32 (0 : Int))), (.sc (.int .u32 (0 : Int))), (.sc (.int .u32 (3 : Int))), (.sc (.bool false))])⟩
theorem eb_1 : entryB (callT prog cfgN [] 2000 300) e_1 = true := by kernel_rfl
noncomputable def ce_1 : Ctr prog := ctrEn e_1 (entry_ok (callT_sound plainProg.mixed plainProg.names TblOk.nil 2000 300) eb_1)

/- leafmesh/policy.Prefix -/
def e_2 : Entry := ⟨22, [(.agg [(.sc (.int .i64 (5 : Int))), (.sc (.int .u64 (0 : Int))), (.sc (.int .u8 (0 : Int))), (.sc (.int .u8 (0 : Int))), (.sc (.int .u8 (0 : Int))), (.sc (.int .u8 (0 : Int))), (.sc (.int .u8 (0 : Int))), (.sc (.int .u8 (0 : Int))), (.sc (.int .u8 (0 : Int))), (.sc (.int .u8 (0 : Int))), (.sc (.int .u8 (0 : Int))), (.sc (.int .u8 (0 : Int))), (.sc (.int .u32 (0 : Int))), (.sc (.int .u64 (0 : Int))), (.sc (.int .u32 (0 : Int))), (.sc (.bool false)), (.sc (.int .u32 (167772160 : Int))), (.sc (.int .i64 (8 : Int))), (.sc (.int .u32 (0 : Int))), (.sc (.int .u32 (0 : Int))), (.sc (.int .u32 (0 : Int))), (.sc (.int .i64 (0 : Int))), (.lst []), (.sc (.int .u32 (0 : Int))), (.sc (.bool false)), (.sc (.int .u32 (0 : Int))), (.sc (.bool false)), (.sc (.int .u32 (0 : Int))), (.sc (.bool false)), (.sc (.int .u32 (0 : Int))), (.lst []), (.lst [[(.sc (.int .u8 (0 : Int))), (.sc (.int .u8 (2 : Int))), (.sc (.int .u8 (253 : Int))), (.sc (.int .u8 (232 : Int))), (.sc (.int .u8 (0 : Int))), (.sc (.int .u8 (0 : Int))), (.sc (.int .u8 (0 : Int))), (.sc (.int .u8 (7 : Int)))]]), (.sc (.int .i64 (0 : Int))), (.sc (.int .u32 (0 : Int))), (.sc (.int .u32 (0 : Int))), (.sc (.int .u32 (0 : Int))), (.sc (.int .u32 (3 : Int))), (.sc (.bool false))])], (.tup [(.agg [(.sc (.int .u32 (167772160 : Int))), (.sc (.int .i64 (8 : Int)))]), (.sc (.bool true))])⟩
theorem eb_2 : entryB (callT prog cfgN [] 2000 300) e_2 = true := by kernel_rfl
noncomputable def ce_2 : Ctr prog := ctrEn e_2 (entry_ok (callT_sound plainProg.mixed plainProg.names TblOk.nil 2000 300) eb_2)

/- leafmesh/leafmeshlaw19.prefix -/
def e_3 : Entry := ⟨19, [(.sc (.int .u32 (167837696 : Int))), (.sc (.int .i64 (16 : Int))), (.sc (.int .u32 (7 : Int)))], (.agg [(.sc (.int .i64 (5 : Int))), (.sc (.int .u64 (0 : Int))), (.sc (.int .u8 (0 : Int))), (.sc (.int .u8 (0 : Int))), (.sc (.int .u8 (0 : Int))), (.sc (.int .u8 (0 : Int))), (.sc (.int .u8 (0 : Int))), (.sc (.int .u8 (0 : Int))), (.sc (.int .u8 (0 : Int))), (.sc (.int .u8 (0 : Int))), (.sc (.int .u8 (0 : Int))), (.sc (.int .u8 (0 : Int))), (.sc (.int .u32 (0 : Int))), (.sc (.int .u64 (0 : Int))), (.sc (.int .u32 (0 : Int))), (.sc (.bool false)), (.sc (.int .u32 (167837696 : Int))), (.sc (.int .i64 (16 : Int))), (.sc (.int .u32 (0 : Int))), (.sc (.int .u32 (0 : Int))), (.sc (.int .u32 (0 : Int))), (.sc (.int .i64 (0 : Int))), (.sc (.slice (Option.none) (0 : Nat) (0 : Nat))), (.sc (.int .u32 (0 : Int))), (.sc (.bool false)), (.sc (.int .u32 (0 : Int))), (.sc (.bool false)), (.sc (.int .u32 (0 : Int))), (.sc (.bool false)), (.sc (.int .u32 (0 : Int))), (.sc (.slice (Option.none) (0 : Nat) (0 : Nat))), (.lst [[(.sc (.int .u8 (0 : Int))), (.sc (.int .u8 (2 : Int))), (.sc (.int .u8 (253 : Int))), (.sc (.int .u8 (232 : Int))), (.sc (.int .u8 (0 : Int))), (.sc (.int .u8 (0 : Int))), (.sc (.int .u8 (0 : Int))), (.sc (.int .u8 (7 : Int)))]]), (.sc (.int .i64 (0 : Int))), (.sc (.int .u32 (0 : Int))), (.sc (.int .u32 (0 : Int))), (.sc (.int .u32 (0 : Int))), (.sc (.int .u32 (3 : Int))), (.sc (.bool false))])⟩
theorem eb_3 : entryB (callT prog cfgN [] 2000 300) e_3 = true := by kernel_rfl
noncomputable def ce_3 : Ctr prog := ctrEn e_3 (entry_ok (callT_sound plainProg.mixed plainProg.names TblOk.nil 2000 300) eb_3)

/- leafmesh/policy.Prefix -/
def e_4 : Entry := ⟨22, [(.agg [(.sc (.int .i64 (5 : Int))), (.sc (.int .u64 (0 : Int))), (.sc (.int .u8 (0 : Int))), (.sc (.int .u8 (0 : Int))), (.sc (.int .u8 (0 : Int))), (.sc (.int .u8 (0 : Int))), (.sc (.int .u8 (0 : Int))), (.sc (.int .u8 (0 : Int))), (.sc (.int .u8 (0 : Int))), (.sc (.int .u8 (0 : Int))), (.sc (.int .u8 (0 : Int))), (.sc (.int .u8 (0 : Int))), (.sc (.int .u32 (0 : Int))), (.sc (.int .u64 (0 : Int))), (.sc (.int .u32 (0 : Int))), (.sc (.bool false)), (.sc (.int .u32 (167837696 : Int))), (.sc (.int .i64 (16 : Int))), (.sc (.int .u32 (0 : Int))), (.sc (.int .u32 (0 : Int))), (.sc (.int .u32 (0 : Int))), (.sc (.int .i64 (0 : Int))), (.lst []), (.sc (.int .u32 (0 : Int))), (.sc (.bool false)), (.sc (.int .u32 (0 : Int))), (.sc (.bool false)), (.sc (.int .u32 (0 : Int))), (.sc (.bool false)), (.sc (.int .u32 (0 : Int))), (.lst []), (.lst [[(.sc (.int .u8 (0 : Int))), (.sc (.int .u8 (2 : Int))), (.sc (.int .u8 (253 : Int))), (.sc (.int .u8 (232 : Int))), (.sc (.int .u8 (0 : Int))), (.sc (.int .u8 (0 : Int))), (.sc (.int .u8 (0 : Int))), (.sc (.int .u8 (7 : Int)))]]), (.sc (.int .i64 (0 : Int))), (.sc (.int .u32 (0 : Int))), (.sc (.int .u32 (0 : Int))), (.sc (.int .u32 (0 : Int))), (.sc (.int .u32 (3 : Int))), (.sc (.bool false))])], (.tup [(.agg [(.sc (.int .u32 (167837696 : Int))), (.sc (.int .i64 (16 : Int)))]), (.sc (.bool true))])⟩
theorem eb_4 : entryB (callT prog cfgN [] 2000 300) e_4 = true := by kernel_rfl
noncomputable def ce_4 : Ctr prog := ctrEn e_4 (entry_ok (callT_sound plainProg.mixed plainProg.names TblOk.nil 2000 300) eb_4)

/- leafmesh/leafmeshlaw19.host -/
def e_5 : Entry := ⟨20, [(.sc (.int .u32 (167772417 : Int))), (.sc (.int .u32 (7 : Int)))], (.agg [(.sc (.int .i64 (2 : Int))), (.sc (.int .u64 (0 : Int))), (.sc (.int .u8 (0 : Int))), (.sc (.int .u8 (0 : Int))), (.sc (.int .u8 (0 : Int))), (.sc (.int .u8 (0 : Int))), (.sc (.int .u8 (0 : Int))), (.sc (.int .u8 (0 : Int))), (.sc (.int .u8 (0 : Int))), (.sc (.int .u8 (0 : Int))), (.sc (.int .u8 (0 : Int))), (.sc (.int .u8 (0 : Int))), (.sc (.int .u32 (0 : Int))), (.sc (.int .u64 (1 : Int))), (.sc (.int .u32 (167772417 : Int))), (.sc (.bool true)), (.sc (.int .u32 (0 : Int))), (.sc (.int .i64 (0 : Int))), (.sc (.int .u32 (0 : Int))), (.sc (.int .u32 (0 : Int))), (.sc (.int .u32 (0 : Int))), (.sc (.int .i64 (0 : Int))), (.sc (.slice (Option.none) (0 : Nat) (0 : Nat))), (.sc (.int .u32 (0 : Int))), (.sc (.bool false)), (.sc (.int .u32 (0 : Int))), (.sc (.bool false)), (.sc (.int .u32 (0 : Int))), (.sc (.bool false)), (.sc (.int .u32 (0 : Int))), (.sc (.slice (Option.none) (0 : Nat) (0 : Nat))), (.lst [[(.sc (.int .u8 (0 : Int))), (.sc (.int .u8 (2 : Int))), (.sc (.int .u8 (253 : Int))), (.sc (.int .u8 (232 : Int))), (.sc (.int .u8 (0 : Int))), (.sc (.int .u8 (0 : Int))), (.sc (.int .u8 (0 : Int))), (.sc (.int .u8 (7 : Int)))]]), (.sc (.int .i64 (0 : Int))), (.sc (.int .u32 (0 : Int))), (.sc (.int .u32 (0 : Int))), (.sc (.int .u32 (0 : Int))), (.sc (.int .u32 (3 : Int))), (.sc (.bool false))])⟩
theorem eb_5 : entryB (callT prog cfgN [] 2000 300) e_5 = true := by kernel_rfl
noncomputable def ce_5 : Ctr prog := ctrEn e_5 (entry_ok (callT_sound plainProg.mixed plainProg.names TblOk.nil 2000 300) eb_5)

/- leafmesh/policy.Prefix -/
def e_6 : Entry := ⟨22, [(.agg [(.sc (.int .i64 (2 : Int))), (.sc (.int .u64 (0 : Int))), (.sc (.int .u8 (0 : Int))), (.sc (.int .u8 (0 : Int))), (.sc (.int .u8 (0 : Int))), (.sc (.int .u8 (0 : Int))), (.sc (.int .u8 (0 : Int))), (.sc (.int .u8 (0 : Int))), (.sc (.int .u8 (0 : Int))), (.sc (.int .u8 (0 : Int))), (.sc (.int .u8 (0 : Int))), (.sc (.int .u8 (0 : Int))), (.sc (.int .u32 (0 : Int))), (.sc (.int .u64 (1 : Int))), (.sc (.int .u32 (167772417 : Int))), (.sc (.bool true)), (.sc (.int .u32 (0 : Int))), (.sc (.int .i64 (0 : Int))), (.sc (.int .u32 (0 : Int))), (.sc (.int .u32 (0 : Int))), (.sc (.int .u32 (0 : Int))), (.sc (.int .i64 (0 : Int))), (.lst []), (.sc (.int .u32 (0 : Int))), (.sc (.bool false)), (.sc (.int .u32 (0 : Int))), (.sc (.bool false)), (.sc (.int .u32 (0 : Int))), (.sc (.bool false)), (.sc (.int .u32 (0 : Int))), (.lst []), (.lst [[(.sc (.int .u8 (0 : Int))), (.sc (.int .u8 (2 : Int))), (.sc (.int .u8 (253 : Int))), (.sc (.int .u8 (232 : Int))), (.sc (.int .u8 (0 : Int))), (.sc (.int .u8 (0 : Int))), (.sc (.int .u8 (0 : Int))), (.sc (.int .u8 (7 : Int)))]]), (.sc (.int .i64 (0 : Int))), (.sc (.int .u32 (0 : Int))), (.sc (.int .u32 (0 : Int))), (.sc (.int .u32 (0 : Int))), (.sc (.int .u32 (3 : Int))), (.sc (.bool false))])], (.tup [(.agg [(.sc (.int .u32 (167772417 : Int))), (.sc (.int .i64 (32 : Int)))]), (.sc (.bool true))])⟩
theorem eb_6 : entryB (callT prog cfgN [] 2000 300) e_6 = true := by kernel_rfl
noncomputable def ce_6 : Ctr prog := ctrEn e_6 (entry_ok (callT_sound plainProg.mixed plainProg.names TblOk.nil 2000 300) eb_6)

/- leafmesh/leafmeshlaw19.host -/
def e_7 : Entry := ⟨20, [(.sc (.int .u32 (0 : Int))), (.sc (.int .u32 (7 : Int)))], (.agg [(.sc (.int .i64 (2 : Int))), (.sc (.int .u64 (0 : Int))), (.sc (.int .u8 (0 : Int))), (.sc (.int .u8 (0 : Int))), (.sc (.int .u8 (0 : Int))), (.sc (.int .u8 (0 : Int))), (.sc (.int .u8 (0 : Int))), (.sc (.int .u8 (0 : Int))), (.sc (.int .u8 (0 : Int))), (.sc (.int .u8 (0 : Int))), (.sc (.int .u8 (0 : Int))), (.sc (.int .u8 (0 : Int))), (.sc (.int .u32 (0 : Int))), (.sc (.int .u64 (1 : Int))), (.sc (.int .u32 (0 : Int))), (.sc (.bool true)), (.sc (.int .u32 (0 : Int))), (.sc (.int .i64 (0 : Int))), (.sc (.int .u32 (0 : Int))), (.sc (.int .u32 (0 : Int))), (.sc (.int .u32 (0 : Int))), (.sc (.int .i64 (0 : Int))), (.sc (.slice (Option.none) (0 : Nat) (0 : Nat))), (.sc (.int .u32 (0 : Int))), (.sc (.bool false)), (.sc (.int .u32 (0 : Int))), (.sc (.bool false)), (.sc (.int .u32 (0 : Int))), (.sc (.bool false)), (.sc (.int .u32 (0 : Int))), (.sc (.slice (Option.none) (0 : Nat) (0 : Nat))), (.lst [[(.sc (.int .u8 (0 : Int))), (.sc (.int .u8 (2 : Int))), (.sc (.int .u8 (253 : Int))), (.sc (.int .u8 (232 : Int))), (.sc (.int .u8 (0 : Int))), (.sc (.int .u8 (0 : Int))), (.sc (.int .u8 (0 : Int))), (.sc (.int .u8 (7 : Int)))]]), (.sc (.int .i64 (0 : Int))), (.sc (.int .u32 (0 : Int))), (.sc (.int .u32 (0 : Int))), (.sc (.int .u32 (0 : Int))), (.sc (.int .u32 (3 : Int))), (.sc (.bool false))])⟩
theorem eb_7 : entryB (callT prog cfgN [] 2000 300) e_7 = true := by kernel_rfl
noncomputable def ce_7 : Ctr prog := ctrEn e_7 (entry_ok (callT_sound plainProg.mixed plainProg.names TblOk.nil 2000 300) eb_7)

/- leafmesh/leafmeshref03.Target -/
def e_8 : Entry := ⟨21, [(.sc (.int .u16 (65000 : Int))), (.sc (.int .u32 (7 : Int)))], (.agg [(.sc (.int .u8 (0 : Int))), (.sc (.int .u8 (2 : Int))), (.sc (.int .u8 (253 : Int))), (.sc (.int .u8 (232 : Int))), (.sc (.int .u8 (0 : Int))), (.sc (.int .u8 (0 : Int))), (.sc (.int .u8 (0 : Int))), (.sc (.int .u8 (7 : Int)))])⟩
theorem eb_8 : entryB (callT prog cfgN [] 2000 300) e_8 = true := by kernel_rfl
noncomputable def ce_8 : Ctr prog := ctrEn e_8 (entry_ok (callT_sound plainProg.mixed plainProg.names TblOk.nil 2000 300) eb_8)

/- leafmesh/leafmeshref03.Target -/
def e_9 : Entry := ⟨21, [(.sc (.int .u16 (65000 : Int))), (.sc (.int .u32 (9 : Int)))], (.agg [(.sc (.int .u8 (0 : Int))), (.sc (.int .u8 (2 : Int))), (.sc (.int .u8 (253 : Int))), (.sc (.int .u8 (232 : Int))), (.sc (.int .u8 (0 : Int))), (.sc (.int .u8 (0 : Int))), (.sc (.int .u8 (0 : Int))), (.sc (.int .u8 (9 : Int)))])⟩
theorem eb_9 : entryB (callT prog cfgN [] 2000 300) e_9 = true := by kernel_rfl
noncomputable def ce_9 : Ctr prog := ctrEn e_9 (entry_ok (callT_sound plainProg.mixed plainProg.names TblOk.nil 2000 300) eb_9)

/- leafmesh/leafmeshlaw19.host -/
def e_10 : Entry := ⟨20, [(.sc (.int .u32 (1 : Int))), (.sc (.int .u32 (7 : Int)))], (.agg [(.sc (.int .i64 (2 : Int))), (.sc (.int .u64 (0 : Int))), (.sc (.int .u8 (0 : Int))), (.sc (.int .u8 (0 : Int))), (.sc (.int .u8 (0 : Int))), (.sc (.int .u8 (0 : Int))), (.sc (.int .u8 (0 : Int))), (.sc (.int .u8 (0 : Int))), (.sc (.int .u8 (0 : Int))), (.sc (.int .u8 (0 : Int))), (.sc (.int .u8 (0 : Int))), (.sc (.int .u8 (0 : Int))), (.sc (.int .u32 (0 : Int))), (.sc (.int .u64 (1 : Int))), (.sc (.int .u32 (1 : Int))), (.sc (.bool true)), (.sc (.int .u32 (0 : Int))), (.sc (.int .i64 (0 : Int))), (.sc (.int .u32 (0 : Int))), (.sc (.int .u32 (0 : Int))), (.sc (.int .u32 (0 : Int))), (.sc (.int .i64 (0 : Int))), (.sc (.slice (Option.none) (0 : Nat) (0 : Nat))), (.sc (.int .u32 (0 : Int))), (.sc (.bool false)), (.sc (.int .u32 (0 : Int))), (.sc (.bool false)), (.sc (.int .u32 (0 : Int))), (.sc (.bool false)), (.sc (.int .u32 (0 : Int))), (.sc (.slice (Option.none) (0 : Nat) (0 : Nat))), (.lst [[(.sc (.int .u8 (0 : Int))), (.sc (.int .u8 (2 : Int))), (.sc (.int .u8 (253 : Int))), (.sc (.int .u8 (232 : Int))), (.sc (.int .u8 (0 : Int))), (.sc (.int .u8 (0 : Int))), (.sc (.int .u8 (0 : Int))), (.sc (.int .u8 (7 : Int)))]]), (.sc (.int .i64 (0 : Int))), (.sc (.int .u32 (0 : Int))), (.sc (.int .u32 (0 : Int))), (.sc (.int .u32 (0 : Int))), (.sc (.int .u32 (3 : Int))), (.sc (.bool false))])⟩
theorem eb_10 : entryB (callT prog cfgN [] 2000 300) e_10 = true := by kernel_rfl
noncomputable def ce_10 : Ctr prog := ctrEn e_10 (entry_ok (callT_sound plainProg.mixed plainProg.names TblOk.nil 2000 300) eb_10)

/- leafmesh/leafmeshlaw19.host -/
def e_11 : Entry := ⟨20, [(.sc (.int .u32 (5 : Int))), (.sc (.int .u32 (7 : Int)))], (.agg [(.sc (.int .i64 (2 : Int))), (.sc (.int .u64 (0 : Int))), (.sc (.int .u8 (0 : Int))), (.sc (.int .u8 (0 : Int))), (.sc (.int .u8 (0 : Int))), (.sc (.int .u8 (0 : Int))), (.sc (.int .u8 (0 : Int))), (.sc (.int .u8 (0 : Int))), (.sc (.int .u8 (0 : Int))), (.sc (.int .u8 (0 : Int))), (.sc (.int .u8 (0 : Int))), (.sc (.int .u8 (0 : Int))), (.sc (.int .u32 (0 : Int))), (.sc (.int .u64 (1 : Int))), (.sc (.int .u32 (5 : Int))), (.sc (.bool true)), (.sc (.int .u32 (0 : Int))), (.sc (.int .i64 (0 : Int))), (.sc (.int .u32 (0 : Int))), (.sc (.int .u32 (0 : Int))), (.sc (.int .u32 (0 : Int))), (.sc (.int .i64 (0 : Int))), (.sc (.slice (Option.none) (0 : Nat) (0 : Nat))), (.sc (.int .u32 (0 : Int))), (.sc (.bool false)), (.sc (.int .u32 (0 : Int))), (.sc (.bool false)), (.sc (.int .u32 (0 : Int))), (.sc (.bool false)), (.sc (.int .u32 (0 : Int))), (.sc (.slice (Option.none) (0 : Nat) (0 : Nat))), (.lst [[(.sc (.int .u8 (0 : Int))), (.sc (.int .u8 (2 : Int))), (.sc (.int .u8 (253 : Int))), (.sc (.int .u8 (232 : Int))), (.sc (.int .u8 (0 : Int))), (.sc (.int .u8 (0 : Int))), (.sc (.int .u8 (0 : Int))), (.sc (.int .u8 (7 : Int)))]]), (.sc (.int .i64 (0 : Int))), (.sc (.int .u32 (0 : Int))), (.sc (.int .u32 (0 : Int))), (.sc (.int .u32 (0 : Int))), (.sc (.int .u32 (3 : Int))), (.sc (.bool false))])⟩
theorem eb_11 : entryB (callT prog cfgN [] 2000 300) e_11 = true := by kernel_rfl
noncomputable def ce_11 : Ctr prog := ctrEn e_11 (entry_ok (callT_sound plainProg.mixed plainProg.names TblOk.nil 2000 300) eb_11)

/- leafmesh/policy.Prefix -/
def e_12 : Entry := ⟨22, [(.agg [(.sc (.int .i64 (2 : Int))), (.sc (.int .u64 (0 : Int))), (.sc (.int .u8 (0 : Int))), (.sc (.int .u8 (0 : Int))), (.sc (.int .u8 (0 : Int))), (.sc (.int .u8 (0 : Int))), (.sc (.int .u8 (0 : Int))), (.sc (.int .u8 (0 : Int))), (.sc (.int .u8 (0 : Int))), (.sc (.int .u8 (0 : Int))), (.sc (.int .u8 (0 : Int))), (.sc (.int .u8 (0 : Int))), (.sc (.int .u32 (0 : Int))), (.sc (.int .u64 (1 : Int))), (.sc (.int .u32 (5 : Int))), (.sc (.bool true)), (.sc (.int .u32 (0 : Int))), (.sc (.int .i64 (0 : Int))), (.sc (.int .u32 (0 : Int))), (.sc (.int .u32 (0 : Int))), (.sc (.int .u32 (0 : Int))), (.sc (.int .i64 (0 : Int))), (.lst []), (.sc (.int .u32 (0 : Int))), (.sc (.bool false)), (.sc (.int .u32 (0 : Int))), (.sc (.bool false)), (.sc (.int .u32 (0 : Int))), (.sc (.bool false)), (.sc (.int .u32 (0 : Int))), (.lst []), (.lst [[(.sc (.int .u8 (0 : Int))), (.sc (.int .u8 (2 : Int))), (.sc (.int .u8 (253 : Int))), (.sc (.int .u8 (232 : Int))), (.sc (.int .u8 (0 : Int))), (.sc (.int .u8 (0 : Int))), (.sc (.int .u8 (0 : Int))), (.sc (.int .u8 (7 : Int)))]]), (.sc (.int .i64 (0 : Int))), (.sc (.int .u32 (0 : Int))), (.sc (.int .u32 (0 : Int))), (.sc (.int .u32 (0 : Int))), (.sc (.int .u32 (3 : Int))), (.sc (.bool false))])], (.tup [(.agg [(.sc (.int .u32 (5 : Int))), (.sc (.int .i64 (32 : Int)))]), (.sc (.bool true))])⟩
theorem eb_12 : entryB (callT prog cfgN [] 2000 300) e_12 = true := by kernel_rfl
noncomputable def ce_12 : Ctr prog := ctrEn e_12 (entry_ok (callT_sound plainProg.mixed plainProg.names TblOk.nil 2000 300) eb_12)

/- leafmesh/policy.Prefix -/
def e_13 : Entry := ⟨22, [(.agg [(.sc (.int .i64 (2 : Int))), (.sc (.int .u64 (0 : Int))), (.sc (.int .u8 (0 : Int))), (.sc (.int .u8 (0 : Int))), (.sc (.int .u8 (0 : Int))), (.sc (.int .u8 (0 : Int))), (.sc (.int .u8 (0 : Int))), (.sc (.int .u8 (0 : Int))), (.sc (.int .u8 (0 : Int))), (.sc (.int .u8 (0 : Int))), (.sc (.int .u8 (0 : Int))), (.sc (.int .u8 (0 : Int))), (.sc (.int .u32 (0 : Int))), (.sc (.int .u64 (1 : Int))), (.sc (.int .u32 (0 : Int))), (.sc (.bool false)), (.sc (.int .u32 (0 : Int))), (.sc (.int .i64 (0 : Int))), (.sc (.int .u32 (0 : Int))), (.sc (.int .u32 (0 : Int))), (.sc (.int .u32 (0 : Int))), (.sc (.int .i64 (0 : Int))), (.lst []), (.sc (.int .u32 (0 : Int))), (.sc (.bool false)), (.sc (.int .u32 (0 : Int))), (.sc (.bool false)), (.sc (.int .u32 (0 : Int))), (.sc (.bool false)), (.sc (.int .u32 (0 : Int))), (.lst []), (.lst [[(.sc (.int .u8 (0 : Int))), (.sc (.int .u8 (2 : Int))), (.sc (.int .u8 (253 : Int))), (.sc (.int .u8 (232 : Int))), (.sc (.int .u8 (0 : Int))), (.sc (.int .u8 (0 : Int))), (.sc (.int .u8 (0 : Int))), (.sc (.int .u8 (7 : Int)))]]), (.sc (.int .i64 (0 : Int))), (.sc (.int .u32 (0 : Int))), (.sc (.int .u32 (0 : Int))), (.sc (.int .u32 (0 : Int))), (.sc (.int .u32 (3 : Int))), (.sc (.bool false))])], (.tup [(.agg [(.sc (.int .u32 (0 : Int))), (.sc (.int .i64 (0 : Int)))]), (.sc (.bool false))])⟩
theorem eb_13 : entryB (callT prog cfgN [] 2000 300) e_13 = true := by kernel_rfl
noncomputable def ce_13 : Ctr prog := ctrEn e_13 (entry_ok (callT_sound plainProg.mixed plainProg.names TblOk.nil 2000 300) eb_13)

/- leafmesh/leafmeshlaw19.host -/
def e_14 : Entry := ⟨20, [(.sc (.int .u32 (167772161 : Int))), (.sc (.int .u32 (7 : Int)))], (.agg [(.sc (.int .i64 (2 : Int))), (.sc (.int .u64 (0 : Int))), (.sc (.int .u8 (0 : Int))), (.sc (.int .u8 (0 : Int))), (.sc (.int .u8 (0 : Int))), (.sc (.int .u8 (0 : Int))), (.sc (.int .u8 (0 : Int))), (.sc (.int .u8 (0 : Int))), (.sc (.int .u8 (0 : Int))), (.sc (.int .u8 (0 : Int))), (.sc (.int .u8 (0 : Int))), (.sc (.int .u8 (0 : Int))), (.sc (.int .u32 (0 : Int))), (.sc (.int .u64 (1 : Int))), (.sc (.int .u32 (167772161 : Int))), (.sc (.bool true)), (.sc (.int .u32 (0 : Int))), (.sc (.int .i64 (0 : Int))), (.sc (.int .u32 (0 : Int))), (.sc (.int .u32 (0 : Int))), (.sc (.int .u32 (0 : Int))), (.sc (.int .i64 (0 : Int))), (.sc (.slice (Option.none) (0 : Nat) (0 : Nat))), (.sc (.int .u32 (0 : Int))), (.sc (.bool false)), (.sc (.int .u32 (0 : Int))), (.sc (.bool false)), (.sc (.int .u32 (0 : Int))), (.sc (.bool false)), (.sc (.int .u32 (0 : Int))), (.sc (.slice (Option.none) (0 : Nat) (0 : Nat))), (.lst [[(.sc (.int .u8 (0 : Int))), (.sc (.int .u8 (2 : Int))), (.sc (.int .u8 (253 : Int))), (.sc (.int .u8 (232 : Int))), (.sc (.int .u8 (0 : Int))), (.sc (.int .u8 (0 : Int))), (.sc (.int .u8 (0 : Int))), (.sc (.int .u8 (7 : Int)))]]), (.sc (.int .i64 (0 : Int))), (.sc (.int .u32 (0 : Int))), (.sc (.int .u32 (0 : Int))), (.sc (.int .u32 (0 : Int))), (.sc (.int .u32 (3 : Int))), (.sc (.bool false))])⟩
theorem eb_14 : entryB (callT prog cfgN [] 2000 300) e_14 = true := by kernel_rfl
noncomputable def ce_14 : Ctr prog := ctrEn e_14 (entry_ok (callT_sound plainProg.mixed plainProg.names TblOk.nil 2000 300) eb_14)

/- leafmesh/leafmeshlaw19.host -/
def e_15 : Entry := ⟨20, [(.sc (.int .u32 (167772160 : Int))), (.sc (.int .u32 (9 : Int)))], (.agg [(.sc (.int .i64 (2 : Int))), (.sc (.int .u64 (0 : Int))), (.sc (.int .u8 (0 : Int))), (.sc (.int .u8 (0 : Int))), (.sc (.int .u8 (0 : Int))), (.sc (.int .u8 (0 : Int))), (.sc (.int .u8 (0 : Int))), (.sc (.int .u8 (0 : Int))), (.sc (.int .u8 (0 : Int))), (.sc (.int .u8 (0 : Int))), (.sc (.int .u8 (0 : Int))), (.sc (.int .u8 (0 : Int))), (.sc (.int .u32 (0 : Int))), (.sc (.int .u64 (1 : Int))), (.sc (.int .u32 (167772160 : Int))), (.sc (.bool true)), (.sc (.int .u32 (0 : Int))), (.sc (.int .i64 (0 : Int))), (.sc (.int .u32 (0 : Int))), (.sc (.int .u32 (0 : Int))), (.sc (.int .u32 (0 : Int))), (.sc (.int .i64 (0 : Int))), (.sc (.slice (Option.none) (0 : Nat) (0 : Nat))), (.sc (.int .u32 (0 : Int))), (.sc (.bool false)), (.sc (.int .u32 (0 : Int))), (.sc (.bool false)), (.sc (.int .u32 (0 : Int))), (.sc (.bool false)), (.sc (.int .u32 (0 : Int))), (.sc (.slice (Option.none) (0 : Nat) (0 : Nat))), (.lst [[(.sc (.int .u8 (0 : Int))), (.sc (.int .u8 (2 : Int))), (.sc (.int .u8 (253 : Int))), (.sc (.int .u8 (232 : Int))), (.sc (.int .u8 (0 : Int))), (.sc (.int .u8 (0 : Int))), (.sc (.int .u8 (0 : Int))), (.sc (.int .u8 (9 : Int)))]]), (.sc (.int .i64 (0 : Int))), (.sc (.int .u32 (0 : Int))), (.sc (.int .u32 (0 : Int))), (.sc (.int .u32 (0 : Int))), (.sc (.int .u32 (3 : Int))), (.sc (.bool false))])⟩
theorem eb_15 : entryB (callT prog cfgN [] 2000 300) e_15 = true := by kernel_rfl
noncomputable def ce_15 : Ctr prog := ctrEn e_15 (entry_ok (callT_sound plainProg.mixed plainProg.names TblOk.nil 2000 300) eb_15)

/- leafmesh/leafmeshlaw19.host -/
def e_16 : Entry := ⟨20, [(.sc (.int .u32 (1 : Int))), (.sc (.int .u32 (1 : Int)))], (.agg [(.sc (.int .i64 (2 : Int))), (.sc (.int .u64 (0 : Int))), (.sc (.int .u8 (0 : Int))), (.sc (.int .u8 (0 : Int))), (.sc (.int .u8 (0 : Int))), (.sc (.int .u8 (0 : Int))), (.sc (.int .u8 (0 : Int))), (.sc (.int .u8 (0 : Int))), (.sc (.int .u8 (0 : Int))), (.sc (.int .u8 (0 : Int))), (.sc (.int .u8 (0 : Int))), (.sc (.int .u8 (0 : Int))), (.sc (.int .u32 (0 : Int))), (.sc (.int .u64 (1 : Int))), (.sc (.int .u32 (1 : Int))), (.sc (.bool true)), (.sc (.int .u32 (0 : Int))), (.sc (.int .i64 (0 : Int))), (.sc (.int .u32 (0 : Int))), (.sc (.int .u32 (0 : Int))), (.sc (.int .u32 (0 : Int))), (.sc (.int .i64 (0 : Int))), (.sc (.slice (Option.none) (0 : Nat) (0 : Nat))), (.sc (.int .u32 (0 : Int))), (.sc (.bool false)), (.sc (.int .u32 (0 : Int))), (.sc (.bool false)), (.sc (.int .u32 (0 : Int))), (.sc (.bool false)), (.sc (.int .u32 (0 : Int))), (.sc (.slice (Option.none) (0 : Nat) (0 : Nat))), (.lst [[(.sc (.int .u8 (0 : Int))), (.sc (.int .u8 (2 : Int))), (.sc (.int .u8 (253 : Int))), (.sc (.int .u8 (232 : Int))), (.sc (.int .u8 (0 : Int))), (.sc (.int .u8 (0 : Int))), (.sc (.int .u8 (0 : Int))), (.sc (.int .u8 (1 : Int)))]]), (.sc (.int .i64 (0 : Int))), (.sc (.int .u32 (0 : Int))), (.sc (.int .u32 (0 : Int))), (.sc (.int .u32 (0 : Int))), (.sc (.int .u32 (3 : Int))), (.sc (.bool false))])⟩
theorem eb_16 : entryB (callT prog cfgN [] 2000 300) e_16 = true := by kernel_rfl
noncomputable def ce_16 : Ctr prog := ctrEn e_16 (entry_ok (callT_sound plainProg.mixed plainProg.names TblOk.nil 2000 300) eb_16)

/- leafmesh/policy.Matches -/
def e_17 : Entry := ⟨25, [(.agg [(.lst []), (.lst []), (.sc (.int .u32 (0 : Int))), (.sc (.bool false)), (.sc (.int .u32 (0 : Int))), (.sc (.int .i64 (0 : Int))), (.sc (.int .i64 (0 : Int))), (.sc (.int .i64 (0 : Int))), (.sc (.bool false)), (.sc (.bool false)), (.sc (.int .u32 (0 : Int))), (.sc (.bool false)), (.sc (.int .u32 (0 : Int))), (.lst []), (.lst [])]), (.agg [(.sc (.int .i64 (2 : Int))), (.sc (.int .u64 (0 : Int))), (.sc (.int .u8 (0 : Int))), (.sc (.int .u8 (0 : Int))), (.sc (.int .u8 (0 : Int))), (.sc (.int .u8 (0 : Int))), (.sc (.int .u8 (0 : Int))), (.sc (.int .u8 (0 : Int))), (.sc (.int .u8 (0 : Int))), (.sc (.int .u8 (0 : Int))), (.sc (.int .u8 (0 : Int))), (.sc (.int .u8 (0 : Int))), (.sc (.int .u32 (0 : Int))), (.sc (.int .u64 (1 : Int))), (.sc (.int .u32 (1 : Int))), (.sc (.bool true)), (.sc (.int .u32 (0 : Int))), (.sc (.int .i64 (0 : Int))), (.sc (.int .u32 (0 : Int))), (.sc (.int .u32 (0 : Int))), (.sc (.int .u32 (0 : Int))), (.sc (.int .i64 (0 : Int))), (.lst []), (.sc (.int .u32 (0 : Int))), (.sc (.bool false)), (.sc (.int .u32 (0 : Int))), (.sc (.bool false)), (.sc (.int .u32 (0 : Int))), (.sc (.bool false)), (.sc (.int .u32 (0 : Int))), (.lst []), (.lst [[(.sc (.int .u8 (0 : Int))), (.sc (.int .u8 (2 : Int))), (.sc (.int .u8 (253 : Int))), (.sc (.int .u8 (232 : Int))), (.sc (.int .u8 (0 : Int))), (.sc (.int .u8 (0 : Int))), (.sc (.int .u8 (0 : Int))), (.sc (.int .u8 (1 : Int)))]]), (.sc (.int .i64 (0 : Int))), (.sc (.int .u32 (0 : Int))), (.sc (.int .u32 (0 : Int))), (.sc (.int .u32 (0 : Int))), (.sc (.int .u32 (3 : Int))), (.sc (.bool false))])], (.sc (.bool true))⟩
theorem eb_17 : entryB (callT prog cfgN [] 2000 300) e_17 = true := by kernel_rfl
noncomputable def ce_17 : Ctr prog := ctrEn e_17 (entry_ok (callT_sound plainProg.mixed plainProg.names TblOk.nil 2000 300) eb_17)

/- leafmesh/policy.Matches -/
def e_18 : Entry := ⟨25, [(.agg [(.lst []), (.lst []), (.sc (.int .u32 (4 : Int))), (.sc (.bool false)), (.sc (.int .u32 (0 : Int))), (.sc (.int .i64 (0 : Int))), (.sc (.int .i64 (0 : Int))), (.sc (.int .i64 (0 : Int))), (.sc (.bool false)), (.sc (.bool false)), (.sc (.int .u32 (0 : Int))), (.sc (.bool false)), (.sc (.int .u32 (0 : Int))), (.lst []), (.lst [])]), (.agg [(.sc (.int .i64 (2 : Int))), (.sc (.int .u64 (0 : Int))), (.sc (.int .u8 (0 : Int))), (.sc (.int .u8 (0 : Int))), (.sc (.int .u8 (0 : Int))), (.sc (.int .u8 (0 : Int))), (.sc (.int .u8 (0 : Int))), (.sc (.int .u8 (0 : Int))), (.sc (.int .u8 (0 : Int))), (.sc (.int .u8 (0 : Int))), (.sc (.int .u8 (0 : Int))), (.sc (.int .u8 (0 : Int))), (.sc (.int .u32 (0 : Int))), (.sc (.int .u64 (1 : Int))), (.sc (.int .u32 (1 : Int))), (.sc (.bool true)), (.sc (.int .u32 (0 : Int))), (.sc (.int .i64 (0 : Int))), (.sc (.int .u32 (0 : Int))), (.sc (.int .u32 (0 : Int))), (.sc (.int .u32 (0 : Int))), (.sc (.int .i64 (0 : Int))), (.lst []), (.sc (.int .u32 (0 : Int))), (.sc (.bool false)), (.sc (.int .u32 (0 : Int))), (.sc (.bool false)), (.sc (.int .u32 (0 : Int))), (.sc (.bool false)), (.sc (.int .u32 (0 : Int))), (.lst []), (.lst [[(.sc (.int .u8 (0 : Int))), (.sc (.int .u8 (2 : Int))), (.sc (.int .u8 (253 : Int))), (.sc (.int .u8 (232 : Int))), (.sc (.int .u8 (0 : Int))), (.sc (.int .u8 (0 : Int))), (.sc (.int .u8 (0 : Int))), (.sc (.int .u8 (1 : Int)))]]), (.sc (.int .i64 (0 : Int))), (.sc (.int .u32 (0 : Int))), (.sc (.int .u32 (0 : Int))), (.sc (.int .u32 (0 : Int))), (.sc (.int .u32 (3 : Int))), (.sc (.bool false))])], (.sc (.bool false))⟩
theorem eb_18 : entryB (callT prog cfgN [] 2000 300) e_18 = true := by kernel_rfl
noncomputable def ce_18 : Ctr prog := ctrEn e_18 (entry_ok (callT_sound plainProg.mixed plainProg.names TblOk.nil 2000 300) eb_18)

/- leafmesh/policy.Matches -/
def e_19 : Entry := ⟨25, [(.agg [(.lst []), (.lst [[(.sc (.int .u32 (1 : Int)))], [(.sc (.int .u32 (2 : Int)))]]), (.sc (.int .u32 (0 : Int))), (.sc (.bool false)), (.sc (.int .u32 (0 : Int))), (.sc (.int .i64 (0 : Int))), (.sc (.int .i64 (0 : Int))), (.sc (.int .i64 (0 : Int))), (.sc (.bool false)), (.sc (.bool false)), (.sc (.int .u32 (0 : Int))), (.sc (.bool false)), (.sc (.int .u32 (0 : Int))), (.lst []), (.lst [])]), (.agg [(.sc (.int .i64 (2 : Int))), (.sc (.int .u64 (0 : Int))), (.sc (.int .u8 (0 : Int))), (.sc (.int .u8 (0 : Int))), (.sc (.int .u8 (0 : Int))), (.sc (.int .u8 (0 : Int))), (.sc (.int .u8 (0 : Int))), (.sc (.int .u8 (0 : Int))), (.sc (.int .u8 (0 : Int))), (.sc (.int .u8 (0 : Int))), (.sc (.int .u8 (0 : Int))), (.sc (.int .u8 (0 : Int))), (.sc (.int .u32 (0 : Int))), (.sc (.int .u64 (1 : Int))), (.sc (.int .u32 (1 : Int))), (.sc (.bool true)), (.sc (.int .u32 (0 : Int))), (.sc (.int .i64 (0 : Int))), (.sc (.int .u32 (0 : Int))), (.sc (.int .u32 (0 : Int))), (.sc (.int .u32 (0 : Int))), (.sc (.int .i64 (0 : Int))), (.lst []), (.sc (.int .u32 (0 : Int))), (.sc (.bool false)), (.sc (.int .u32 (0 : Int))), (.sc (.bool false)), (.sc (.int .u32 (0 : Int))), (.sc (.bool false)), (.sc (.int .u32 (0 : Int))), (.lst []), (.lst [[(.sc (.int .u8 (0 : Int))), (.sc (.int .u8 (2 : Int))), (.sc (.int .u8 (253 : Int))), (.sc (.int .u8 (232 : Int))), (.sc (.int .u8 (0 : Int))), (.sc (.int .u8 (0 : Int))), (.sc (.int .u8 (0 : Int))), (.sc (.int .u8 (7 : Int)))]]), (.sc (.int .i64 (0 : Int))), (.sc (.int .u32 (0 : Int))), (.sc (.int .u32 (0 : Int))), (.sc (.int .u32 (0 : Int))), (.sc (.int .u32 (3 : Int))), (.sc (.bool false))])], (.sc (.bool false))⟩
theorem eb_19 : entryB (callT prog cfgN [] 2000 300) e_19 = true := by kernel_rfl
noncomputable def ce_19 : Ctr prog := ctrEn e_19 (entry_ok (callT_sound plainProg.mixed plainProg.names TblOk.nil 2000 300) eb_19)

/- leafmesh/policy.Matches -/
def e_20 : Entry := ⟨25, [(.agg [(.lst []), (.lst [[(.sc (.int .u32 (1 : Int)))], [(.sc (.int .u32 (7 : Int)))]]), (.sc (.int .u32 (0 : Int))), (.sc (.bool false)), (.sc (.int .u32 (0 : Int))), (.sc (.int .i64 (0 : Int))), (.sc (.int .i64 (0 : Int))), (.sc (.int .i64 (0 : Int))), (.sc (.bool false)), (.sc (.bool false)), (.sc (.int .u32 (0 : Int))), (.sc (.bool false)), (.sc (.int .u32 (0 : Int))), (.lst []), (.lst [])]), (.agg [(.sc (.int .i64 (2 : Int))), (.sc (.int .u64 (0 : Int))), (.sc (.int .u8 (0 : Int))), (.sc (.int .u8 (0 : Int))), (.sc (.int .u8 (0 : Int))), (.sc (.int .u8 (0 : Int))), (.sc (.int .u8 (0 : Int))), (.sc (.int .u8 (0 : Int))), (.sc (.int .u8 (0 : Int))), (.sc (.int .u8 (0 : Int))), (.sc (.int .u8 (0 : Int))), (.sc (.int .u8 (0 : Int))), (.sc (.int .u32 (0 : Int))), (.sc (.int .u64 (1 : Int))), (.sc (.int .u32 (1 : Int))), (.sc (.bool true)), (.sc (.int .u32 (0 : Int))), (.sc (.int .i64 (0 : Int))), (.sc (.int .u32 (0 : Int))), (.sc (.int .u32 (0 : Int))), (.sc (.int .u32 (0 : Int))), (.sc (.int .i64 (0 : Int))), (.lst []), (.sc (.int .u32 (0 : Int))), (.sc (.bool false)), (.sc (.int .u32 (0 : Int))), (.sc (.bool false)), (.sc (.int .u32 (0 : Int))), (.sc (.bool false)), (.sc (.int .u32 (0 : Int))), (.lst []), (.lst [[(.sc (.int .u8 (0 : Int))), (.sc (.int .u8 (2 : Int))), (.sc (.int .u8 (253 : Int))), (.sc (.int .u8 (232 : Int))), (.sc (.int .u8 (0 : Int))), (.sc (.int .u8 (0 : Int))), (.sc (.int .u8 (0 : Int))), (.sc (.int .u8 (7 : Int)))]]), (.sc (.int .i64 (0 : Int))), (.sc (.int .u32 (0 : Int))), (.sc (.int .u32 (0 : Int))), (.sc (.int .u32 (0 : Int))), (.sc (.int .u32 (3 : Int))), (.sc (.bool false))])], (.sc (.bool true))⟩
theorem eb_20 : entryB (callT prog cfgN [] 2000 300) e_20 = true := by kernel_rfl
noncomputable def ce_20 : Ctr prog := ctrEn e_20 (entry_ok (callT_sound plainProg.mixed plainProg.names TblOk.nil 2000 300) eb_20)

/- leafmesh/leafmeshlaw19.PolicyNames -/
noncomputable def g_law19_PolicyNames  : G prog (Sh.El (.one Bool)) :=
  .skip 1 <| .call c_law19_lives () fun (r1 : Bool) => .skip 1 <| .br 21 (!r1) (.skip 2 <| .done [] false) (.skip 6 <| .call ce_1 () fun _ => .inl [] <| .skip 6 <| .inl [] <| .skip 5 <| .unroll 300 <| .skip 7 <| .inl [] <| .skip 4 <| .unroll 300 <| .skip 15 <| .tidy [.keep [2], .cut [] [] []] <| .inl [] <| .skip 3 <| .inl [] <| .skip 10 <| .unroll 300 <| .skip 30 <| .tidy [.keep [6], .cut [] [] []] <| .inl [] <| .skip 5 <| .inl [] <| .skip 10 <| .unroll 300 <| .skip 56 <| .tidy [.keep [6], .cut [] [] []] <| .inl [] <| .skip 9 <| .inl [] <| .skip 7 <| .inl [] <| .skip 3 <| .inl [] <| .skip 17 <| .tidy [] <| .inl [] <| .skip 1 <| .tidy [] <| .inl [] <| .inl [] <| .skip 2 <| .unroll 300 <| .skip 10 <| .inl [] <| .skip 3 <| .unroll 300 <| .skip 4 <| .tidy [] <| .inl [] <| .tidy [] <| .inl [] <| .tidy [] <| .inl [] <| .skip 1 <| .inl [] <| .skip 7 <| .tidy [] <| .inl [] <| .skip 1 <| .tidy [.keep [2], .cut [7] [] []] <| .inl [] <| .skip 4 <| .inl [] <| .skip 4 <| .unroll 300 <| .skip 9 <| .inl [] <| .skip 5 <| .inl [] <| .skip 13 <| .unroll 300 <| .skip 6 <| .inl [] <| .skip 14 <| .tidy [] <| .inl [] <| .skip 10 <| .inl [] <| .skip 12 <| .tidy [] <| .inl [] <| .skip 10 <| .inl [] <| .skip 12 <| .tidy [] <| .inl [] <| .skip 10 <| .inl [] <| .skip 7 <| .inl [] <| .skip 4 <| .call ce_2 () fun _ => .skip 11 <| .inl [] <| .skip 4 <| .inl [] <| .skip 11 <| .tidy [.keep [2], .cut [] [] []] <| .inl [] <| .skip 2 <| .inl [] <| .skip 11 <| .tidy [.keep [2], .cut [] [] []] <| .inl [] <| .skip 12 <| .inl [] <| .skip 3 <| .inl [] <| .skip 11 <| .tidy [.keep [2], .cut [] [] []] <| .inl [] <| .skip 7 <| .inl [] <| .skip 5 <| .tidy [] <| .inl [] <| .skip 4 <| .tidy [.keep [4], .cut [] [] []] <| .inl [] <| .skip 2 <| .tidy [.keep [4], .cut [] [] []] <| .inl [] <| .skip 16 <| .tidy [.keep [4], .cut [] [] []] <| .inl [] <| .skip 2 <| .tidy [] <| .inl [] <| .skip 3 <| .tidy [.keep [6], .cut [] [] []] <| .inl [] <| .skip 1 <| .tidy [.keep [4], .cut [] [] []] <| .inl [] <| .skip 6 <| .tidy [] <| .inl [] <| .skip 15 <| .tidy [.keep [4, 5], .cut [3] [] []] <| .inl [] <| .skip 7 <| .call ce_3 () fun _ => .inl [] <| .skip 6 <| .inl [] <| .skip 5 <| .unroll 300 <| .skip 7 <| .inl [] <| .skip 4 <| .unroll 300 <| .skip 15 <| .tidy [.keep [2], .cut [] [] []] <| .inl [] <| .skip 3 <| .inl [] <| .skip 10 <| .unroll 300 <| .skip 30 <| .tidy [.keep [6], .cut [] [] []] <| .inl [] <| .skip 5 <| .inl [] <| .skip 10 <| .unroll 300 <| .skip 56 <| .tidy [.keep [6], .cut [] [] []] <| .inl [] <| .skip 9 <| .inl [] <| .skip 7 <| .inl [] <| .skip 3 <| .inl [] <| .skip 17 <| .tidy [] <| .inl [] <| .skip 1 <| .tidy [] <| .inl [] <| .inl [] <| .skip 2 <| .unroll 300 <| .skip 10 <| .inl [] <| .skip 3 <| .unroll 300 <| .skip 4 <| .tidy [] <| .inl [] <| .tidy [] <| .inl [] <| .tidy [] <| .inl [] <| .skip 1 <| .inl [] <| .skip 7 <| .tidy [] <| .inl [] <| .skip 1 <| .tidy [.keep [2], .cut [8] [] []] <| .inl [] <| .skip 4 <| .inl [] <| .skip 4 <| .unroll 300 <| .skip 9 <| .inl [] <| .skip 5 <| .inl [] <| .skip 13 <| .unroll 300 <| .skip 6 <| .inl [] <| .skip 14 <| .tidy [] <| .inl [] <| .skip 10 <| .inl [] <| .skip 12 <| .tidy [] <| .inl [] <| .skip 10 <| .inl [] <| .skip 12 <| .tidy [] <| .inl [] <| .skip 10 <| .inl [] <| .skip 7 <| .inl [] <| .skip 4 <| .call ce_4 () fun _ => .skip 11 <| .inl [] <| .skip 4 <| .inl [] <| .skip 11 <| .tidy [.keep [2], .cut [] [] []] <| .inl [] <| .skip 2 <| .inl [] <| .skip 11 <| .tidy [.keep [2], .cut [] [] []] <| .inl [] <| .skip 12 <| .inl [] <| .skip 3 <| .inl [] <| .skip 11 <| .tidy [.keep [2], .cut [] [] []] <| .inl [] <| .skip 7 <| .inl [] <| .skip 5 <| .tidy [] <| .inl [] <| .skip 4 <| .tidy [.keep [4], .cut [] [] []] <| .inl [] <| .skip 2 <| .tidy [.keep [4], .cut [] [] []] <| .inl [] <| .skip 16 <| .tidy [.keep [4], .cut [] [] []] <| .inl [] <| .skip 2 <| .tidy [] <| .inl [] <| .skip 7 <| .tidy [.keep [6], .cut [] [] []] <| .inl [] <| .skip 1 <| .tidy [.keep [4], .cut [] [] []] <| .inl [] <| .skip 3 <| .tidy [] <| .inl [] <| .skip 21 <| .inl [] <| .skip 5 <| .tidy [] <| .inl [] <| .skip 6 <| .inl [] <| .skip 5 <| .tidy [] <| .inl [] <| .skip 6 <| .inl [] <| .skip 8 <| .tidy [.keep [2], .cut [8] [] []] <| .inl [] <| .skip 23 <| .tidy [.keep [4, 5], .cut [4, 8] [] []] <| .inl [] <| .skip 7 <| .call ce_5 () fun _ => .inl [] <| .skip 6 <| .inl [] <| .skip 5 <| .unroll 300 <| .skip 7 <| .inl [] <| .skip 4 <| .unroll 300 <| .skip 15 <| .tidy [.keep [2], .cut [] [] []] <| .inl [] <| .skip 3 <| .inl [] <| .skip 10 <| .unroll 300 <| .skip 30 <| .tidy [.keep [6], .cut [] [] []] <| .inl [] <| .skip 5 <| .inl [] <| .skip 10 <| .unroll 300 <| .skip 56 <| .tidy [.keep [6], .cut [] [] []] <| .inl [] <| .skip 9 <| .inl [] <| .skip 7 <| .inl [] <| .skip 3 <| .inl [] <| .skip 17 <| .tidy [] <| .inl [] <| .skip 1 <| .tidy [] <| .inl [] <| .inl [] <| .skip 2 <| .unroll 300 <| .skip 10 <| .inl [] <| .skip 3 <| .unroll 300 <| .skip 4 <| .tidy [] <| .inl [] <| .tidy [] <| .inl [] <| .tidy [] <| .inl [] <| .skip 1 <| .inl [] <| .skip 7 <| .tidy [] <| .inl [] <| .skip 1 <| .tidy [.keep [2], .cut [11] [] []] <| .inl [] <| .skip 4 <| .inl [] <| .skip 4 <| .unroll 300 <| .skip 9 <| .inl [] <| .skip 5 <| .inl [] <| .skip 13 <| .unroll 300 <| .skip 6 <| .inl [] <| .skip 14 <| .tidy [] <| .inl [] <| .skip 10 <| .inl [] <| .skip 12 <| .tidy [] <| .inl [] <| .skip 10 <| .inl [] <| .skip 12 <| .tidy [] <| .inl [] <| .skip 10 <| .inl [] <| .skip 7 <| .inl [] <| .skip 4 <| .call ce_6 () fun _ => .skip 11 <| .inl [] <| .skip 4 <| .inl [] <| .skip 11 <| .tidy [.keep [2], .cut [] [] []] <| .inl [] <| .skip 2 <| .inl [] <| .skip 11 <| .tidy [.keep [2], .cut [] [] []] <| .inl [] <| .skip 12 <| .inl [] <| .skip 3 <| .inl [] <| .skip 11 <| .tidy [.keep [2], .cut [] [] []] <| .inl [] <| .skip 7 <| .inl [] <| .skip 5 <| .tidy [] <| .inl [] <| .skip 4 <| .tidy [.keep [4], .cut [] [] []] <| .inl [] <| .skip 2 <| .tidy [.keep [4], .cut [] [] []] <| .inl [] <| .skip 16 <| .tidy [.keep [4], .cut [] [] []] <| .inl [] <| .skip 2 <| .tidy [] <| .inl [] <| .skip 3 <| .tidy [.keep [6], .cut [] [] []] <| .inl [] <| .skip 1 <| .tidy [.keep [4], .cut [] [] []] <| .inl [] <| .skip 6 <| .tidy [] <| .inl [] <| .skip 15 <| .tidy [.keep [4, 5], .cut [7] [] []] <| .inl [] <| .skip 12 <| .tidy [.frz (fzRow (.s 48) 6 0 5 4 [(Go.L.Import.mk (7 : Int) false (Go.L.Prefix.mk (0 : Int) (0 : Int)) (3 : Int)), (Go.L.Import.mk (7 : Int) true (Go.L.Prefix.mk (167772160 : Int) (8 : Int)) (1 : Int)), (Go.L.Import.mk (8 : Int) false (Go.L.Prefix.mk (0 : Int) (0 : Int)) (2 : Int)), (Go.L.Import.mk (7 : Int) false (Go.L.Prefix.mk (0 : Int) (0 : Int)) (3 : Int))] Go.L.eImport fun _ => rfl)] <| .skip 1 <| .call ce_7 () fun _ => .skip 5 <| .call ce_8 () fun _ => .call ce_9 () fun _ => .skip 11 <| .call ce_10 () fun _ => .inl [] <| .skip 6 <| .inl [] <| .skip 5 <| .unroll 300 <| .skip 7 <| .inl [] <| .skip 4 <| .unroll 300 <| .skip 15 <| .tidy [.keep [2], .cut [] [] []] <| .inl [] <| .skip 3 <| .inl [] <| .skip 10 <| .unroll 300 <| .skip 30 <| .tidy [.keep [6], .cut [] [] []] <| .inl [] <| .skip 5 <| .inl [] <| .skip 10 <| .unroll 300 <| .skip 56 <| .tidy [.keep [6], .cut [] [] []] <| .inl [] <| .skip 9 <| .inl [] <| .skip 7 <| .inl [] <| .skip 3 <| .inl [] <| .skip 17 <| .tidy [] <| .inl [] <| .skip 1 <| .tidy [] <| .inl [] <| .inl [] <| .skip 2 <| .unroll 300 <| .skip 10 <| .inl [] <| .skip 3 <| .unroll 300 <| .skip 4 <| .tidy [] <| .inl [] <| .tidy [] <| .inl [] <| .tidy [] <| .inl [] <| .skip 1 <| .inl [] <| .skip 7 <| .tidy [] <| .inl [] <| .skip 1 <| .tidy [.keep [2], .cut [19] [] []] <| .inl [] <| .skip 4 <| .inl [] <| .skip 4 <| .unroll 300 <| .skip 9 <| .inl [] <| .skip 5 <| .inl [] <| .skip 13 <| .unroll 300 <| .skip 6 <| .inl [] <| .skip 14 <| .tidy [] <| .inl [] <| .skip 10 <| .inl [] <| .skip 12 <| .tidy [] <| .inl [] <| .skip 10 <| .inl [] <| .skip 12 <| .tidy [] <| .inl [] <| .skip 10 <| .inl [] <| .skip 10 <| .tidy [] <| .inl [] <| .skip 7 <| .tidy [.keep [6], .cut [] [] []] <| .inl [] <| .skip 1 <| .tidy [.keep [4], .cut [] [] []] <| .inl [] <| .skip 3 <| .tidy [] <| .inl [] <| .skip 21 <| .inl [] <| .skip 5 <| .tidy [] <| .inl [] <| .skip 6 <| .inl [] <| .skip 5 <| .tidy [] <| .inl [] <| .skip 6 <| .inl [] <| .skip 8 <| .tidy [.keep [2], .cut [19] [] []] <| .inl [] <| .skip 27 <| .inl [] <| .skip 9 <| .unroll 300 <| .skip 9 <| .op (msetO [] (@Go.AM.V8.mk Int (0 : Int) (2 : Int) (253 : Int) (232 : Int) (0 : Int) (0 : Int) (0 : Int) (7 : Int)) Go.L.S158.mk (fun (v : (V8 Int)) => .agg ((eV8 (cI .u8)) v)) (fun (v : S158) => .agg (eS158 v)) (fun (a b : (V8 Int)) => ((a.a0 == b.a0) && ((a.a1 == b.a1) && ((a.a2 == b.a2) && ((a.a3 == b.a3) && ((a.a4 == b.a4) && ((a.a5 == b.a5) && ((a.a6 == b.a6) && ((a.a7 == b.a7) && true))))))))) [(.int .u8), (.int .u8), (.int .u8), (.int .u8), (.int .u8), (.int .u8), (.int .u8), (.int .u8)] true 20) fun _ => .skip 6 <| .inl [prMap 20 ((Go.AM.putM (fun a b => ((a.a0 == b.a0) && ((a.a1 == b.a1) && ((a.a2 == b.a2) && ((a.a3 == b.a3) && ((a.a4 == b.a4) && ((a.a5 == b.a5) && ((a.a6 == b.a6) && ((a.a7 == b.a7) && true))))))))) (@Go.AM.V8.mk Int (0 : Int) (2 : Int) (253 : Int) (232 : Int) (0 : Int) (0 : Int) (0 : Int) (7 : Int)) Go.L.S158.mk [])) ((fun v => (.agg (Go.AM.eV8 (Go.AM.cI .u8) v)))) ((fun v => (.agg (Go.L.eS158 v)))) (fun _ => rfl) fun _ => rfl] <| .skip 3 <| .inl [prMap 20 ((Go.AM.putM (fun a b => ((a.a0 == b.a0) && ((a.a1 == b.a1) && ((a.a2 == b.a2) && ((a.a3 == b.a3) && ((a.a4 == b.a4) && ((a.a5 == b.a5) && ((a.a6 == b.a6) && ((a.a7 == b.a7) && true))))))))) (@Go.AM.V8.mk Int (0 : Int) (2 : Int) (253 : Int) (232 : Int) (0 : Int) (0 : Int) (0 : Int) (7 : Int)) Go.L.S158.mk [])) ((fun v => (.agg (Go.AM.eV8 (Go.AM.cI .u8) v)))) ((fun v => (.agg (Go.L.eS158 v)))) (fun _ => rfl) fun _ => rfl] <| .skip 4 <| .unroll 300 <| .skip 9 <| .inl [prMap 20 ((Go.AM.putM (fun a b => ((a.a0 == b.a0) && ((a.a1 == b.a1) && ((a.a2 == b.a2) && ((a.a3 == b.a3) && ((a.a4 == b.a4) && ((a.a5 == b.a5) && ((a.a6 == b.a6) && ((a.a7 == b.a7) && true))))))))) (@Go.AM.V8.mk Int (0 : Int) (2 : Int) (253 : Int) (232 : Int) (0 : Int) (0 : Int) (0 : Int) (7 : Int)) Go.L.S158.mk [])) ((fun v => (.agg (Go.AM.eV8 (Go.AM.cI .u8) v)))) ((fun v => (.agg (Go.L.eS158 v)))) (fun _ => rfl) fun _ => rfl] <| .skip 4 <| .op (mgetO (Go.AM.putM (fun a b => ((a.a0 == b.a0) && ((a.a1 == b.a1) && ((a.a2 == b.a2) && ((a.a3 == b.a3) && ((a.a4 == b.a4) && ((a.a5 == b.a5) && ((a.a6 == b.a6) && ((a.a7 == b.a7) && true))))))))) (@Go.AM.V8.mk Int (0 : Int) (2 : Int) (253 : Int) (232 : Int) (0 : Int) (0 : Int) (0 : Int) (7 : Int)) Go.L.S158.mk []) (@Go.AM.V8.mk Int (0 : Int) (2 : Int) (253 : Int) (232 : Int) (0 : Int) (0 : Int) (0 : Int) (7 : Int)) (fun (v : (V8 Int)) => .agg ((eV8 (cI .u8)) v)) (fun (v : S158) => .agg (eS158 v)) (fun (a b : (V8 Int)) => ((a.a0 == b.a0) && ((a.a1 == b.a1) && ((a.a2 == b.a2) && ((a.a3 == b.a3) && ((a.a4 == b.a4) && ((a.a5 == b.a5) && ((a.a6 == b.a6) && ((a.a7 == b.a7) && true))))))))) Go.L.S158.mk [(.int .u8), (.int .u8), (.int .u8), (.int .u8), (.int .u8), (.int .u8), (.int .u8), (.int .u8)] true true 20) fun _ => .skip 8 <| .tidy [.keep [3], .cut [] [] [puMap 20 ((Go.AM.putM (fun a b => ((a.a0 == b.a0) && ((a.a1 == b.a1) && ((a.a2 == b.a2) && ((a.a3 == b.a3) && ((a.a4 == b.a4) && ((a.a5 == b.a5) && ((a.a6 == b.a6) && ((a.a7 == b.a7) && true))))))))) (@Go.AM.V8.mk Int (0 : Int) (2 : Int) (253 : Int) (232 : Int) (0 : Int) (0 : Int) (0 : Int) (7 : Int)) Go.L.S158.mk [])) ((fun v => (.agg (Go.AM.eV8 (Go.AM.cI .u8) v)))) ((fun v => (.agg (Go.L.eS158 v)))) (fun _ => rfl) fun _ => rfl]] <| .inl [prMap 20 ((Go.AM.putM (fun a b => ((a.a0 == b.a0) && ((a.a1 == b.a1) && ((a.a2 == b.a2) && ((a.a3 == b.a3) && ((a.a4 == b.a4) && ((a.a5 == b.a5) && ((a.a6 == b.a6) && ((a.a7 == b.a7) && true))))))))) (@Go.AM.V8.mk Int (0 : Int) (2 : Int) (253 : Int) (232 : Int) (0 : Int) (0 : Int) (0 : Int) (7 : Int)) Go.L.S158.mk [])) ((fun v => (.agg (Go.AM.eV8 (Go.AM.cI .u8) v)))) ((fun v => (.agg (Go.L.eS158 v)))) (fun _ => rfl) fun _ => rfl] <| .skip 3 <| .tidy [] <| .inl [prMap 20 ((Go.AM.putM (fun a b => ((a.a0 == b.a0) && ((a.a1 == b.a1) && ((a.a2 == b.a2) && ((a.a3 == b.a3) && ((a.a4 == b.a4) && ((a.a5 == b.a5) && ((a.a6 == b.a6) && ((a.a7 == b.a7) && true))))))))) (@Go.AM.V8.mk Int (0 : Int) (2 : Int) (253 : Int) (232 : Int) (0 : Int) (0 : Int) (0 : Int) (7 : Int)) Go.L.S158.mk [])) ((fun v => (.agg (Go.AM.eV8 (Go.AM.cI .u8) v)))) ((fun v => (.agg (Go.L.eS158 v)))) (fun _ => rfl) fun _ => rfl] <| .skip 7 <| .unroll 300 <| .skip 13 <| .tidy [] <| .inl [prMap 20 ((Go.AM.putM (fun a b => ((a.a0 == b.a0) && ((a.a1 == b.a1) && ((a.a2 == b.a2) && ((a.a3 == b.a3) && ((a.a4 == b.a4) && ((a.a5 == b.a5) && ((a.a6 == b.a6) && ((a.a7 == b.a7) && true))))))))) (@Go.AM.V8.mk Int (0 : Int) (2 : Int) (253 : Int) (232 : Int) (0 : Int) (0 : Int) (0 : Int) (7 : Int)) Go.L.S158.mk [])) ((fun v => (.agg (Go.AM.eV8 (Go.AM.cI .u8) v)))) ((fun v => (.agg (Go.L.eS158 v)))) (fun _ => rfl) fun _ => rfl] <| .skip 4 <| .tidy [.frz (fzRow (.s 28) 19 1 8 2 [(@Go.AM.V8.mk Int (0 : Int) (2 : Int) (253 : Int) (232 : Int) (0 : Int) (0 : Int) (0 : Int) (9 : Int)), (@Go.AM.V8.mk Int (0 : Int) (2 : Int) (253 : Int) (232 : Int) (0 : Int) (0 : Int) (0 : Int) (9 : Int))] (Go.AM.eV8 (Go.AM.cI .u8)) fun _ => rfl)] <| .call c_comm_Sort [(@Go.AM.V8.mk Int (0 : Int) (2 : Int) (253 : Int) (232 : Int) (0 : Int) (0 : Int) (0 : Int) (9 : Int)), (@Go.AM.V8.mk Int (0 : Int) (2 : Int) (253 : Int) (232 : Int) (0 : Int) (0 : Int) (0 : Int) (9 : Int))] fun (r3 : (List (Go.AM.V8 Int))) => .skip 1 <| .tidy [.keep [6], .cut [] [] []] <| .inl [] <| .skip 6 <| .op (lenO r3 (Go.AM.eV8 (Go.AM.cI .u8))) fun _ => .skip 1 <| .br 90 (decide ((((List.length r3) : Nat) : Int) > (64 : Int))) (.skip 4 <| .tidy [.keep [4, 5], .cut [15] [] []] <| .inl [] <| .skip 6 <| .call ce_10 () fun _ => .inl [] <| .skip 6 <| .inl [] <| .skip 5 <| .unroll 300 <| .skip 7 <| .inl [] <| .skip 4 <| .unroll 300 <| .skip 15 <| .tidy [.keep [2], .cut [] [] []] <| .inl [] <| .skip 3 <| .inl [] <| .skip 10 <| .unroll 300 <| .skip 30 <| .tidy [.keep [6], .cut [] [] []] <| .inl [] <| .skip 5 <| .inl [] <| .skip 10 <| .unroll 300 <| .skip 56 <| .tidy [.keep [6], .cut [] [] []] <| .inl [] <| .skip 9 <| .inl [] <| .skip 7 <| .inl [] <| .skip 3 <| .inl [] <| .skip 17 <| .tidy [] <| .inl [] <| .skip 1 <| .tidy [] <| .inl [] <| .inl [] <| .skip 2 <| .unroll 300 <| .skip 10 <| .inl [] <| .skip 3 <| .unroll 300 <| .skip 4 <| .tidy [] <| .inl [] <| .tidy [] <| .inl [] <| .tidy [] <| .inl [] <| .skip 1 <| .inl [] <| .skip 7 <| .tidy [] <| .inl [] <| .skip 1 <| .tidy [.keep [2], .cut [20] [] []] <| .inl [] <| .skip 4 <| .inl [] <| .skip 4 <| .unroll 300 <| .skip 3 <| .tidy [] <| .inl [] <| .skip 15 <| .tidy [.keep [4, 5], .cut [16] [] []] <| .inl [] <| .skip 6 <| .call ce_11 () fun _ => .call ce_12 () fun _ => .skip 7 <| .call ce_13 () fun _ => .skip 18 <| .call c_policy_Imports ([(Go.L.Import.mk (7 : Int) false (Go.L.Prefix.mk (0 : Int) (0 : Int)) (3 : Int)), (Go.L.Import.mk (7 : Int) true (Go.L.Prefix.mk (167772160 : Int) (8 : Int)) (1 : Int)), (Go.L.Import.mk (8 : Int) false (Go.L.Prefix.mk (0 : Int) (0 : Int)) (2 : Int)), (Go.L.Import.mk (7 : Int) false (Go.L.Prefix.mk (0 : Int) (0 : Int)) (3 : Int))], (Go.L.Route.mk (Go.L.NLRI.mk (2 : Int) (0 : Int) (@Go.AM.V10.mk Int (0 : Int) (0 : Int) (0 : Int) (0 : Int) (0 : Int) (0 : Int) (0 : Int) (0 : Int) (0 : Int) (0 : Int)) (0 : Int) (1 : Int) (0 : Int) false (Go.L.Prefix.mk (0 : Int) (0 : Int)) (0 : Int) (0 : Int) (0 : Int)) (Go.L.Attrs.mk (0 : Int) [] (0 : Int) false (0 : Int) false (0 : Int) false (0 : Int) [] [(@Go.AM.V8.mk Int (0 : Int) (2 : Int) (253 : Int) (232 : Int) (0 : Int) (0 : Int) (0 : Int) (7 : Int))] (Go.L.Tunnel.mk (0 : Int) (0 : Int) (0 : Int) (0 : Int))) (3 : Int) false)) fun (r4 : (List Int)) => .skip 1 <| .call c_kit_Same_int (r4, [(3 : Int)]) fun (r5 : Bool) => .skip 2 <| .br 97 r5 (.skip 1 <| .call ce_14 () fun _ => .call c_policy_Imports ([(Go.L.Import.mk (7 : Int) false (Go.L.Prefix.mk (0 : Int) (0 : Int)) (3 : Int)), (Go.L.Import.mk (7 : Int) true (Go.L.Prefix.mk (167772160 : Int) (8 : Int)) (1 : Int)), (Go.L.Import.mk (8 : Int) false (Go.L.Prefix.mk (0 : Int) (0 : Int)) (2 : Int)), (Go.L.Import.mk (7 : Int) false (Go.L.Prefix.mk (0 : Int) (0 : Int)) (3 : Int))], (Go.L.Route.mk (Go.L.NLRI.mk (2 : Int) (0 : Int) (@Go.AM.V10.mk Int (0 : Int) (0 : Int) (0 : Int) (0 : Int) (0 : Int) (0 : Int) (0 : Int) (0 : Int) (0 : Int) (0 : Int)) (0 : Int) (1 : Int) (167772161 : Int) true (Go.L.Prefix.mk (0 : Int) (0 : Int)) (0 : Int) (0 : Int) (0 : Int)) (Go.L.Attrs.mk (0 : Int) [] (0 : Int) false (0 : Int) false (0 : Int) false (0 : Int) [] [(@Go.AM.V8.mk Int (0 : Int) (2 : Int) (253 : Int) (232 : Int) (0 : Int) (0 : Int) (0 : Int) (7 : Int))] (Go.L.Tunnel.mk (0 : Int) (0 : Int) (0 : Int) (0 : Int))) (3 : Int) false)) fun (r6 : (List Int)) => .skip 1 <| .call c_kit_Same_int (r6, [(1 : Int), (3 : Int)]) fun (r7 : Bool) => .skip 2 <| .br 104 r7 (.skip 1 <| .call ce_15 () fun _ => .call c_policy_Imports ([(Go.L.Import.mk (7 : Int) false (Go.L.Prefix.mk (0 : Int) (0 : Int)) (3 : Int)), (Go.L.Import.mk (7 : Int) true (Go.L.Prefix.mk (167772160 : Int) (8 : Int)) (1 : Int)), (Go.L.Import.mk (8 : Int) false (Go.L.Prefix.mk (0 : Int) (0 : Int)) (2 : Int)), (Go.L.Import.mk (7 : Int) false (Go.L.Prefix.mk (0 : Int) (0 : Int)) (3 : Int))], (Go.L.Route.mk (Go.L.NLRI.mk (2 : Int) (0 : Int) (@Go.AM.V10.mk Int (0 : Int) (0 : Int) (0 : Int) (0 : Int) (0 : Int) (0 : Int) (0 : Int) (0 : Int) (0 : Int) (0 : Int)) (0 : Int) (1 : Int) (167772160 : Int) true (Go.L.Prefix.mk (0 : Int) (0 : Int)) (0 : Int) (0 : Int) (0 : Int)) (Go.L.Attrs.mk (0 : Int) [] (0 : Int) false (0 : Int) false (0 : Int) false (0 : Int) [] [(@Go.AM.V8.mk Int (0 : Int) (2 : Int) (253 : Int) (232 : Int) (0 : Int) (0 : Int) (0 : Int) (9 : Int))] (Go.L.Tunnel.mk (0 : Int) (0 : Int) (0 : Int) (0 : Int))) (3 : Int) false)) fun (r8 : (List Int)) => .op (lenO r8 (Go.AM.eI .i64)) fun _ => .skip 3 <| .br 111 ((((List.length r8) : Nat) : Int) == (0 : Int)) (.skip 51 <| .done [] false) (.skip 51 <| .done [] false)) (.skip 58 <| .done [] false)) (.skip 65 <| .done [] false)) (.skip 4 <| .tidy [.keep [4, 5], .cut [15] [] []] <| .inl [] <| .skip 6 <| .call ce_10 () fun _ => .inl [] <| .skip 6 <| .inl [] <| .skip 5 <| .unroll 300 <| .skip 7 <| .inl [] <| .skip 4 <| .unroll 300 <| .skip 15 <| .tidy [.keep [2], .cut [] [] []] <| .inl [] <| .skip 3 <| .inl [] <| .skip 10 <| .unroll 300 <| .skip 30 <| .tidy [.keep [6], .cut [] [] []] <| .inl [] <| .skip 5 <| .inl [] <| .skip 10 <| .unroll 300 <| .skip 56 <| .tidy [.keep [6], .cut [] [] []] <| .inl [] <| .skip 9 <| .inl [] <| .skip 7 <| .inl [] <| .skip 3 <| .inl [] <| .skip 17 <| .tidy [] <| .inl [] <| .skip 1 <| .tidy [] <| .inl [] <| .inl [] <| .skip 2 <| .unroll 300 <| .skip 10 <| .inl [] <| .skip 3 <| .unroll 300 <| .skip 4 <| .tidy [] <| .inl [] <| .tidy [] <| .inl [] <| .tidy [] <| .inl [] <| .skip 1 <| .inl [] <| .skip 7 <| .tidy [] <| .inl [] <| .skip 1 <| .tidy [.keep [2], .cut [20] [] []] <| .inl [] <| .skip 4 <| .inl [] <| .skip 4 <| .unroll 300 <| .skip 3 <| .tidy [] <| .inl [] <| .skip 15 <| .tidy [.keep [4, 5], .cut [16] [] []] <| .inl [] <| .skip 6 <| .call ce_11 () fun _ => .call ce_12 () fun _ => .skip 7 <| .call ce_13 () fun _ => .skip 18 <| .call c_policy_Imports ([(Go.L.Import.mk (7 : Int) false (Go.L.Prefix.mk (0 : Int) (0 : Int)) (3 : Int)), (Go.L.Import.mk (7 : Int) true (Go.L.Prefix.mk (167772160 : Int) (8 : Int)) (1 : Int)), (Go.L.Import.mk (8 : Int) false (Go.L.Prefix.mk (0 : Int) (0 : Int)) (2 : Int)), (Go.L.Import.mk (7 : Int) false (Go.L.Prefix.mk (0 : Int) (0 : Int)) (3 : Int))], (Go.L.Route.mk (Go.L.NLRI.mk (2 : Int) (0 : Int) (@Go.AM.V10.mk Int (0 : Int) (0 : Int) (0 : Int) (0 : Int) (0 : Int) (0 : Int) (0 : Int) (0 : Int) (0 : Int) (0 : Int)) (0 : Int) (1 : Int) (0 : Int) false (Go.L.Prefix.mk (0 : Int) (0 : Int)) (0 : Int) (0 : Int) (0 : Int)) (Go.L.Attrs.mk (0 : Int) [] (0 : Int) false (0 : Int) false (0 : Int) false (0 : Int) [] [(@Go.AM.V8.mk Int (0 : Int) (2 : Int) (253 : Int) (232 : Int) (0 : Int) (0 : Int) (0 : Int) (7 : Int))] (Go.L.Tunnel.mk (0 : Int) (0 : Int) (0 : Int) (0 : Int))) (3 : Int) false)) fun (r13 : (List Int)) => .skip 1 <| .call c_kit_Same_int (r13, [(3 : Int)]) fun (r14 : Bool) => .skip 2 <| .br 97 r14 (.skip 1 <| .call ce_14 () fun _ => .call c_policy_Imports ([(Go.L.Import.mk (7 : Int) false (Go.L.Prefix.mk (0 : Int) (0 : Int)) (3 : Int)), (Go.L.Import.mk (7 : Int) true (Go.L.Prefix.mk (167772160 : Int) (8 : Int)) (1 : Int)), (Go.L.Import.mk (8 : Int) false (Go.L.Prefix.mk (0 : Int) (0 : Int)) (2 : Int)), (Go.L.Import.mk (7 : Int) false (Go.L.Prefix.mk (0 : Int) (0 : Int)) (3 : Int))], (Go.L.Route.mk (Go.L.NLRI.mk (2 : Int) (0 : Int) (@Go.AM.V10.mk Int (0 : Int) (0 : Int) (0 : Int) (0 : Int) (0 : Int) (0 : Int) (0 : Int) (0 : Int) (0 : Int) (0 : Int)) (0 : Int) (1 : Int) (167772161 : Int) true (Go.L.Prefix.mk (0 : Int) (0 : Int)) (0 : Int) (0 : Int) (0 : Int)) (Go.L.Attrs.mk (0 : Int) [] (0 : Int) false (0 : Int) false (0 : Int) false (0 : Int) [] [(@Go.AM.V8.mk Int (0 : Int) (2 : Int) (253 : Int) (232 : Int) (0 : Int) (0 : Int) (0 : Int) (7 : Int))] (Go.L.Tunnel.mk (0 : Int) (0 : Int) (0 : Int) (0 : Int))) (3 : Int) false)) fun (r15 : (List Int)) => .skip 1 <| .call c_kit_Same_int (r15, [(1 : Int), (3 : Int)]) fun (r16 : Bool) => .skip 2 <| .br 104 r16 (.skip 1 <| .call ce_15 () fun _ => .call c_policy_Imports ([(Go.L.Import.mk (7 : Int) false (Go.L.Prefix.mk (0 : Int) (0 : Int)) (3 : Int)), (Go.L.Import.mk (7 : Int) true (Go.L.Prefix.mk (167772160 : Int) (8 : Int)) (1 : Int)), (Go.L.Import.mk (8 : Int) false (Go.L.Prefix.mk (0 : Int) (0 : Int)) (2 : Int)), (Go.L.Import.mk (7 : Int) false (Go.L.Prefix.mk (0 : Int) (0 : Int)) (3 : Int))], (Go.L.Route.mk (Go.L.NLRI.mk (2 : Int) (0 : Int) (@Go.AM.V10.mk Int (0 : Int) (0 : Int) (0 : Int) (0 : Int) (0 : Int) (0 : Int) (0 : Int) (0 : Int) (0 : Int) (0 : Int)) (0 : Int) (1 : Int) (167772160 : Int) true (Go.L.Prefix.mk (0 : Int) (0 : Int)) (0 : Int) (0 : Int) (0 : Int)) (Go.L.Attrs.mk (0 : Int) [] (0 : Int) false (0 : Int) false (0 : Int) false (0 : Int) [] [(@Go.AM.V8.mk Int (0 : Int) (2 : Int) (253 : Int) (232 : Int) (0 : Int) (0 : Int) (0 : Int) (9 : Int))] (Go.L.Tunnel.mk (0 : Int) (0 : Int) (0 : Int) (0 : Int))) (3 : Int) false)) fun (r17 : (List Int)) => .op (lenO r17 (Go.AM.eI .i64)) fun _ => .skip 3 <| .br 111 ((((List.length r17) : Nat) : Int) == (0 : Int)) (.skip 8 <| .call c_kit_Same_Comm (r3, [(@Go.AM.V8.mk Int (0 : Int) (2 : Int) (253 : Int) (232 : Int) (0 : Int) (0 : Int) (0 : Int) (9 : Int))]) fun (r18 : Bool) => .skip 2 <| .br 122 r18 (.skip 17 <| .call ce_16 () fun _ => .call ce_17 () fun _ => .skip 3 <| .call ce_16 () fun _ => .call ce_18 () fun _ => .skip 5 <| .call ce_10 () fun _ => .call ce_19 () fun _ => .skip 5 <| .call ce_10 () fun _ => .call ce_20 () fun _ => .skip 2 <| .done [] true) (.skip 40 <| .done [] false)) (.skip 51 <| .done [] false)) (.skip 58 <| .done [] false)) (.skip 65 <| .done [] false)))
noncomputable def c_law19_PolicyNames : Ctr prog := Ctr.of cfgN 10 4 (Unit) (fun x => []) (.one Bool) (fun r => .ret (.sc (.bool r))) (fun x => g_law19_PolicyNames ) (fun x => by kernel_rfl)

end Go.L
