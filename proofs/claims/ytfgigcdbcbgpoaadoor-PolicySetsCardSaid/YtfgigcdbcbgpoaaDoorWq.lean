/- Put together out of parts. No conditions. -/
import Derived.Test.YtfgigcdbcbgpoaaDoorWo
import Derived.Test.YtfgigcdbcbgpoaaDoorAmSo
import Derived.Test.YtfgigcdbcbgpoaaDoorAmSh
import Derived.Lib.SlicesCompact
/- The library's sort by a function and math/bits.Len, laid at this program, as contracts. No conditions. -/
namespace Go.Proofs
open Go.Shelf
set_option maxRecDepth 100000
def Tryd.sortK_ren : Shelf.Ren where
  f := fun x => match x with
    | 6 => 77
    | 15 => 98
    | 14 => 99
    | 28 => 123
    | 29 => 124
    | 20 => 125
    | 21 => 126
    | 22 => 127
    | 23 => 128
    | 24 => 129
    | 25 => 130
    | 26 => 131
    | 27 => 132
    | 46 => 146
    | 47 => 141
    | 48 => 142
    | 49 => 147
    | 50 => 148
    | 57 => 154
    | n => n
  t := fun x => match x with
    | 22 => 25
    | 24 => 29
    | 25 => 114
    | 3 => 3
    | 39 => 101
    | 0 => 0
    | 53 => 27
    | 55 => 34
    | 4 => 4
    | 46 => 145
    | 45 => 144
    | 50 => 47
    | 5 => 5
    | 9 => 9
    | 66 => 164
    | 70 => 168
    | 76 => 174
    | 77 => 175
    | n => n
  g := fun n => n
theorem Tryd.sortK : SlLaysF0.n6 Tryd.prog Tryd.sortK_ren where
  mixed := by kernel_rfl
  f6 := ⟨"slices.SortFunc[[]leafmesh/api.Comm,leafmesh/api.Comm]", of_decide_eq_true (by kernel_rfl), Eq.trans Tryd.func77 (by kernel_rfl)⟩
  f14 := ⟨"slices.pdqsortCmpFunc[leafmesh/api.Comm]", of_decide_eq_true (by kernel_rfl), Eq.trans Tryd.func99 (by kernel_rfl)⟩
  f15 := Eq.trans Tryd.func98 (by kernel_rfl)
  f20 := ⟨"slices.insertionSortCmpFunc[leafmesh/api.Comm]", of_decide_eq_true (by kernel_rfl), Eq.trans Tryd.func125 (by kernel_rfl)⟩
  f21 := ⟨"slices.heapSortCmpFunc[leafmesh/api.Comm]", of_decide_eq_true (by kernel_rfl), Eq.trans Tryd.func126 (by kernel_rfl)⟩
  f22 := ⟨"slices.breakPatternsCmpFunc[leafmesh/api.Comm]", of_decide_eq_true (by kernel_rfl), Eq.trans Tryd.func127 (by kernel_rfl)⟩
  f23 := ⟨"slices.choosePivotCmpFunc[leafmesh/api.Comm]", of_decide_eq_true (by kernel_rfl), Eq.trans Tryd.func128 (by kernel_rfl)⟩
  f24 := ⟨"slices.reverseRangeCmpFunc[leafmesh/api.Comm]", of_decide_eq_true (by kernel_rfl), Eq.trans Tryd.func129 (by kernel_rfl)⟩
  f25 := ⟨"slices.partialInsertionSortCmpFunc[leafmesh/api.Comm]", of_decide_eq_true (by kernel_rfl), Eq.trans Tryd.func130 (by kernel_rfl)⟩
  f26 := ⟨"slices.partitionEqualCmpFunc[leafmesh/api.Comm]", of_decide_eq_true (by kernel_rfl), Eq.trans Tryd.func131 (by kernel_rfl)⟩
  f27 := ⟨"slices.partitionCmpFunc[leafmesh/api.Comm]", of_decide_eq_true (by kernel_rfl), Eq.trans Tryd.func132 (by kernel_rfl)⟩
  f28 := Eq.trans Tryd.func123 (by kernel_rfl)
  f29 := Eq.trans Tryd.func124 (by kernel_rfl)
  f46 := ⟨"slices.siftDownCmpFunc[leafmesh/api.Comm]", of_decide_eq_true (by kernel_rfl), Eq.trans Tryd.func146 (by kernel_rfl)⟩
  f47 := Eq.trans Tryd.func141 (by kernel_rfl)
  f48 := Eq.trans Tryd.func142 (by kernel_rfl)
  f49 := ⟨"slices.medianAdjacentCmpFunc[leafmesh/api.Comm]", of_decide_eq_true (by kernel_rfl), Eq.trans Tryd.func147 (by kernel_rfl)⟩
  f50 := ⟨"slices.medianCmpFunc[leafmesh/api.Comm]", of_decide_eq_true (by kernel_rfl), Eq.trans Tryd.func148 (by kernel_rfl)⟩
  f57 := ⟨"slices.order2CmpFunc[leafmesh/api.Comm]", of_decide_eq_true (by kernel_rfl), Eq.trans Tryd.func154 (by kernel_rfl)⟩
  t0 := Tryd.underlying0
  a0 := Tryd.isAgg0
  z0 := Tryd.sizeOf0
  v0 := Tryd.zeroValue0
  t3 := Tryd.underlying3
  a3 := Tryd.isAgg3
  z3 := Tryd.sizeOf3
  v3 := Tryd.zeroValue3
  t4 := Tryd.underlying4
  a4 := Tryd.isAgg4
  z4 := Tryd.sizeOf4
  v4 := Tryd.zeroValue4
  t5 := Tryd.underlying5
  a5 := Tryd.isAgg5
  z5 := Tryd.sizeOf5
  v5 := Tryd.zeroValue5
  t9 := Tryd.underlying9
  a9 := Tryd.isAgg9
  z9 := Tryd.sizeOf9
  v9 := Tryd.zeroValue9
  t22 := Tryd.underlying25
  a22 := Tryd.isAgg25
  z22 := Tryd.sizeOf25
  v22 := Tryd.zeroValue25
  t25 := Tryd.underlying114
  a25 := Tryd.isAgg114
  z25 := Tryd.sizeOf114
  v25 := Tryd.zeroValue114
  t39 := Tryd.underlying101
  a39 := Tryd.isAgg101
  z39 := Tryd.sizeOf101
  v39 := Tryd.zeroValue101
  t45 := Tryd.underlying144
  a45 := Tryd.isAgg144
  z45 := Tryd.sizeOf144
  v45 := Tryd.zeroValue144
  t46 := Tryd.underlying145
  a46 := Tryd.isAgg145
  z46 := Tryd.sizeOf145
  v46 := Tryd.zeroValue145
  t50 := Tryd.underlying47
  a50 := Tryd.isAgg47
  z50 := Tryd.sizeOf47
  v50 := Tryd.zeroValue47
  t53 := Tryd.underlying27
  a53 := Tryd.isAgg27
  z53 := Tryd.sizeOf27
  v53 := Tryd.zeroValue27
  t55 := Tryd.underlying34
  a55 := Tryd.isAgg34
  z55 := Tryd.sizeOf34
  v55 := Tryd.zeroValue34
  t66 := Tryd.underlying164
  a66 := Tryd.isAgg164
  z66 := Tryd.sizeOf164
  v66 := Tryd.zeroValue164
  t70 := Tryd.underlying168
  a70 := Tryd.isAgg168
  z70 := Tryd.sizeOf168
  v70 := Tryd.zeroValue168
  t76 := Tryd.underlying174
  a76 := Tryd.isAgg174
  z76 := Tryd.sizeOf174
  v76 := Tryd.zeroValue174
  t77 := Tryd.underlying175
  a77 := Tryd.isAgg175
  z77 := Tryd.sizeOf175
  v77 := Tryd.zeroValue175
end Go.Proofs
namespace Go.L
open Go.AM Go.Proofs Go.Shelf
set_option linter.unusedVariables false
theorem bitsLen_val (x : Int) (h0 : 0 ≤ x) (h1 : x < 18446744073709551616) : FnVal prog 98 [.sc (.int .u64 x)] (.ret (.sc (.int .i64 (Lib.bitLen x.toNat : Nat)))) := by
  refine ⟨⟨Tryd.f98, _, Tryd.func98, rfl, by decide⟩, fun g w vs hi hl => ?_⟩
  simp only [RL, R] at hl
  obtain ⟨y, ys, hv, rfl, rfl⟩ := hl
  obtain rfl : vs = #[.int .u64 x] := by apply Array.ext'; simpa using hv
  have h := Any.bits_Len (SlLaysF0.n15.bits (P := prog) (ρ := Tryd.sortK_ren) { Tryd.sortK with }) x w h0 (by omega)
  exact Calls.mono h fun e w' ⟨he, hw⟩ => by
    subst he; subst hw
    exact ⟨g, hi, Later.refl _ _ _, _, rfl, by simp [R]⟩
def bitsLenS (x : Int) : Option Int := if 0 ≤ x ∧ x < 18446744073709551616 then some (Lib.bitLen x.toNat : Nat) else none
theorem bitsLen_ok (x r : Int) (h : bitsLenS x = some r) : FnVal prog 98 [.sc (.int .u64 x)] (.ret (.sc (.int .i64 r))) := by
  unfold bitsLenS at h
  split at h
  · rename_i hc
    cases h
    exact bitsLen_val x hc.1 hc.2
  · cases h
noncomputable def c_math_bits_Len : Ctr prog := { f := 98, X := Int, args := fun x => [.sc (.int .u64 x)], sh := .one Int, out := fun r => .ret (.sc (.int .i64 r)), S := fun _ x => bitsLenS x, ok := fun _ x r h => bitsLen_ok x r h }
end Go.L
/- comm.Sort, told by guides on the library's sort and Compact. No conditions. -/
namespace Go.L
open Go.AM Go.Proofs Go.Sort
set_option maxRecDepth 100000
set_option linter.unusedVariables false
set_option linter.unusedSimpArgs false
def cfgS : Cfg := { val := fun f => ![60,61,62,63,67,76,77,80,88,89,97,109,114,115,116,117,118,119,121,122,140,142,143,144,153,99,125,79].contains f, kill := fun _ _ => [] }
/- leafmesh/comm.Sort$1 -/
noncomputable def g_comm_Sort_1 (x1 : (Go.AM.V8 Int)) (x2 : (Go.AM.V8 Int)) : G prog (Sh.El (.one Int)) :=
  .skip 5 <| .inl [] <| .skip 5 <| .tidy [] <| .inl [] <| .skip 1 <| .done [] (Go.Lib.compareBytes (Go.Lib.bytesOf [x1.a0, x1.a1, x1.a2, x1.a3, x1.a4, x1.a5, x1.a6, x1.a7]) (Go.Lib.bytesOf [x2.a0, x2.a1, x2.a2, x2.a3, x2.a4, x2.a5, x2.a6, x2.a7]))
noncomputable def c_comm_Sort_1 : Ctr prog := Ctr.of cfgS 10 78 ((Go.AM.V8 Int) × (Go.AM.V8 Int)) (fun x => [.agg ((eV8 (cI .u8)) x.1), .agg ((eV8 (cI .u8)) x.2)]) (.one Int) (fun r => .ret (.sc (.int .i64 r))) (fun x => g_comm_Sort_1 x.1 x.2) (fun x => by kernel_rfl)


def encV8 (x : V8 Int) : List Value := [.int .u8 x.a0, .int .u8 x.a1, .int .u8 x.a2, .int .u8 x.a3, .int .u8 x.a4, .int .u8 x.a5, .int .u8 x.a6, .int .u8 x.a7]
def byV8 (x : V8 Int) : List UInt8 := Lib.bytesOf [x.a0, x.a1, x.a2, x.a3, x.a4, x.a5, x.a6, x.a7]
def cfC (x y : V8 Int) : Int := Lib.compareBytes (byV8 x) (byV8 y)
instance inhV8 : Inhabited (V8 Int) := ⟨⟨0, 0, 0, 0, 0, 0, 0, 0⟩⟩
theorem cmpB_lt : ∀ (a b : List UInt8), Lib.compareBytes a b < 0 ↔ a < b
  | [], [] => by simp [Lib.compareBytes]
  | [], _ :: _ => by simp [Lib.compareBytes]
  | _ :: _, [] => by simp [Lib.compareBytes]
  | a :: ar, b :: br => by
    rw [Lib.compareBytes, List.cons_lt_cons_iff]
    by_cases h : a < b
    · simp [h]
    · rw [if_neg h]
      by_cases h' : b < a
      · rw [if_pos h']
        have hne : a ≠ b := fun e => by subst e; exact h h'
        simp [h, hne]
      · rw [if_neg h']
        have he : a = b := UInt8.le_antisymm (UInt8.not_lt.1 h') (UInt8.not_lt.1 h)
        subst he
        simp [cmpB_lt ar br]
theorem ltC_iff (x y : V8 Int) : ltOf cfC x y = true ↔ byV8 x < byV8 y := by
  simp only [ltOf, decide_eq_true_eq, cfC, cmpB_lt]
theorem ltC_swo : SWO (ltOf cfC) where
  irrefl := fun x => by
    have := mt (ltC_iff x x).1 (List.lt_irrefl _)
    simpa using this
  trans := fun x y z h1 h2 => (ltC_iff x z).2 (List.lt_trans ((ltC_iff x y).1 h1) ((ltC_iff y z).1 h2))
  ntrans := fun x y z h1 h2 => by
    have e : ∀ a b, ltOf cfC a b = false ↔ byV8 b ≤ byV8 a := fun a b => by
      rw [← List.not_lt, ← ltC_iff]; simp
    rw [e] at h1 h2 ⊢
    exact List.le_trans h2 h1
theorem sortC_cmp (x y : V8 Int) : FnVal prog 78 [.agg (encA encV8 x), .agg (encA encV8 y)] (.ret (.sc (.int .i64 (cfC x y)))) := by
  have h : c_comm_Sort_1.S 0 (x, y) = some (cfC x y) := by kernel_rfl
  exact c_comm_Sort_1.ok 0 (x, y) (cfC x y) h
noncomputable def sortCv (l : List (V8 Int)) : List (V8 Int) := (pdq (ltOf cfC) l.toArray 0 l.length (Lib.bitLen l.length) true true).toList
theorem sortC_ref (l : List (V8 Int)) (hsz : l.length < 4611686018427387904) :
    FnRef prog 77 [.sl 0 0 8 0 l.length, .fn (.func 78) [] []] [.row 0 8 (l.map (eV8 (cI .u8)))] (.ret nothing) [.row 0 8 ((sortCv l).map (eV8 (cI .u8)))] :=
  sortFunc_ref (P := prog) (ρ := Tryd.sortK_ren) Tryd.sortK (gf := 78) (enc := encV8) (k := 8) (fun _ => rfl) (by omega) (fun x v hv => by
    simp only [encV8, List.mem_cons, List.not_mem_nil, or_false] at hv
    rcases hv with h | h | h | h | h | h | h | h <;> subst h <;> rfl) (cf := cfC) ltC_swo Tryd.isAgg29 Tryd.sizeOf29 (fun args w => by
    simp [callFunc, Tryd.func78]; rfl) ⟨Tryd.f77, _, Tryd.func77, rfl, by decide⟩ sortC_cmp l hsz
theorem fnRef_tup0 {f : FuncId} {a : List AVal} {H H1 : List ABlk} (h : FnRef prog f a H (.ret nothing) H1) : FnRef prog f a H (.ret (.tup [])) H1 :=
  ⟨h.1, fun g w vs hi hl => (h.2 g w vs hi hl).mono fun e w' ⟨g', h1, h2, x, h3, h4⟩ => ⟨g', h1, h2, x, h3, by
    simp only [nothing, R] at h4
    subst h4
    simp [R, RL]⟩⟩
noncomputable def sortCS (x : List (V8 Int) × Nat) : Option (List (V8 Int)) := if x.2 = x.1.length ∧ x.1.length < 4611686018427387904 then some (sortCv x.1) else none
theorem sortCS_ok (x : List (V8 Int) × Nat) (r : List (V8 Int)) (h : sortCS x = some r) : FnRef prog 77 [.sl 0 0 8 0 x.2, .fn (.func 78) [] []] [.row 0 8 (x.1.map (eV8 (cI .u8)))] (.ret (.tup [])) [.row 0 8 (r.map (eV8 (cI .u8)))] := by
  unfold sortCS at h
  split at h
  · rename_i hc
    cases h
    rw [hc.1]
    exact fnRef_tup0 (sortC_ref x.1 hc.2)
  · cases h
noncomputable def c_slices_SortFunc_Comm_Comm : Ctr1 prog := { f := 77, X := List (V8 Int) × Nat, args := fun x => [.sl 0 0 8 0 x.2, .fn (.func 78) [] []], blk := fun x => .row 0 8 (x.1.map (eV8 (cI .u8))), sh := .one (List (V8 Int)), out := fun (_ : List (V8 Int)) => .ret (.tup []), outB := fun _ (r : List (V8 Int)) => .row 0 8 (r.map (eV8 (cI .u8))), S := fun _ x => sortCS x, a0 := fun _ => rfl, b0 := fun x => by simp [ABlk.row0, eV8, cI, AVal.pureL, AVal.pure], b1 := fun _ (r : List (V8 Int)) => .inl (by simp [ABlk.row0, eV8, cI, AVal.pureL, AVal.pure]), r0 := fun _ => rfl, ok := fun _ x r h => sortCS_ok x r h }
/- slices.Compact[[]leafmesh/api.Comm,leafmesh/api.Comm] -/
noncomputable def g_slices_Compact_Comm_Comm (x1 : (List (Go.AM.V8 Int))) (x2 : Nat) : G prog (Sh.El (.one (Prod Nat (List (Go.AM.V8 Int))))) :=
  .skip 4 <| .br 8 (decide (((x2 : Nat) : Int) < (2 : Int))) (.skip 3 <| .done [] (x2, x1)) (.skip 2 <| .loop (.two (.one (Prod Nat (List (Go.AM.V8 Int)))) (.one Unit)) [.keep [0, 3]] (fun (a : Int) => ⟨[(.sl 0 0 8 0 x2), .junk, .junk, .sc (.int .i64 a)] ++ List.replicate 57 .junk, [(.row 0 8 (List.map (Go.AM.eV8 (Go.AM.cI .u8)) x1))], []⟩)
    (Sum.elim (fun (t : (Prod Nat (List (Go.AM.V8 Int)))) => (.ret, ⟨[.junk, .junk, .sl 0 0 8 0 t.1] ++ List.replicate 58 .junk, [.row 0 8 (t.2.map (eV8 (cI .u8)))], []⟩)) (fun (_ : Unit) => (.exit 0, ⟨[(.sl 0 0 8 0 x2)] ++ List.replicate 60 .junk, [(.row 0 8 (List.map (Go.AM.eV8 (Go.AM.cI .u8)) x1))], []⟩))) (1 : Int)
    (fun (a4 : Int) => .skip 4 <| .br 13 (decide (a4 < ((x2 : Nat) : Int))) (.skip 3 <| .op (idxS x2 8 0 0 a4) fun _ => .op (ldO x1 (Go.AM.eV8 (Go.AM.cI .u8)) 8 0 0 (Int.toNat a4) 0 fun v => .agg ((eV8 (cI .u8)) v)) fun x5 => .skip 3 <| .op (idxS x2 8 0 0 (Go.IntKind.wrap .i64 (a4 - (1 : Int)))) fun _ => .op (ldO x1 (Go.AM.eV8 (Go.AM.cI .u8)) 8 0 0 (Int.toNat (Go.IntKind.wrap .i64 (a4 - (1 : Int)))) 0 fun v => .agg ((eV8 (cI .u8)) v)) fun x6 => .skip 1 <| .br 25 ((x5.a0 == x6.a0) && ((x5.a1 == x6.a1) && ((x5.a2 == x6.a2) && ((x5.a3 == x6.a3) && ((x5.a4 == x6.a4) && ((x5.a5 == x6.a5) && ((x5.a6 == x6.a6) && ((x5.a7 == x6.a7) && true)))))))) (.skip 3 <| .op (slcL x2 8 0 0 0 a4) fun h7 => .skip 2 <| .loop (.one (Prod Int (List (Go.AM.V8 Int)))) [.keep [0, 3, 4, 5]] (fun (a : (Prod Int (Prod Int (List (Go.AM.V8 Int))))) => ⟨[(.sl 0 0 8 0 x2), .junk, .junk, .sc (.int .i64 a.1), (.sl 0 0 8 (0 + h7) (x2 - h7)), .sc (.int .i64 a.2.1)] ++ List.replicate 55 .junk, [.row 0 8 (a.2.2.map (eV8 (cI .u8)))], []⟩)
    (fun (t : (Prod Int (List (Go.AM.V8 Int)))) => (.exit 2, ⟨[(.sl 0 0 8 0 x2), .junk, .junk, .sc (.int .i64 t.1)] ++ List.replicate 57 .junk, [.row 0 8 (t.2.map (eV8 (cI .u8)))], []⟩)) (a4, (1 : Int), x1)
    (fun (a16 : (Prod Int (Prod Int (List (Go.AM.V8 Int))))) => .skip 4 <| .br 32 (decide (a16.2.1 < (((x2 - h7) : Nat) : Int))) (.skip 3 <| .op (idxP ((x2 - h7)) 8 0 0 ((0 + h7)) a16.2.1) fun _ => .op (ldO a16.2.2 (Go.AM.eV8 (Go.AM.cI .u8)) 8 0 0 ((0 + h7) + (Int.toNat a16.2.1)) 0 fun v => .agg ((eV8 (cI .u8)) v)) fun x17 => .skip 3 <| .op (idxP ((x2 - h7)) 8 0 0 ((0 + h7)) (Go.IntKind.wrap .i64 (a16.2.1 - (1 : Int)))) fun _ => .op (ldO a16.2.2 (Go.AM.eV8 (Go.AM.cI .u8)) 8 0 0 ((0 + h7) + (Int.toNat (Go.IntKind.wrap .i64 (a16.2.1 - (1 : Int))))) 0 fun v => .agg ((eV8 (cI .u8)) v)) fun x18 => .skip 1 <| .br 44 (!((x17.a0 == x18.a0) && ((x17.a1 == x18.a1) && ((x17.a2 == x18.a2) && ((x17.a3 == x18.a3) && ((x17.a4 == x18.a4) && ((x17.a5 == x18.a5) && ((x17.a6 == x18.a6) && ((x17.a7 == x18.a7) && true))))))))) (.skip 5 <| .op (idxP ((x2 - h7)) 8 0 0 ((0 + h7)) a16.2.1) fun _ => .op (ldO a16.2.2 (Go.AM.eV8 (Go.AM.cI .u8)) 8 0 0 ((0 + h7) + (Int.toNat a16.2.1)) 0 fun v => .agg ((eV8 (cI .u8)) v)) fun x19 => .op (idxS x2 8 0 0 a16.1) fun _ => .op (stO a16.2.2 (Go.AM.eV8 (Go.AM.cI .u8)) 8 0 0 (Int.toNat a16.1) 0 fun v => x19) fun x20 => .skip 6 <| .done [.keep [0, 3, 4, 5]] (.inl ((Go.IntKind.wrap .i64 (a16.1 + (1 : Int))), (Go.IntKind.wrap .i64 (a16.2.1 + (1 : Int))), (List.set a16.2.2 (Int.toNat a16.1) x19)))) (.skip 4 <| .done [.keep [0, 3, 4, 5]] (.inl (a16.1, (Go.IntKind.wrap .i64 (a16.2.1 + (1 : Int))), a16.2.2)))) (.skip 1 <| .done [.keep [0, 3]] (.inr (a16.1, a16.2.2))))
    (fun (t24 : (Prod Int (List (Go.AM.V8 Int)))) => .skip 2 <| .op (slcL x2 8 0 0 0 t24.1) fun h25 => .op (clrP t24.2 ((@Go.AM.V8.mk Int (0 : Int) (0 : Int) (0 : Int) (0 : Int) (0 : Int) (0 : Int) (0 : Int) (0 : Int))) ((Go.AM.eV8 (Go.AM.cI .u8))) ((x2 - h25)) 8 0 0 ((0 + h25))) fun _ => .skip 2 <| .op (slcH x2 8 0 0 0 t24.1) fun h26 => .skip 1 <| .done [.keep [2]] (.inr (.inl (h26, (((List.take (0 + h25) t24.2) ++ (List.replicate (x2 - h25) (@Go.AM.V8.mk Int (0 : Int) (0 : Int) (0 : Int) (0 : Int) (0 : Int) (0 : Int) (0 : Int) (0 : Int)))) ++ (List.drop ((0 + h25) + (x2 - h25)) t24.2))))))) (.skip 4 <| .done [.keep [0, 3]] (.inl (Go.IntKind.wrap .i64 (a4 + (1 : Int)))))) (.skip 1 <| .done [.keep [0]] (.inr (.inr ()))))
    (Sum.elim (fun (t30 : (Prod Nat (List (Go.AM.V8 Int)))) => .done [] (t30.1, t30.2)) (fun _ => .skip 2 <| .done [] (x2, x1))))
noncomputable def c0_slices_Compact_Comm_Comm : Ctr1 prog := Ctr1.ofRows cfg 10 80 ((List (Go.AM.V8 Int)) × Nat) (fun x => [.sl 0 0 8 0 x.2]) (V8 Int) 8 (eV8 (cI .u8)) (fun x => x.1) (.one (Prod Nat (List (Go.AM.V8 Int)))) (fun r => .ret (.sl 0 0 8 0 r.1)) (fun r => r.2) (fun x => g_slices_Compact_Comm_Comm x.1 x.2) (fun _ => rfl) (fun _ => rfl) (fun _ => rfl) (fun x => by kernel_rfl)

noncomputable def c_slices_Compact_Comm_Comm : Ctr1 prog := c0_slices_Compact_Comm_Comm.shrink (V8 Int) 8 (eV8 (cI .u8)) (fun _ => rfl) (fun (r : Nat × List (V8 Int)) => r.1) (fun (r : Nat × List (V8 Int)) => r.2) (fun _ => rfl) (fun _ _ => rfl)
/- leafmesh/comm.Sort -/
noncomputable def g_comm_Sort (x1 : (List (Go.AM.V8 Int))) : G prog (Sh.El (.one (List (Go.AM.V8 Int)))) :=
  .skip 2 <| .inl [] <| .skip 2 <| .op (nilO x1 (Go.AM.eV8 (Go.AM.cI .u8)) true) fun _ => .skip 3 <| .op (appO 0 [] x1 (eV8 (cI .u8)) 8 8 0 0 1 []) fun _ => .skip 1 <| .tidy [.keep [2], .cut [0] [] [puRow 0 1 8 ([] ++ x1) (Go.AM.eV8 (Go.AM.cI .u8)) fun _ => rfl]] <| .inl [] <| .skip 2 <| .call1 c_slices_SortFunc_Comm_Comm 0 0 [] (([] ++ x1), (List.length ([] ++ x1))) fun (r2 : (List (Go.AM.V8 Int))) => .skip 1 <| .call1 c_slices_Compact_Comm_Comm 0 0 [] (r2, (List.length ([] ++ x1))) fun (r3 : (List (Go.AM.V8 Int))) => .skip 1 <| .done [.frz (fzRow (.s 2) 0 0 8 (List.length r3) r3 (Go.AM.eV8 (Go.AM.cI .u8)) fun _ => rfl)] r3
noncomputable def g0_comm_Sort : G prog (Sh.El (.one (List (Go.AM.V8 Int)))) :=
  .skip 2 <| .inl [] <| .skip 5 <| .tidy [] <| .inl [] <| .skip 2 <| .inl [] <| .skip 7 <| .call c_math_bits_Len (Go.IntKind.wrap .u64 (((0 : Nat) : Nat) : Int)) fun (r1 : Int) => .skip 1 <| .inl [] <| .skip 2 <| .unroll 300 <| .skip 11 <| .inl [] <| .skip 3 <| .unroll 300 <| .skip 4 <| .tidy [] <| .inl [] <| .tidy [] <| .inl [] <| .tidy [] <| .inl [] <| .skip 1 <| .inl [] <| .skip 7 <| .tidy [] <| .inl [] <| .skip 1 <| .done [] []
noncomputable def g1_comm_Sort : G prog (Sh.El (.one (List (Go.AM.V8 Int)))) :=
  .skip 2 <| .inl [] <| .skip 8 <| .tidy [.keep [2], .cut [0] [] []] <| .inl [] <| .skip 2 <| .call1 c_slices_SortFunc_Comm_Comm 0 0 [] ([], 0) fun (r1 : (List (Go.AM.V8 Int))) => .skip 1 <| .call1 c_slices_Compact_Comm_Comm 0 0 [] (r1, 0) fun (r2 : (List (Go.AM.V8 Int))) => .skip 1 <| .done [.frz (fzRow (.s 2) 0 0 8 (List.length r2) r2 (Go.AM.eV8 (Go.AM.cI .u8)) fun _ => rfl)] r2
theorem sortC_S (n : Nat) (x : List (V8 Int) × Nat) : c_slices_SortFunc_Comm_Comm.S n x = sortCS x := by kernel_rfl
theorem sortC_nil (n : Nat) : c_slices_SortFunc_Comm_Comm.S n (([] : List (V8 Int)), 0) = some ([] : List (V8 Int)) := by
  rw [sortC_S]
  unfold sortCS
  rw [if_pos ⟨rfl, by simp⟩]
  have := (pdq_sorts (ltOf cfC) ltC_swo (#[] : Array (V8 Int)) 0 0 (Lib.bitLen 0) true true (Nat.zero_le _) (Nat.zero_le _) (Or.inl rfl)).1.1
  have h0 : sortCv [] = [] := by
    unfold sortCv
    apply List.eq_nil_of_length_eq_zero
    simpa using this
  rw [h0]
theorem compC_S (n : Nat) (x : List (V8 Int) × Nat) : c_slices_Compact_Comm_Comm.S n x = ((g_slices_Compact_Comm_Comm x.1 x.2).run n).bind (fun r => if r.1 ≤ r.2.length then some (r.2.take r.1) else none) := by kernel_rfl
theorem compC_nil (n : Nat) : c_slices_Compact_Comm_Comm.S n (([] : List (V8 Int)), 0) = some ([] : List (V8 Int)) := by
  kernel_rfl
theorem sortC_nil_b (n : Nat) {β : Type} (k : c_slices_SortFunc_Comm_Comm.sh.El → Option β) : (c_slices_SortFunc_Comm_Comm.S n (([] : List (V8 Int)), 0)).bind k = k ([] : List (V8 Int)) := by rw [sortC_nil]; rfl
theorem compC_nil_b (n : Nat) {β : Type} (k : c_slices_Compact_Comm_Comm.sh.El → Option β) : (c_slices_Compact_Comm_Comm.S n (([] : List (V8 Int)), 0)).bind k = k ([] : List (V8 Int)) := by rw [compC_nil]; rfl
theorem run0_comm_Sort (n : Nat) : g0_comm_Sort.run n = some ([] : List (V8 Int)) := by kernel_rfl
theorem run1_comm_Sort (n : Nat) : g1_comm_Sort.run n = some ([] : List (V8 Int)) := by
  unfold g1_comm_Sort
  simp only [G.run, tsOk, if_true]
  rw [sortC_nil_b, compC_nil_b]
  rfl
noncomputable def c_comm_Sort : Ctr prog := Ctr.ofNil cfgS 10 39 (V8 Int) (eV8 (cI .u8)) (.one (List (Go.AM.V8 Int))) (fun r => .ret (.lst (r.map (eV8 (cI .u8))))) (fun x => g_comm_Sort x) g0_comm_Sort g1_comm_Sort [] (run0_comm_Sort 0) (run1_comm_Sort 0) (fun x => by kernel_rfl) (by kernel_rfl) (by kernel_rfl)

end Go.L
/- What the functions compute, each told by a guide that the kernel checks against the program. No conditions. -/
namespace Go.L
open Go.AM
set_option maxRecDepth 100000
set_option linter.unusedVariables false
set_option linter.unusedSimpArgs false
def cfgC : Cfg := { val := fun f => ![31,60,61,62,63,67,68,69,70,71,72,74,75,76,77,80,88,89,97,109,114,115,116,117,118,119,121,122,140,142,143,144,153].contains f, kill := fun _ _ => [] }
/- leafmesh/leafmeshkit.Same[leafmesh/api.Comm] -/
noncomputable def g_kit_Same_Comm (x1 : (List (Go.AM.V8 Int))) (x2 : (List (Go.AM.V8 Int))) : G prog (Sh.El (.one Bool)) :=
  .skip 2 <| .op (lenO x1 (Go.AM.eV8 (Go.AM.cI .u8))) fun _ => .skip 1 <| .op (lenO x2 (Go.AM.eV8 (Go.AM.cI .u8))) fun _ => .skip 1 <| .br 10 ((((List.length x1) : Nat) : Int) != (((List.length x2) : Nat) : Int)) (.skip 2 <| .done [] false) (.skip 2 <| .loop (.two (.one Unit) (.one Unit)) [.keep [0, 1, 5]] (fun (a : Int) => ⟨[(.lst (List.map (Go.AM.eV8 (Go.AM.cI .u8)) x1)), (.lst (List.map (Go.AM.eV8 (Go.AM.cI .u8)) x2)), .junk, .junk, .junk, .sc (.int .i64 a)] ++ List.replicate 20 .junk, [], []⟩)
    (Sum.elim (fun (_ : Unit) => (.ret, ⟨List.replicate 4 .junk ++ [(.sc (.bool false))] ++ List.replicate 21 .junk, [], []⟩)) (fun (_ : Unit) => (.exit 0, ⟨List.replicate 26 .junk, [], []⟩))) (0 : Int)
    (fun (a4 : Int) => .skip 2 <| .op (lenO x1 (Go.AM.eV8 (Go.AM.cI .u8))) fun _ => .skip 1 <| .br 14 (decide (a4 < (((List.length x1) : Nat) : Int))) (.skip 3 <| .op (idxO x1 (Go.AM.eV8 (Go.AM.cI .u8)) 8 a4) fun x5 => .skip 3 <| .op (idxO x2 (Go.AM.eV8 (Go.AM.cI .u8)) 8 a4) fun x6 => .skip 2 <| .br 25 (!((x5.a0 == x6.a0) && ((x5.a1 == x6.a1) && ((x5.a2 == x6.a2) && ((x5.a3 == x6.a3) && ((x5.a4 == x6.a4) && ((x5.a5 == x6.a5) && ((x5.a6 == x6.a6) && ((x5.a7 == x6.a7) && true))))))))) (.skip 2 <| .done [.keep [4]] (.inr (.inl ()))) (.skip 4 <| .done [.keep [0, 1, 5]] (.inl (Go.IntKind.wrap .i64 (a4 + (1 : Int)))))) (.skip 1 <| .done [.keep []] (.inr (.inr ()))))
    (Sum.elim (fun _ => .done [] false) (fun _ => .skip 1 <| .done [] true)))
noncomputable def c_kit_Same_Comm : Ctr prog := Ctr.of cfgC 10 40 ((List (Go.AM.V8 Int)) × (List (Go.AM.V8 Int))) (fun x => [.lst (x.1.map (eV8 (cI .u8))), .lst (x.2.map (eV8 (cI .u8)))]) (.one Bool) (fun r => .ret (.sc (.bool r))) (fun x => g_kit_Same_Comm x.1 x.2) (fun x => by kernel_rfl)

/- leafmesh/leafmeshkit.Has[leafmesh/api.Comm] -/
noncomputable def g_kit_Has_Comm (x1 : (List (Go.AM.V8 Int))) (x2 : (Go.AM.V8 Int)) : G prog (Sh.El (.one Bool)) :=
  .skip 3 <| .loop (.two (.one Unit) (.one Unit)) [.keep [0, 3, 5]] (fun (a : Int) => ⟨[(.lst (List.map (Go.AM.eV8 (Go.AM.cI .u8)) x1)), .junk, .junk, (.ptr 0 0 0 0), .junk, .sc (.int .i64 a)] ++ List.replicate 12 .junk, [.row 0 8 [(eV8 (cI .u8)) x2]], []⟩)
    (Sum.elim (fun (_ : Unit) => (.ret, ⟨List.replicate 4 .junk ++ [(.sc (.bool true))] ++ List.replicate 13 .junk, [.row 0 8 [(eV8 (cI .u8)) x2]], []⟩)) (fun (_ : Unit) => (.exit 0, ⟨List.replicate 18 .junk, [.row 0 8 [(eV8 (cI .u8)) x2]], []⟩))) (0 : Int)
    (fun (a3 : Int) => .skip 2 <| .op (lenO x1 (Go.AM.eV8 (Go.AM.cI .u8))) fun _ => .skip 1 <| .br 9 (decide (a3 < (((List.length x1) : Nat) : Int))) (.skip 3 <| .op (idxO x1 (Go.AM.eV8 (Go.AM.cI .u8)) 8 a3) fun x4 => .skip 3 <| .br 17 ((x4.a0 == x2.a0) && ((x4.a1 == x2.a1) && ((x4.a2 == x2.a2) && ((x4.a3 == x2.a3) && ((x4.a4 == x2.a4) && ((x4.a5 == x2.a5) && ((x4.a6 == x2.a6) && ((x4.a7 == x2.a7) && true)))))))) (.skip 2 <| .done [.keep [4]] (.inr (.inl ()))) (.skip 4 <| .done [.keep [0, 3, 5]] (.inl (Go.IntKind.wrap .i64 (a3 + (1 : Int)))))) (.skip 1 <| .done [.keep []] (.inr (.inr ()))))
    (Sum.elim (fun _ => .done [] true) (fun _ => .skip 1 <| .done [] false))
noncomputable def c_kit_Has_Comm : Ctr prog := Ctr.of cfgC 10 41 ((List (Go.AM.V8 Int)) × (Go.AM.V8 Int)) (fun x => [.lst (x.1.map (eV8 (cI .u8))), .agg ((eV8 (cI .u8)) x.2)]) (.one Bool) (fun r => .ret (.sc (.bool r))) (fun x => g_kit_Has_Comm x.1 x.2) (fun x => by kernel_rfl)

end Go.L
/- What the functions compute, each told by a guide that the kernel checks against the program. No conditions. -/
namespace Go.L
open Go.AM
set_option maxRecDepth 100000
set_option linter.unusedVariables false
set_option linter.unusedSimpArgs false
/- leafmesh/leafmeshref03.Compare -/
noncomputable def g_ref03_Compare (x1 : (Go.AM.V8 Int)) (x2 : (Go.AM.V8 Int)) : G prog (Sh.El (.one Int)) :=
  .skip 4 <| .unroll 300 <| .skip 10 <| .br 16 (decide (x1.a0 < x2.a0)) (.skip 2 <| .done [] (-(1 : Int))) (.skip 8 <| .br 23 (decide (x1.a0 > x2.a0)) (.skip 2 <| .done [] (1 : Int)) (.skip 14 <| .br 16 (decide (x1.a1 < x2.a1)) (.skip 2 <| .done [] (-(1 : Int))) (.skip 8 <| .br 23 (decide (x1.a1 > x2.a1)) (.skip 2 <| .done [] (1 : Int)) (.skip 14 <| .br 16 (decide (x1.a2 < x2.a2)) (.skip 2 <| .done [] (-(1 : Int))) (.skip 8 <| .br 23 (decide (x1.a2 > x2.a2)) (.skip 2 <| .done [] (1 : Int)) (.skip 14 <| .br 16 (decide (x1.a3 < x2.a3)) (.skip 2 <| .done [] (-(1 : Int))) (.skip 8 <| .br 23 (decide (x1.a3 > x2.a3)) (.skip 2 <| .done [] (1 : Int)) (.skip 14 <| .br 16 (decide (x1.a4 < x2.a4)) (.skip 2 <| .done [] (-(1 : Int))) (.skip 8 <| .br 23 (decide (x1.a4 > x2.a4)) (.skip 2 <| .done [] (1 : Int)) (.skip 14 <| .br 16 (decide (x1.a5 < x2.a5)) (.skip 2 <| .done [] (-(1 : Int))) (.skip 8 <| .br 23 (decide (x1.a5 > x2.a5)) (.skip 2 <| .done [] (1 : Int)) (.skip 14 <| .br 16 (decide (x1.a6 < x2.a6)) (.skip 2 <| .done [] (-(1 : Int))) (.skip 8 <| .br 23 (decide (x1.a6 > x2.a6)) (.skip 2 <| .done [] (1 : Int)) (.skip 14 <| .br 16 (decide (x1.a7 < x2.a7)) (.skip 2 <| .done [] (-(1 : Int))) (.skip 8 <| .br 23 (decide (x1.a7 > x2.a7)) (.skip 2 <| .done [] (1 : Int)) (.skip 8 <| .done [] (0 : Int)))))))))))))))))
noncomputable def c_ref03_Compare : Ctr prog := Ctr.of cfgC 10 83 ((Go.AM.V8 Int) × (Go.AM.V8 Int)) (fun x => [.agg ((eV8 (cI .u8)) x.1), .agg ((eV8 (cI .u8)) x.2)]) (.one Int) (fun r => .ret (.sc (.int .i64 r))) (fun x => g_ref03_Compare x.1 x.2) (fun x => by kernel_rfl)

/- leafmesh/leafmeshref03.Sort -/
noncomputable def g_ref03_Sort (x1 : (List (Go.AM.V8 Int))) : G prog (Sh.El (.one (List (Go.AM.V8 Int)))) :=
  .skip 3 <| .loop (.one (List (Go.AM.V8 Int))) [.keep [0, 3, 4], .cut [] [] [], .own (.s 3) 8] (fun (a : (Prod Int (List (Go.AM.V8 Int)))) => ⟨[(.lst (List.map (Go.AM.eV8 (Go.AM.cI .u8)) x1)), .junk, .junk, .sl 0 0 8 0 a.2.length, .sc (.int .i64 a.1)] ++ List.replicate 54 .junk, [.row 0 8 (a.2.map (eV8 (cI .u8)))], []⟩)
    (fun (t : (List (Go.AM.V8 Int))) => (.exit 0, ⟨[.junk, .junk, .junk, .sl 0 0 8 0 t.length] ++ List.replicate 55 .junk, [.row 0 8 (t.map (eV8 (cI .u8)))], []⟩)) ((0 : Int), [])
    (fun (a10 : (Prod Int (List (Go.AM.V8 Int)))) => .skip 2 <| .op (lenO x1 (Go.AM.eV8 (Go.AM.cI .u8))) fun _ => .skip 1 <| .br 9 (decide (a10.1 < (((List.length x1) : Nat) : Int))) (.skip 2 <| .loop (.one Int) [.keep [0, 3, 4, 5]] (fun (a : Int) => ⟨[(.lst (List.map (Go.AM.eV8 (Go.AM.cI .u8)) x1)), .junk, .junk, (.sl 0 0 8 0 (List.length a10.2)), (.sc (.int .i64 a10.1)), .sc (.int .i64 a)] ++ List.replicate 53 .junk, [(.row 0 8 (List.map (Go.AM.eV8 (Go.AM.cI .u8)) a10.2))], []⟩)
    (fun (t : Int) => (.exit 2, ⟨[(.lst (List.map (Go.AM.eV8 (Go.AM.cI .u8)) x1)), .junk, .junk, (.sl 0 0 8 0 (List.length a10.2)), (.sc (.int .i64 a10.1)), .sc (.int .i64 t)] ++ List.replicate 53 .junk, [(.row 0 8 (List.map (Go.AM.eV8 (Go.AM.cI .u8)) a10.2))], []⟩)) (0 : Int)
    (fun (a11 : Int) => .skip 5 <| .br 16 (decide (a11 < (((List.length a10.2) : Nat) : Int))) (.skip 2 <| .op (idxS (List.length a10.2) 8 0 0 a11) fun _ => .op (ldO a10.2 (Go.AM.eV8 (Go.AM.cI .u8)) 8 0 0 (Int.toNat a11) 0 fun v => .agg ((eV8 (cI .u8)) v)) fun x12 => .skip 2 <| .op (idxO x1 (Go.AM.eV8 (Go.AM.cI .u8)) 8 a10.1) fun x13 => .skip 1 <| .call c_ref03_Compare (x12, x13) fun (r14 : Int) => .skip 2 <| .br 27 (decide (r14 < (0 : Int))) (.skip 4 <| .done [.keep [0, 3, 4, 5]] (.inl (Go.IntKind.wrap .i64 (a11 + (1 : Int))))) (.skip 1 <| .done [.keep [0, 3, 4, 5]] (.inr a11))) (.skip 12 <| .done [.keep [0, 3, 4, 5]] (.inr a11)))
    (fun (t18 : Int) => .skip 5 <| .br 34 (t18 == (((List.length a10.2) : Nat) : Int)) (.skip 13 <| .op (slcH ((List.length a10.2)) 8 0 0 0 t18) fun h19 => .skip 2 <| .op (idxO x1 (Go.AM.eV8 (Go.AM.cI .u8)) 8 a10.1) fun x20 => .skip 4 <| .sp (eqz t18) (.op (slcZ ((List.length a10.2)) 8 0 0 0 t18) fun _ => .op (appE 1 [x20] a10.2 0 0 0 ((List.length a10.2)) (eV8 (cI .u8)) 8 8 1 0 2) fun _ => .op (appF h19 a10.2 (([x20] ++ (List.take (List.length a10.2) (List.drop 0 a10.2)))) 1 1 0 ((List.length ([x20] ++ (List.take (List.length a10.2) (List.drop 0 a10.2))))) (eV8 (cI .u8)) 8 8 0 0 3) fun _ => .skip 4 <| .done [.keep [0, 3, 4], .cut [0] [] [puRow 0 1 8 ((List.take h19 a10.2) ++ (List.take (List.length ([x20] ++ (List.take (List.length a10.2) (List.drop 0 a10.2)))) (List.drop 0 ([x20] ++ (List.take (List.length a10.2) (List.drop 0 a10.2)))))) (Go.AM.eV8 (Go.AM.cI .u8)) fun _ => rfl]] (.inl ((Go.IntKind.wrap .i64 (a10.1 + (1 : Int))), ((List.take h19 a10.2) ++ (List.take (List.length ([x20] ++ (List.take (List.length a10.2) (List.drop 0 a10.2)))) (List.drop 0 ([x20] ++ (List.take (List.length a10.2) (List.drop 0 a10.2))))))))) (.sp (ltn t18 ((List.length a10.2))) (.op (slcL ((List.length a10.2)) 8 0 0 0 t18) fun h22 => .op (appE 1 [x20] a10.2 0 0 ((0 + h22)) (((List.length a10.2) - h22)) (eV8 (cI .u8)) 8 8 1 0 2) fun _ => .op (appF h19 a10.2 (([x20] ++ (List.take ((List.length a10.2) - h22) (List.drop (0 + h22) a10.2)))) 1 1 0 ((List.length ([x20] ++ (List.take ((List.length a10.2) - h22) (List.drop (0 + h22) a10.2))))) (eV8 (cI .u8)) 8 8 0 0 3) fun _ => .skip 4 <| .done [.keep [0, 3, 4], .cut [0] [] [puRow 0 1 8 ((List.take h19 a10.2) ++ (List.take (List.length ([x20] ++ (List.take ((List.length a10.2) - h22) (List.drop (0 + h22) a10.2)))) (List.drop 0 ([x20] ++ (List.take ((List.length a10.2) - h22) (List.drop (0 + h22) a10.2)))))) (Go.AM.eV8 (Go.AM.cI .u8)) fun _ => rfl]] (.inl ((Go.IntKind.wrap .i64 (a10.1 + (1 : Int))), ((List.take h19 a10.2) ++ (List.take (List.length ([x20] ++ (List.take ((List.length a10.2) - h22) (List.drop (0 + h22) a10.2)))) (List.drop 0 ([x20] ++ (List.take ((List.length a10.2) - h22) (List.drop (0 + h22) a10.2))))))))) (.op (slcE ((List.length a10.2)) 8 0 0 0 t18) fun _ => .skip 1 <| .op (appS h19 a10.2 [x20] (eV8 (cI .u8)) 8 8 0 0 3 [1]) fun _ => .skip 4 <| .done [.keep [0, 3, 4], .cut [0] [] [puRow 0 1 8 ((List.take h19 a10.2) ++ [x20]) (Go.AM.eV8 (Go.AM.cI .u8)) fun _ => rfl]] (.inl ((Go.IntKind.wrap .i64 (a10.1 + (1 : Int))), ((List.take h19 a10.2) ++ [x20])))))) (.skip 2 <| .op (idxS (List.length a10.2) 8 0 0 t18) fun _ => .op (ldO a10.2 (Go.AM.eV8 (Go.AM.cI .u8)) 8 0 0 (Int.toNat t18) 0 fun v => .agg ((eV8 (cI .u8)) v)) fun x25 => .skip 2 <| .op (idxO x1 (Go.AM.eV8 (Go.AM.cI .u8)) 8 a10.1) fun x26 => .skip 3 <| .br 44 (!((x25.a0 == x26.a0) && ((x25.a1 == x26.a1) && ((x25.a2 == x26.a2) && ((x25.a3 == x26.a3) && ((x25.a4 == x26.a4) && ((x25.a5 == x26.a5) && ((x25.a6 == x26.a6) && ((x25.a7 == x26.a7) && true))))))))) (.skip 3 <| .op (slcH ((List.length a10.2)) 8 0 0 0 t18) fun h27 => .skip 2 <| .op (idxO x1 (Go.AM.eV8 (Go.AM.cI .u8)) 8 a10.1) fun x28 => .skip 4 <| .sp (eqz t18) (.op (slcZ ((List.length a10.2)) 8 0 0 0 t18) fun _ => .op (appE 1 [x28] a10.2 0 0 0 ((List.length a10.2)) (eV8 (cI .u8)) 8 8 1 0 2) fun _ => .op (appF h27 a10.2 (([x28] ++ (List.take (List.length a10.2) (List.drop 0 a10.2)))) 1 1 0 ((List.length ([x28] ++ (List.take (List.length a10.2) (List.drop 0 a10.2))))) (eV8 (cI .u8)) 8 8 0 0 3) fun _ => .skip 4 <| .done [.keep [0, 3, 4], .cut [0] [] [puRow 0 1 8 ((List.take h27 a10.2) ++ (List.take (List.length ([x28] ++ (List.take (List.length a10.2) (List.drop 0 a10.2)))) (List.drop 0 ([x28] ++ (List.take (List.length a10.2) (List.drop 0 a10.2)))))) (Go.AM.eV8 (Go.AM.cI .u8)) fun _ => rfl]] (.inl ((Go.IntKind.wrap .i64 (a10.1 + (1 : Int))), ((List.take h27 a10.2) ++ (List.take (List.length ([x28] ++ (List.take (List.length a10.2) (List.drop 0 a10.2)))) (List.drop 0 ([x28] ++ (List.take (List.length a10.2) (List.drop 0 a10.2))))))))) (.sp (ltn t18 ((List.length a10.2))) (.op (slcL ((List.length a10.2)) 8 0 0 0 t18) fun h30 => .op (appE 1 [x28] a10.2 0 0 ((0 + h30)) (((List.length a10.2) - h30)) (eV8 (cI .u8)) 8 8 1 0 2) fun _ => .op (appF h27 a10.2 (([x28] ++ (List.take ((List.length a10.2) - h30) (List.drop (0 + h30) a10.2)))) 1 1 0 ((List.length ([x28] ++ (List.take ((List.length a10.2) - h30) (List.drop (0 + h30) a10.2))))) (eV8 (cI .u8)) 8 8 0 0 3) fun _ => .skip 4 <| .done [.keep [0, 3, 4], .cut [0] [] [puRow 0 1 8 ((List.take h27 a10.2) ++ (List.take (List.length ([x28] ++ (List.take ((List.length a10.2) - h30) (List.drop (0 + h30) a10.2)))) (List.drop 0 ([x28] ++ (List.take ((List.length a10.2) - h30) (List.drop (0 + h30) a10.2)))))) (Go.AM.eV8 (Go.AM.cI .u8)) fun _ => rfl]] (.inl ((Go.IntKind.wrap .i64 (a10.1 + (1 : Int))), ((List.take h27 a10.2) ++ (List.take (List.length ([x28] ++ (List.take ((List.length a10.2) - h30) (List.drop (0 + h30) a10.2)))) (List.drop 0 ([x28] ++ (List.take ((List.length a10.2) - h30) (List.drop (0 + h30) a10.2))))))))) (.op (slcE ((List.length a10.2)) 8 0 0 0 t18) fun _ => .skip 1 <| .op (appS h27 a10.2 [x28] (eV8 (cI .u8)) 8 8 0 0 3 [1]) fun _ => .skip 4 <| .done [.keep [0, 3, 4], .cut [0] [] [puRow 0 1 8 ((List.take h27 a10.2) ++ [x28]) (Go.AM.eV8 (Go.AM.cI .u8)) fun _ => rfl]] (.inl ((Go.IntKind.wrap .i64 (a10.1 + (1 : Int))), ((List.take h27 a10.2) ++ [x28])))))) (.skip 4 <| .done [.keep [0, 3, 4], .cut [0] [] [puRow 0 0 8 a10.2 (Go.AM.eV8 (Go.AM.cI .u8)) fun _ => rfl]] (.inl ((Go.IntKind.wrap .i64 (a10.1 + (1 : Int))), a10.2)))))) (.skip 1 <| .done [.keep [3], .cut [0] [] [puRow 0 0 8 a10.2 (Go.AM.eV8 (Go.AM.cI .u8)) fun _ => rfl]] (.inr a10.2)))
    (fun (t35 : (List (Go.AM.V8 Int))) => .skip 2 <| .done [.frz (fzRow (.s 2) 0 0 8 (List.length t35) t35 (Go.AM.eV8 (Go.AM.cI .u8)) fun _ => rfl)] t35)
noncomputable def c_ref03_Sort : Ctr prog := Ctr.of cfgC 10 49 ((List (Go.AM.V8 Int))) (fun x => [.lst (x.map (eV8 (cI .u8)))]) (.one (List (Go.AM.V8 Int))) (fun r => .ret (.lst (r.map (eV8 (cI .u8))))) (fun x => g_ref03_Sort x) (fun x => by kernel_rfl)

end Go.L
