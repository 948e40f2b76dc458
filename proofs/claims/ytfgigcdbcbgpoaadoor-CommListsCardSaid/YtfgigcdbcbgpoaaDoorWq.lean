/- The library's sort by a function and math/bits.Len, laid at this program, as contracts. No conditions. -/
import Derived.Test.YtfgigcdbcbgpoaaDoorWo
import Derived.Test.YtfgigcdbcbgpoaaDoorAmSo
namespace Go.Proofs
open Go.Shelf
set_option maxRecDepth 100000
def Tryd.sortK_ren : Shelf.Ren where
  f := fun x => match x with
    | 6 => 77
    | 15 => 98
    | 14 => 99
    | 28 => 123
    | 29 => 124
    | 20 => 125
    | 21 => 126
    | 22 => 127
    | 23 => 128
    | 24 => 129
    | 25 => 130
    | 26 => 131
    | 27 => 132
    | 46 => 146
    | 47 => 141
    | 48 => 142
    | 49 => 147
    | 50 => 148
    | 57 => 154
    | n => n
  t := fun x => match x with
    | 22 => 25
    | 24 => 29
    | 25 => 114
    | 3 => 3
    | 39 => 101
    | 0 => 0
    | 53 => 27
    | 55 => 34
    | 4 => 4
    | 46 => 145
    | 45 => 144
    | 50 => 47
    | 5 => 5
    | 9 => 9
    | 66 => 164
    | 70 => 168
    | 76 => 174
    | 77 => 175
    | n => n
  g := fun n => n
theorem Tryd.sortK : SlLaysF0.n6 Tryd.prog Tryd.sortK_ren where
  mixed := by kernel_rfl
  f6 := ⟨"slices.SortFunc[[]leafmesh/api.Comm,leafmesh/api.Comm]", of_decide_eq_true (by kernel_rfl), Eq.trans Tryd.func77 (by kernel_rfl)⟩
  f14 := ⟨"slices.pdqsortCmpFunc[leafmesh/api.Comm]", of_decide_eq_true (by kernel_rfl), Eq.trans Tryd.func99 (by kernel_rfl)⟩
  f15 := Eq.trans Tryd.func98 (by kernel_rfl)
  f20 := ⟨"slices.insertionSortCmpFunc[leafmesh/api.Comm]", of_decide_eq_true (by kernel_rfl), Eq.trans Tryd.func125 (by kernel_rfl)⟩
  f21 := ⟨"slices.heapSortCmpFunc[leafmesh/api.Comm]", of_decide_eq_true (by kernel_rfl), Eq.trans Tryd.func126 (by kernel_rfl)⟩
  f22 := ⟨"slices.breakPatternsCmpFunc[leafmesh/api.Comm]", of_decide_eq_true (by kernel_rfl), Eq.trans Tryd.func127 (by kernel_rfl)⟩
  f23 := ⟨"slices.choosePivotCmpFunc[leafmesh/api.Comm]", of_decide_eq_true (by kernel_rfl), Eq.trans Tryd.func128 (by kernel_rfl)⟩
  f24 := ⟨"slices.reverseRangeCmpFunc[leafmesh/api.Comm]", of_decide_eq_true (by kernel_rfl), Eq.trans Tryd.func129 (by kernel_rfl)⟩
  f25 := ⟨"slices.partialInsertionSortCmpFunc[leafmesh/api.Comm]", of_decide_eq_true (by kernel_rfl), Eq.trans Tryd.func130 (by kernel_rfl)⟩
  f26 := ⟨"slices.partitionEqualCmpFunc[leafmesh/api.Comm]", of_decide_eq_true (by kernel_rfl), Eq.trans Tryd.func131 (by kernel_rfl)⟩
  f27 := ⟨"slices.partitionCmpFunc[leafmesh/api.Comm]", of_decide_eq_true (by kernel_rfl), Eq.trans Tryd.func132 (by kernel_rfl)⟩
  f28 := Eq.trans Tryd.func123 (by kernel_rfl)
  f29 := Eq.trans Tryd.func124 (by kernel_rfl)
  f46 := ⟨"slices.siftDownCmpFunc[leafmesh/api.Comm]", of_decide_eq_true (by kernel_rfl), Eq.trans Tryd.func146 (by kernel_rfl)⟩
  f47 := Eq.trans Tryd.func141 (by kernel_rfl)
  f48 := Eq.trans Tryd.func142 (by kernel_rfl)
  f49 := ⟨"slices.medianAdjacentCmpFunc[leafmesh/api.Comm]", of_decide_eq_true (by kernel_rfl), Eq.trans Tryd.func147 (by kernel_rfl)⟩
  f50 := ⟨"slices.medianCmpFunc[leafmesh/api.Comm]", of_decide_eq_true (by kernel_rfl), Eq.trans Tryd.func148 (by kernel_rfl)⟩
  f57 := ⟨"slices.order2CmpFunc[leafmesh/api.Comm]", of_decide_eq_true (by kernel_rfl), Eq.trans Tryd.func154 (by kernel_rfl)⟩
  t0 := Tryd.underlying0
  a0 := Tryd.isAgg0
  z0 := Tryd.sizeOf0
  v0 := Tryd.zeroValue0
  t3 := Tryd.underlying3
  a3 := Tryd.isAgg3
  z3 := Tryd.sizeOf3
  v3 := Tryd.zeroValue3
  t4 := Tryd.underlying4
  a4 := Tryd.isAgg4
  z4 := Tryd.sizeOf4
  v4 := Tryd.zeroValue4
  t5 := Tryd.underlying5
  a5 := Tryd.isAgg5
  z5 := Tryd.sizeOf5
  v5 := Tryd.zeroValue5
  t9 := Tryd.underlying9
  a9 := Tryd.isAgg9
  z9 := Tryd.sizeOf9
  v9 := Tryd.zeroValue9
  t22 := Tryd.underlying25
  a22 := Tryd.isAgg25
  z22 := Tryd.sizeOf25
  v22 := Tryd.zeroValue25
  t25 := Tryd.underlying114
  a25 := Tryd.isAgg114
  z25 := Tryd.sizeOf114
  v25 := Tryd.zeroValue114
  t39 := Tryd.underlying101
  a39 := Tryd.isAgg101
  z39 := Tryd.sizeOf101
  v39 := Tryd.zeroValue101
  t45 := Tryd.underlying144
  a45 := Tryd.isAgg144
  z45 := Tryd.sizeOf144
  v45 := Tryd.zeroValue144
  t46 := Tryd.underlying145
  a46 := Tryd.isAgg145
  z46 := Tryd.sizeOf145
  v46 := Tryd.zeroValue145
  t50 := Tryd.underlying47
  a50 := Tryd.isAgg47
  z50 := Tryd.sizeOf47
  v50 := Tryd.zeroValue47
  t53 := Tryd.underlying27
  a53 := Tryd.isAgg27
  z53 := Tryd.sizeOf27
  v53 := Tryd.zeroValue27
  t55 := Tryd.underlying34
  a55 := Tryd.isAgg34
  z55 := Tryd.sizeOf34
  v55 := Tryd.zeroValue34
  t66 := Tryd.underlying164
  a66 := Tryd.isAgg164
  z66 := Tryd.sizeOf164
  v66 := Tryd.zeroValue164
  t70 := Tryd.underlying168
  a70 := Tryd.isAgg168
  z70 := Tryd.sizeOf168
  v70 := Tryd.zeroValue168
  t76 := Tryd.underlying174
  a76 := Tryd.isAgg174
  z76 := Tryd.sizeOf174
  v76 := Tryd.zeroValue174
  t77 := Tryd.underlying175
  a77 := Tryd.isAgg175
  z77 := Tryd.sizeOf175
  v77 := Tryd.zeroValue175
end Go.Proofs
namespace Go.L
open Go.AM Go.Proofs Go.Shelf
set_option linter.unusedVariables false
theorem bitsLen_val (x : Int) (h0 : 0 ≤ x) (h1 : x < 18446744073709551616) : FnVal prog 98 [.sc (.int .u64 x)] (.ret (.sc (.int .i64 (Lib.bitLen x.toNat : Nat)))) := by
  refine ⟨⟨Tryd.f98, _, Tryd.func98, rfl, by decide⟩, fun g w vs hi hl => ?_⟩
  simp only [RL, R] at hl
  obtain ⟨y, ys, hv, rfl, rfl⟩ := hl
  obtain rfl : vs = #[.int .u64 x] := by apply Array.ext'; simpa using hv
  have h := Any.bits_Len (SlLaysF0.n15.bits (P := prog) (ρ := Tryd.sortK_ren) { Tryd.sortK with }) x w h0 (by omega)
  exact Calls.mono h fun e w' ⟨he, hw⟩ => by
    subst he; subst hw
    exact ⟨g, hi, Later.refl _ _ _, _, rfl, by simp [R]⟩
def bitsLenS (x : Int) : Option Int := if 0 ≤ x ∧ x < 18446744073709551616 then some (Lib.bitLen x.toNat : Nat) else none
theorem bitsLen_ok (x r : Int) (h : bitsLenS x = some r) : FnVal prog 98 [.sc (.int .u64 x)] (.ret (.sc (.int .i64 r))) := by
  unfold bitsLenS at h
  split at h
  · rename_i hc
    cases h
    exact bitsLen_val x hc.1 hc.2
  · cases h
noncomputable def c_math_bits_Len : Ctr prog := { f := 98, X := Int, args := fun x => [.sc (.int .u64 x)], sh := .one Int, out := fun r => .ret (.sc (.int .i64 r)), S := fun _ x => bitsLenS x, ok := fun _ x r h => bitsLen_ok x r h }
end Go.L
