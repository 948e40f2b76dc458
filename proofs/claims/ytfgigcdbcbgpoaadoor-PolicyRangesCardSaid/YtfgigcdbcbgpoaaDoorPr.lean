/- A rule with a prefix permits exactly the prefixes that it covers and whose length is within its bounds: PolicyRanges returns true for every input; the card, tied to the program's text. No conditions. -/
import Derived.Test.YtfgigcdbcbgpoaaDoorWp
import Derived.Test.YtfgigcdbcbgpoaaDoorAmPl
import Derived.Test.YtfgigcdbcbgpoaaDoorRe
import Derived.Test.YtfgigcdbcbgpoaaDoorAmDr
import Derived.Sort.AssemblyPlain
import Derived.Test.YtfgigcdbcbgpoaaDoorRows
import Derived.Test.YtfgigcdbcbgpoaaDoorCards
import Derived.Test.YtfgigcdbcbgpoaaDoorTie
import Derived.Deep.DeepHandedRow
import Derived.Lib.LaidTab
namespace Go.L
open Go.AM Go.Sort
set_option maxRecDepth 100000
set_option linter.unusedSimpArgs false
set_option linter.unusedVariables false

theorem iter_spec {σ τ : Type} {f : σ → Option (σ ⊕ τ)} (I : σ → Prop) (m : σ → Nat) (F : σ → τ) (step : ∀ s, I s → f s = some (.inr (F s)) ∨ ∃ s', f s = some (.inl s') ∧ I s' ∧ F s' = F s ∧ m s' < m s) :
    ∀ (N : Nat) (s : σ), I s → m s < N → iterO f N s = some (F s)
  | 0, s, _, h => absurd h (Nat.not_lt_zero _)
  | N + 1, s, hi, h => by
    rcases step s hi with e | ⟨s', e, hi', hF, hm⟩
    · simp only [iterO, e]
    · simp only [iterO, e]
      rw [iter_spec I m F step N s' hi' (by omega), hF]
theorem bind_iter {σ τ β : Type} {f : σ → Option (σ ⊕ τ)} {k : τ → Option β} {N : Nat} {s : σ} {r : Option β} (I : σ → Prop) (m : σ → Nat) (F : σ → τ) (hI : I s) (hm : m s < N)
    (step : ∀ s, I s → f s = some (.inr (F s)) ∨ ∃ s', f s = some (.inl s') ∧ I s' ∧ F s' = F s ∧ m s' < m s) (hk : k (F s) = r) : (iterO f N s).bind k = r := by
  rw [iter_spec I m F step N s hI hm]; exact hk

theorem less_b {n : Nat} (x y : Int) {β : Type} (k : c_cmp_Less_uint32.sh.El → Option β) : (c_cmp_Less_uint32.S n (x, y)).bind k = k (ltInt x y) := by
  have : c_cmp_Less_uint32.S n (x, y) = some (ltInt x y) := by
    show (g_cmp_Less_uint32 x y).run n = _
    have e : ∀ (z : Int), c_cmp_isNaN_uint32.S n z = some false := fun z => by
      show (g_cmp_isNaN_uint32 z).run n = _
      simp only [g_cmp_isNaN_uint32, G.run, tsOk, if_true]
      rw [show (z != z) = false by simp]
      rfl
    have eb : ∀ (z : Int) {β : Type} (k : c_cmp_isNaN_uint32.sh.El → Option β), (c_cmp_isNaN_uint32.S n z).bind k = k false := fun z β k => by rw [e]; rfl
    simp only [g_cmp_Less_uint32, G.run, tsOk, if_true, eb, Bool.false_eq_true, if_false, ltInt]
    rfl
  rw [this]; rfl

theorem get_d (d : Array Int) {i : Nat} (h : i < d.size) : d.toList[i]? = some d[i]! := by
  rw [getElem!_pos d i h]; simp [h]
theorem set_d (d : Array Int) (i : Nat) (x : Int) : d.toList.set i x = (d.setIfInBounds i x).toList := by simp
theorem swp_d (d : Array Int) (i j : Nat) : (d.toList.set i d[j]!).set j d[i]! = (swp d i j).toList := by simp [swp]
theorem size_swp' (d : Array Int) (i j : Nat) : (swp d i j).size = d.size := by simp [swp]

theorem stO_bind {X β : Type} (l : List X) (enc : X → List AVal) (n b ver i o : Nat) (y : X → X) (k : X → Option β) : (stO l enc n b ver i o y).run.bind k = (l[i]?).bind k := rfl
theorem size_insInner (a : Nat) : ∀ (j : Nat) (d : Array Int), (insInner ltInt a j d).size = d.size
  | 0, d => rfl
  | j + 1, d => by
    rw [insInner]
    split
    · rw [size_insInner a j, size_swp']
    · rfl

theorem insertion_run (N : Nat) (d : Array Int) (a b : Nat) (hb : b ≤ d.size) (hab : a ≤ b) (hs : d.size < 4611686018427387904) (hN : d.size < N) :
    c_slices_insertionSortOrdered_uint32.S N (d.toList, d.size, (a : Int), (b : Int)) = some (insertionSort ltInt d a b).toList := by
  show (g_slices_insertionSortOrdered_uint32 d.toList d.size (a : Int) (b : Int)).run N = _
  simp only [g_slices_insertionSortOrdered_uint32, G.run, tsOk, if_true, less_b, idxS_bind, ldO_bind]
  have w1 : Go.IntKind.wrap .i64 ((a : Int) + 1) = ((a + 1 : Nat) : Int) := by rw [wrap_i64 (by omega) (by omega)]; omega
  rw [w1]
  refine bind_iter (I := fun s => ∃ (i : Nat) (e : Array Int), s = ((i : Int), e.toList) ∧ a < i ∧ i ≤ b + 1 ∧ e.size = d.size ∧ insOuter ltInt a b i e = insertionSort ltInt d a b) (m := fun s => b + 1 - s.1.toNat) (F := fun _ => (insertionSort ltInt d a b).toList)
    ⟨a + 1, d, rfl, by omega, by omega, rfl, rfl⟩ (by omega) (fun s hs' => ?_) rfl
  obtain ⟨i, e, rfl, h1, h2, h3, h4⟩ := hs'
  by_cases hib : i < b
  · have c1 : decide ((i : Int) < (b : Int)) = true := by simp; omega
    simp only [c1, if_true]
    right
    have hO : insOuter ltInt a b i e = insOuter ltInt a b (i + 1) (insInner ltInt a i e) := by rw [insOuter, if_pos hib]
    refine ⟨(((i + 1 : Nat) : Int), (insInner ltInt a i e).toList), ?_, ⟨i + 1, insInner ltInt a i e, rfl, by omega, by omega, by rw [size_insInner]; exact h3, by rw [← hO]; exact h4⟩, rfl, by simp only; omega⟩
    have w2 : Go.IntKind.wrap .i64 ((i : Int) + 1) = ((i + 1 : Nat) : Int) := by rw [wrap_i64 (by omega) (by omega)]; omega
    refine bind_iter (I := fun s => ∃ (j : Nat) (e' : Array Int), s = ((j : Int), e'.toList) ∧ a ≤ j ∧ j ≤ i ∧ e'.size = d.size ∧ insInner ltInt a j e' = insInner ltInt a i e) (m := fun s => s.1.toNat) (F := fun _ => (insInner ltInt a i e).toList)
      ⟨i, e, rfl, by omega, by omega, h3, rfl⟩ (by simp only; omega) (fun s hs' => ?_) (by rw [w2])
    obtain ⟨j, e', rfl, g1, g2, g3, g4⟩ := hs'
    by_cases hja : a < j
    · have c2 : decide ((j : Int) > (a : Int)) = true := by simp; omega
      obtain ⟨j', rfl⟩ : ∃ j', j = j' + 1 := ⟨j - 1, by omega⟩
      have w3 : Go.IntKind.wrap .i64 (((j' + 1 : Nat) : Int) - 1) = (j' : Int) := by rw [wrap_i64 (by omega) (by omega)]; omega
      have r1 : (0 : Int) ≤ ((j' + 1 : Nat) : Int) ∧ ((j' + 1 : Nat) : Int) < (d.size : Int) := by omega
      have r2 : (0 : Int) ≤ (j' : Int) ∧ (j' : Int) < (d.size : Int) := by omega
      simp only [c2, if_true, w3, Int.toNat_natCast, if_pos r1, if_pos r2, get_d e' (show j' + 1 < e'.size by omega), get_d e' (show j' < e'.size by omega), Option.bind_some, less_b]
      have hI : insInner ltInt a (j' + 1) e' = if decide (j' + 1 > a) && ltInt e'[j' + 1]! e'[j']! then insInner ltInt a j' (swp e' (j' + 1) j') else e' := rfl
      cases hl : ltInt e'[j' + 1]! e'[j']! with
      | true =>
        right
        refine ⟨((j' : Int), (swp e' (j' + 1) j').toList), ?_, ⟨j', swp e' (j' + 1) j', rfl, by omega, by omega, by rw [size_swp']; exact g3, ?_⟩, rfl, by simp only [Int.toNat_natCast]; omega⟩
        · simp only [if_true, stO_bind, get_d e' (show j' + 1 < e'.size by omega), get_d e' (show j' < e'.size by omega), Option.bind_some]
          rw [← swp_d]

          rw [set_d, get_d _ (by simp; omega)]; rfl
        · rw [← g4, hI, hl]; simp; omega
      | false =>
        left
        simp only [Bool.false_eq_true, if_false]
        rw [hl, Bool.and_false, if_neg (by simp)] at hI
        rw [← g4, hI]
    · have c2 : decide ((j : Int) > (a : Int)) = false := by simp; omega
      left
      simp only [c2, Bool.false_eq_true, if_false]
      have : insInner ltInt a j e' = e' := by
        cases j with
        | zero => rfl
        | succ j' => rw [insInner, if_neg (by simp; omega)]
      rw [← g4, this]
  · have c1 : decide ((i : Int) < (b : Int)) = false := by simp; omega
    left
    simp only [c1, Bool.false_eq_true, if_false]
    have : insOuter ltInt a b i e = e := by rw [insOuter, if_neg hib]
    rw [← h4, this]
theorem wrap_u32 (x : Int) : Go.IntKind.wrap .u32 x = x % 4294967296 := by
  simp [Go.IntKind.wrap, Go.IntKind.bits, Go.IntKind.signed]
theorem shlO_bind {β : Type} (k1 k2 : Go.IntKind) (a b : Int) (k : Unit → Option β) : (shlO k1 k2 a b).run.bind k = if decide (0 ≤ b) = true then k () else none := by
  show (if decide (0 ≤ b) = true then some () else none).bind k = _
  split <;> rfl
def okPre (p : Prefix) : Bool := decide (0 ≤ p.Len) && decide (p.Len ≤ 32)
def band (a b : Int) : Int := Go.IntKind.wrap .u32 (((BitVec.ofInt 32 a) &&& (BitVec.ofInt 32 b)).toNat : Int)
def bxor (a b : Int) : Int := Go.IntKind.wrap .u32 (((BitVec.ofInt 32 a) ^^^ (BitVec.ofInt 32 b)).toNat : Int)
def maskP (n : Int) : Int := Go.IntKind.wrap .u32 ((4294967295 : Int) * ((2 : Int) ^ (min (Int.toNat (Go.IntKind.wrap .i64 ((32 : Int) - n))) (Go.IntKind.bits .u32))))
def lowP (n : Int) : Int := Go.IntKind.wrap .u32 ((Go.IntKind.wrap .u32 ((1 : Int) * ((2 : Int) ^ (min (Int.toNat (Go.IntKind.wrap .i64 ((32 : Int) - n))) (Go.IntKind.bits .u32))))) - (1 : Int))
def maskR (n : Int) : Int := Go.IntKind.wrap .u32 (((BitVec.ofInt 32 4294967295) ^^^ (BitVec.ofInt 32 (lowP n))).toNat : Int)
theorem mask_eq {n : Int} (h0 : 0 ≤ n) (h1 : n ≤ 32) : maskR n = maskP n := by
  have key : ((List.range 33).all fun k => maskR (k : Int) == maskP (k : Int)) = true := by decide +kernel
  have := List.all_eq_true.1 key n.toNat (List.mem_range.2 (by omega))
  rw [Int.toNat_of_nonneg h0] at this
  simpa using this
def containsS (p : Prefix) (ip : Int) : Bool := okPre p && (band (bxor p.IP ip) (maskP p.Len) == 0)
theorem wrap32 {x : Int} (h0 : 0 ≤ x) (h1 : x ≤ 32) : Go.IntKind.wrap .i64 (32 - x) = 32 - x := wrap_i64 (by omega) (by omega)
theorem wrap_bv (x : BitVec 32) : Go.IntKind.wrap .u32 (x.toNat : Int) = (x.toNat : Int) := by
  rw [wrap_u32]; have := x.isLt; omega
theorem ofInt_toNat (x : BitVec 32) : BitVec.ofInt 32 (x.toNat : Int) = x := by
  apply BitVec.eq_of_toNat_eq
  rw [BitVec.toNat_ofInt]
  have := x.isLt
  omega
theorem toNat_ofInt32 {x : Int} (h0 : 0 ≤ x) (h1 : x ≤ 4294967295) : ((BitVec.ofInt 32 x).toNat : Int) = x := by
  rw [BitVec.toNat_ofInt]; omega
theorem xor_and_zero (a b m : BitVec 32) : (a ^^^ b) &&& m = 0 ↔ a &&& m = b &&& m := by
  constructor
  · intro h
    apply BitVec.eq_of_getElem_eq
    intro i hi
    have := congrArg (fun v : BitVec 32 => v[i]) h
    simp only [BitVec.getElem_and, BitVec.getElem_xor, BitVec.getElem_zero] at this ⊢
    revert this; cases a[i] <;> cases b[i] <;> cases m[i] <;> simp
  · intro h
    apply BitVec.eq_of_getElem_eq
    intro i hi
    have := congrArg (fun v : BitVec 32 => v[i]) h
    simp only [BitVec.getElem_and, BitVec.getElem_xor, BitVec.getElem_zero] at this ⊢
    revert this; cases a[i] <;> cases b[i] <;> cases m[i] <;> simp
theorem band_xor (a b m : Int) : (band (bxor a b) m == 0) = (band a m == band b m) := by
  unfold band bxor
  simp only [wrap_bv, ofInt_toNat]
  rw [Bool.eq_iff_iff]
  simp only [beq_iff_eq]
  constructor
  · intro h
    have h2 : ((BitVec.ofInt 32 a ^^^ BitVec.ofInt 32 b) &&& BitVec.ofInt 32 m) = 0 := by
      apply BitVec.eq_of_toNat_eq; simpa using h
    rw [(xor_and_zero _ _ _).1 h2]
  · intro h
    have h2 : (BitVec.ofInt 32 a &&& BitVec.ofInt 32 m) = (BitVec.ofInt 32 b &&& BitVec.ofInt 32 m) := by
      apply BitVec.eq_of_toNat_eq; omega
    rw [(xor_and_zero _ _ _).2 h2]; rfl

section
variable {β : Type} (n : Nat)
theorem addr_valid (p : Prefix) (k : c_addr_valid.sh.El → Option β) : (c_addr_valid.S n p).bind k = k (okPre p) := by
  have : c_addr_valid.S n p = some (okPre p) := by
    show (g_addr_valid p).run n = _
    simp only [g_addr_valid, G.run, tsOk, okPre, ge_iff_le]
    by_cases h : 0 ≤ p.Len <;> simp [h] <;> rfl
  rw [this]; rfl
theorem addr_mask (x : Int) (h0 : 0 ≤ x) (h1 : x ≤ 32) (k : c_addr_mask.sh.El → Option β) : (c_addr_mask.S n x).bind k = k (maskP x) := by
  have : c_addr_mask.S n x = some (maskP x) := by
    show (g_addr_mask x).run n = _
    simp only [g_addr_mask, G.run, tsOk, shlO_bind, maskP]
    rw [if_pos (by rw [wrap32 h0 h1]; simp; omega)]
    rfl
  rw [this]; rfl
theorem addr_Contains (p : Prefix) (ip : Int) (k : c_addr_Contains.sh.El → Option β) : (c_addr_Contains.S n (p, ip)).bind k = k (containsS p ip) := by
  have : c_addr_Contains.S n (p, ip) = some (containsS p ip) := by
    show (g_addr_Contains p ip).run n = _
    simp only [g_addr_Contains, G.run, tsOk, addr_valid, containsS]
    by_cases h : okPre p = true
    · simp only [h, if_true, Bool.true_and]
      simp only [okPre, Bool.and_eq_true, decide_eq_true_eq] at h
      rw [addr_mask n p.Len h.1 h.2]; rfl
    · simp [h]; rfl
  rw [this]; rfl
theorem ref_valid (p : Prefix) (k : c_ref01_valid.sh.El → Option β) : (c_ref01_valid.S n p).bind k = k (okPre p) := by
  have : c_ref01_valid.S n p = some (okPre p) := by
    show (g_ref01_valid p).run n = _
    simp only [g_ref01_valid, G.run, tsOk, okPre, ge_iff_le]
    by_cases h : 0 ≤ p.Len <;> simp [h] <;> rfl
  rw [this]; rfl
theorem ref_mask (x : Int) (h0 : 0 ≤ x) (h1 : x ≤ 32) (k : c_ref01_mask.sh.El → Option β) : (c_ref01_mask.S n x).bind k = k (maskP x) := by
  have : c_ref01_mask.S n x = some (maskR x) := by
    show (g_ref01_mask x).run n = _
    simp only [g_ref01_mask, G.run, tsOk, shlO_bind]
    rw [if_pos (by rw [wrap32 h0 h1]; simp; omega)]
    rfl
  rw [this, mask_eq h0 h1]; rfl
theorem ref_Contains (p : Prefix) (ip : Int) (k : c_ref01_Contains.sh.El → Option β) : (c_ref01_Contains.S n (p, ip)).bind k = k (containsS p ip) := by
  have : c_ref01_Contains.S n (p, ip) = some (containsS p ip) := by
    show (g_ref01_Contains p ip).run n = _
    simp only [g_ref01_Contains, G.run, tsOk, ref_valid, containsS, band_xor]
    by_cases h : okPre p = true
    · simp only [h, if_true, Bool.true_and]
      simp only [okPre, Bool.and_eq_true, decide_eq_true_eq] at h
      simp only [ref_mask n p.Len h.1 h.2]; rfl
    · simp [h]; rfl
  rw [this]; rfl
end
theorem bits_b {n : Nat} (x : Int) (h0 : 0 ≤ x) (h1 : x < 18446744073709551616) {β : Type} (k : c_math_bits_Len.sh.El → Option β) : (c_math_bits_Len.S n x).bind k = k ((Lib.bitLen x.toNat : Nat) : Int) := by
  have : c_math_bits_Len.S n x = some ((Lib.bitLen x.toNat : Nat) : Int) := by
    show bitsLenS x = _
    unfold bitsLenS
    rw [if_pos ⟨h0, h1⟩]
  rw [this]; rfl

theorem run_skip {ρ : Type} (n m : Nat) (g : G prog ρ) : (G.skip m g).run n = g.run n := rfl
theorem run_br {ρ : Type} (n : Nat) (d : Tmp) (c : Bool) (t f : G prog ρ) : (G.br d c t f).run n = if c then t.run n else f.run n := rfl
theorem run_call1 {ρ : Type} (n : Nat) (c : Ctr1 prog) (b v : Nat) (ex : List PR) (x : c.X) (k : c.sh.El → G prog ρ) : (G.call1 c b v ex x k).run n = (c.S n x).bind fun r => (k r).run n := rfl
theorem run_loop {ρ σ : Type} (n : Nat) (sh : Sh) (hd : List TS) (E : σ → St) (X : sh.El → AOut × St) (a0 : σ) (body : σ → G prog (σ ⊕ sh.El)) (k : sh.El → G prog ρ) : (G.loop sh hd E X a0 body k).run n = if tsOk hd then (iterO (fun a => (body a).run n) n a0).bind fun t => (k t).run n else none := rfl
theorem iter_one {σ τ : Type} (f : σ → Option (σ ⊕ τ)) (M : Nat) (a : σ) (t : τ) (h : f a = some (.inr t)) : iterO f (M + 1) a = some t := by simp only [iterO, h]

theorem pdq_small (S : Nat → PdqX → Option (List Int)) (ok : PdqOk S) (N : Nat) (d : Array Int) (hd : d.size ≤ 12) (lim : Int) (hN : 20 ≤ N) :
    (g_slices_pdqsortOrdered_uint32 S ok d.toList d.size 0 (d.size : Int) lim).run N = some (insertionSort ltInt d 0 d.size).toList := by
  obtain ⟨M, rfl⟩ : ∃ M, N = M + 1 := ⟨N - 1, by omega⟩
  have hi : ∀ {β : Type} (k : c_slices_insertionSortOrdered_uint32.sh.El → Option β), (c_slices_insertionSortOrdered_uint32.S (M + 1) (d.toList, d.size, (0 : Int), (d.size : Int))).bind k = k (insertionSort ltInt d 0 d.size).toList := fun k => by
    have h := insertion_run (M + 1) d 0 d.size (Nat.le_refl _) (Nat.zero_le _) (by omega) (by omega)
    exact (congrArg (fun o => Option.bind o k) h).trans rfl
  have w : Go.IntKind.wrap .i64 ((d.size : Int) - 0) = (d.size : Int) := by rw [wrap_i64 (by omega) (by omega)]; omega
  unfold g_slices_pdqsortOrdered_uint32
  refine (run_skip _ _ _).trans ((run_loop _ _ _ _ _ _ _ _).trans ?_)
  refine (if_pos rfl).trans ?_
  refine (congrArg (fun o => Option.bind o _) (iter_one _ M _ (insertionSort ltInt d 0 d.size).toList ?_)).trans rfl
  refine (run_skip _ _ _).trans ((run_br _ _ _ _ _).trans ((if_pos ?_).trans ((run_skip _ _ _).trans ((run_call1 _ _ _ _ _ _ _).trans ((hi _).trans rfl)))))
  simp only [w]; simp; omega

theorem run_call {ρ : Type} (n : Nat) (c : Ctr prog) (x : c.X) (k : c.sh.El → G prog ρ) : (G.call c x k).run n = (c.S n x).bind fun r => (k r).run n := rfl
theorem bits_S (n : Nat) (x : Int) (h0 : 0 ≤ x) (h1 : x < 18446744073709551616) : ∃ r : Int, c_math_bits_Len.S n x = some r := by
  refine ⟨((Lib.bitLen x.toNat : Nat) : Int), ?_⟩
  show bitsLenS x = _
  unfold bitsLenS
  rw [if_pos ⟨h0, h1⟩]
theorem sort_S (n : Nat) (l : List Int) (m : Nat) : c_slices_Sort_uint32_uint32.S n (l, m) = (g_slices_Sort_uint32_uint32 l m).run n := by kernel_rfl
theorem sort_of (N : Nat) (l : List Int) (m : Nat) (r : List Int) (hm : m ≤ 12) (hp : ∀ lim : Int, c_slices_pdqsortOrdered_uint32.S N (l, m, (0 : Int), (m : Int), lim) = some r) : c_slices_Sort_uint32_uint32.S N (l, m) = some r := by
  have w : Go.IntKind.wrap .u64 ((m : Nat) : Int) = (m : Int) := by simp [Go.IntKind.wrap, Go.IntKind.bits, Go.IntKind.signed]; omega
  obtain ⟨lim, hb⟩ := bits_S N (m : Int) (by omega) (by omega)
  have e : (g_slices_Sort_uint32_uint32 l m).run N = some r := by
    unfold g_slices_Sort_uint32_uint32
    refine (run_skip _ _ _).trans ((run_call _ _ _ _).trans ?_)
    rw [w]
    refine (congrArg (fun o => Option.bind o _) hb).trans ?_
    refine (run_call1 _ _ _ _ _ _ _).trans ?_
    refine (congrArg (fun o => Option.bind o _) (hp lim)).trans ?_
    rfl
  rw [sort_S]; exact e
theorem pdqAll_succ (M : Nat) : (pdqAll (M + 1)).1 = (pdqStep (pdqAll M).1 (pdqAll M).2).S := by rw [pdqAll]
theorem pdq_S (M n : Nat) (l : List Int) (m : Nat) (a b lim : Int) : (pdqAll (M + 1)).1 n (l, m, a, b, lim) = (g_slices_pdqsortOrdered_uint32 (pdqAll M).1 (pdqAll M).2 l m a b lim).run n := by rw [pdqAll_succ]; rfl
theorem sort_small (M : Nat) (d : Array Int) (hd : d.size ≤ 12) (hN : 20 ≤ M) : c_slices_Sort_uint32_uint32.S (M + 1) (d.toList, d.size) = some (insertionSort ltInt d 0 d.size).toList := by
  refine sort_of (M + 1) d.toList d.size _ hd fun lim => ?_
  show (pdqAll (M + 1)).1 (M + 1) (d.toList, d.size, (0 : Int), (d.size : Int), lim) = _
  rw [pdq_S]
  exact pdq_small _ _ (M + 1) d hd lim (by omega)


theorem loop_two {β : Type} {f : Int × List Int → Option ((Int × List Int) ⊕ List Int)} {k : List Int → Option β} {M : Nat} (h1 : ∃ T : List Int, T.length ≤ 1 ∧ f (0, []) = some (.inl (1, T))) (h2 : ∀ T : List Int, T.length ≤ 1 → f (1, T) = some (.inr T))
    (h3 : ∀ T : List Int, T.length ≤ 1 → ∃ r, k T = some r) : ∃ r, (iterO f (M + 2) (0, [])).bind k = some r := by
  obtain ⟨T, hT, h1⟩ := h1
  obtain ⟨r, h3⟩ := h3 T hT
  exact ⟨r, by simp only [iterO, h1, h2 T hT, Option.bind_some, h3]⟩

def kindS (c : V8 Int) : Int :=
  if c.a0 = 0 ∧ c.a1 = 2 then 1 else if c.a0 = 3 ∧ c.a1 = 12 then 2 else if c.a0 = 6 ∧ c.a1 = 0 then 3 else if c.a0 = 6 ∧ c.a1 = 1 then 4 else if c.a0 = 6 ∧ c.a1 = 2 then 5 else if c.a0 = 6 ∧ c.a1 = 3 then 6 else if c.a0 = 6 ∧ c.a1 = 6 then 7 else 0
theorem kind_run (n : Nat) (c : V8 Int) : c_comm_Kind.S n c = some (kindS c) := by
  show (g_comm_Kind c).run n = _
  simp only [g_comm_Kind, G.run, tsOk, if_true, kindS, Bool.and_true, Bool.and_eq_true, beq_iff_eq]
  have e : ∀ (a b : Int), (a = b) = (b = a) := fun a b => propext eq_comm
  simp only [e 0, e 1, e 2, e 3, e 6, e 12]
  repeat' split
  all_goals rfl
theorem kind_b {n : Nat} (c : V8 Int) {β : Type} (k : c_comm_Kind.sh.El → Option β) : (c_comm_Kind.S n c).bind k = k (kindS c) := by rw [kind_run]; rfl

theorem sort_list (M : Nat) (T : List Int) (hT : T.length ≤ 12) (hM : 20 ≤ M) : ∃ r : List Int, c_slices_Sort_uint32_uint32.S (M + 1) (T, T.length) = some r ∧ r.length = T.length := by
  have h := sort_small M T.toArray (by simpa using hT) hM
  have hs := (insertionSort_holds swo_ltInt T.toArray 0 T.toArray.size (Nat.zero_le _) (Nat.le_refl _)).1.1
  exact ⟨_, by simpa using h, by simpa using hs⟩

theorem targets_one (M : Nat) (hM : 20 ≤ M) (c : V8 Int) : ∃ r : List Int, c_comm_Targets.S (M + 1) [c] = some r := by
  show ∃ r : List Int, (g_comm_Targets [c]).run (M + 1) = some r
  obtain ⟨M, rfl⟩ : ∃ M', M = M' + 1 := ⟨M - 1, by omega⟩
  simp only [g_comm_Targets, G.run, tsOk, if_true, lenO_bind, idxO_bind, kind_b]
  refine loop_two ?_ (fun T hT => ?_) (fun T hT => ?_)
  · have e0 : at? [c] (0 : Int) = some c := rfl
    simp only [e0, Option.bind_some, appO_bind]
    rw [if_pos (by simp)]
    split
    · split
      · rw [if_pos (by simp [roomy])]
        exact ⟨_, by simp, rfl⟩
      · exact ⟨[], by simp, rfl⟩
    · exact ⟨[], by simp, rfl⟩
  · rw [if_neg (by simp)]
    rfl
  · obtain ⟨r, hr, hl⟩ := sort_list (M + 1) T (by omega) hM
    refine ⟨r, ?_⟩
    refine (congrArg (fun o => Option.bind o _) hr).trans ?_
    refine (if_pos (by simp; omega)).trans ?_
    exact if_pos (by simp [fzRow, hl])

section
variable {β : Type} (n : Nat)
def coversS (p q : Prefix) : Bool := okPre p && (okPre q && (decide (p.Len ≤ q.Len) && containsS p q.IP))
theorem addr_Covers (p q : Prefix) (k : c_addr_Covers.sh.El → Option β) : (c_addr_Covers.S n (p, q)).bind k = k (coversS p q) := by
  have : c_addr_Covers.S n (p, q) = some (coversS p q) := by
    show (g_addr_Covers p q).run n = _
    simp only [g_addr_Covers, G.run, tsOk, addr_valid, addr_Contains, coversS]
    cases okPre p <;> cases okPre q <;> cases decide (p.Len ≤ q.Len) <;> rfl
  rw [this]; rfl
theorem ref_Covers (p q : Prefix) (k : c_ref01_Covers.sh.El → Option β) : (c_ref01_Covers.S n (p, q)).bind k = k (coversS p q) := by
  have : c_ref01_Covers.S n (p, q) = some (coversS p q) := by
    show (g_ref01_Covers p q).run n = _
    simp only [g_ref01_Covers, G.run, tsOk, ref_valid, ref_Contains, coversS]
    cases okPre p <;> cases okPre q <;> cases decide (p.Len ≤ q.Len) <;> rfl
  rw [this]; rfl
def prefS (r : Route) : Prefix × Bool := if r.N.Kind = 5 then (r.N.Prefix, true) else if r.N.Kind = 2 ∧ r.N.HasIP = true then (⟨r.N.IP, 32⟩, true) else (⟨0, 0⟩, false)
theorem policy_Prefix (r : Route) (k : c_policy_Prefix.sh.El → Option β) : (c_policy_Prefix.S n r).bind k = k (prefS r) := by
  have : c_policy_Prefix.S n r = some (prefS r) := by
    show (g_policy_Prefix r).run n = _
    simp only [g_policy_Prefix, G.run, tsOk, prefS, beq_iff_eq]
    by_cases h : r.N.Kind = 5
    · simp [h]; rfl
    · by_cases h2 : r.N.Kind = 2
      · cases h3 : r.N.HasIP <;> simp [h, h2] <;> rfl
      · simp [h, h2]; rfl
  rw [this]; rfl
def withinS (x : Rule) (r : Route) : Bool := (prefS r).2 && (coversS x.Prefix (prefS r).1 && (decide ((prefS r).1.Len ≥ x.Ge) && decide ((prefS r).1.Len ≤ x.Le)))
theorem policy_within (x : Rule) (r : Route) (k : c_policy_within.sh.El → Option β) : (c_policy_within.S n (x, r)).bind k = k (withinS x r) := by
  have : c_policy_within.S n (x, r) = some (withinS x r) := by
    show (g_policy_within x r).run n = _
    simp only [g_policy_within, G.run, tsOk, policy_Prefix, addr_Covers, withinS]
    cases (prefS r).2 <;> cases coversS x.Prefix (prefS r).1 <;> cases decide ((prefS r).1.Len ≥ x.Ge) <;> cases decide ((prefS r).1.Len ≤ x.Le) <;> rfl
  rw [this]; rfl
/-- A rule that asks for a prefix alone. -/
def bareRule (p : Prefix) (ge le : Int) : Rule := Rule.mk [] [] 0 true p ge le false false 0 false 0 [] []
theorem m1 (X : c_policy_matches_1.X) (h : X.1 = ([] : List Int)) (k : c_policy_matches_1.sh.El → Option β) : (c_policy_matches_1.S n X).bind k = k true := by
  obtain ⟨a, Y⟩ := X
  have h : a = ([] : List Int) := h
  subst h
  have : c_policy_matches_1.S n (([] : List Int), Y) = some true := by kernel_rfl
  rw [this]; rfl
theorem m2 (X : c_policy_matches_2.X) (h : X.2.1 = ([] : List Int)) (k : c_policy_matches_2.sh.El → Option β) : (c_policy_matches_2.S n X).bind k = k true := by
  obtain ⟨a, b, Y⟩ := X
  have h : b = ([] : List Int) := h
  subst h
  have : c_policy_matches_2.S n (a, ([] : List Int), Y) = some true := by kernel_rfl
  rw [this]; rfl
theorem m3 (X : c_policy_matches_3.X) (h : X.2.2.1 = (0 : Int)) (k : c_policy_matches_3.sh.El → Option β) : (c_policy_matches_3.S n X).bind k = k true := by
  obtain ⟨a, b, c, Y⟩ := X
  have h : c = (0 : Int) := h
  subst h
  have : c_policy_matches_3.S n (a, b, (0 : Int), Y) = some true := by kernel_rfl
  rw [this]; rfl
theorem m4 (x : Rule) (r : Route) (h : x.HasPrefix = true) (k : c_policy_matches_4.sh.El → Option β) : (c_policy_matches_4.S n (x.Kinds, x.Targets, x.Peer, x.HasPrefix, x.Prefix.IP, x.Prefix.Len, x.Ge, x.Le, x.Permit, x.SetPref, x.Pref, x.SetMed, x.Med, x.Remove, x.Add, r.N.Kind, r.N.RD, r.N.ESI.a0, r.N.ESI.a1, r.N.ESI.a2, r.N.ESI.a3, r.N.ESI.a4, r.N.ESI.a5, r.N.ESI.a6, r.N.ESI.a7, r.N.ESI.a8, r.N.ESI.a9, r.N.Tag, r.N.MAC, r.N.IP, r.N.HasIP, r.N.Prefix.IP, r.N.Prefix.Len, r.N.Gateway, r.N.Label, r.N.Label2, r.A.Origin, r.A.Path, r.A.Next, r.A.HasMed, r.A.Med, r.A.HasPref, r.A.Pref, r.A.HasOriginator, r.A.Originator, r.A.Clusters, r.A.Comms, r.A.Tunnel.Kind, r.A.Tunnel.Label, r.A.Tunnel.Root, r.A.Tunnel.Group, r.Peer, r.Stale)).bind k = k (withinS x r) := by
  have : c_policy_matches_4.S n (x.Kinds, x.Targets, x.Peer, x.HasPrefix, x.Prefix.IP, x.Prefix.Len, x.Ge, x.Le, x.Permit, x.SetPref, x.Pref, x.SetMed, x.Med, x.Remove, x.Add, r.N.Kind, r.N.RD, r.N.ESI.a0, r.N.ESI.a1, r.N.ESI.a2, r.N.ESI.a3, r.N.ESI.a4, r.N.ESI.a5, r.N.ESI.a6, r.N.ESI.a7, r.N.ESI.a8, r.N.ESI.a9, r.N.Tag, r.N.MAC, r.N.IP, r.N.HasIP, r.N.Prefix.IP, r.N.Prefix.Len, r.N.Gateway, r.N.Label, r.N.Label2, r.A.Origin, r.A.Path, r.A.Next, r.A.HasMed, r.A.Med, r.A.HasPref, r.A.Pref, r.A.HasOriginator, r.A.Originator, r.A.Clusters, r.A.Comms, r.A.Tunnel.Kind, r.A.Tunnel.Label, r.A.Tunnel.Root, r.A.Tunnel.Group, r.Peer, r.Stale) = some (withinS x r) := by
    show (g_policy_matches_4 x.Kinds x.Targets x.Peer x.HasPrefix x.Prefix.IP x.Prefix.Len x.Ge x.Le x.Permit x.SetPref x.Pref x.SetMed x.Med x.Remove x.Add r.N.Kind r.N.RD r.N.ESI.a0 r.N.ESI.a1 r.N.ESI.a2 r.N.ESI.a3 r.N.ESI.a4 r.N.ESI.a5 r.N.ESI.a6 r.N.ESI.a7 r.N.ESI.a8 r.N.ESI.a9 r.N.Tag r.N.MAC r.N.IP r.N.HasIP r.N.Prefix.IP r.N.Prefix.Len r.N.Gateway r.N.Label r.N.Label2 r.A.Origin r.A.Path r.A.Next r.A.HasMed r.A.Med r.A.HasPref r.A.Pref r.A.HasOriginator r.A.Originator r.A.Clusters r.A.Comms r.A.Tunnel.Kind r.A.Tunnel.Label r.A.Tunnel.Root r.A.Tunnel.Group r.Peer r.Stale).run n = _
    simp only [g_policy_matches_4, G.run, tsOk, if_true, policy_within, h, Bool.not_true, Bool.false_eq_true, if_false]
    have hx : Rule.mk x.Kinds x.Targets x.Peer true (Prefix.mk x.Prefix.IP x.Prefix.Len) x.Ge x.Le x.Permit x.SetPref x.Pref x.SetMed x.Med x.Remove x.Add = x := by rw [← h]
    rw [hx]; rfl
  rw [this]; rfl
theorem policy_matches (p : Prefix) (ge le : Int) (r : Route) (T : List Int) (k : c_policy_matches.sh.El → Option β) : (c_policy_matches.S n (bareRule p ge le, r, T)).bind k = k (withinS (bareRule p ge le) r) := by
  have : c_policy_matches.S n (bareRule p ge le, r, T) = some (withinS (bareRule p ge le) r) := by
    show (g_policy_matches (bareRule p ge le) r T).run n = _
    unfold g_policy_matches
    simp only [G.run, tsOk, if_true]
    refine (m1 n _ rfl _).trans ((if_neg (by simp)).trans ?_)
    refine (m2 n _ rfl _).trans ((if_neg (by simp)).trans ?_)
    refine (m3 n _ rfl _).trans ((if_neg (by simp)).trans ?_)
    refine (m4 n _ _ rfl _).trans ?_
    cases withinS (bareRule p ge le) r <;> rfl
  rw [this]; rfl
end

theorem lives19_b {β : Type} {n : Nat} (k : c_law19_lives.sh.El → Option β) : (c_law19_lives.S n ()).bind k = k true := rfl

/-- A route that has one community. -/
def One (r : Route) : Prop := ∃ c, r.A.Comms = [c]
theorem matches_bare (M : Nat) (hM : 20 ≤ M) (p : Prefix) (ge le : Int) (r : Route) (hr : One r) {β : Type} (k : c_policy_Matches.sh.El → Option β) :
    (c_policy_Matches.S (M + 1) (Rule.mk [] [] (0 : Int) true p ge le false false (0 : Int) false (0 : Int) [] [], r)).bind k = k (withinS (bareRule p ge le) r) := by
  obtain ⟨c, hc⟩ := hr
  obtain ⟨T, hT⟩ := targets_one M hM c
  have : c_policy_Matches.S (M + 1) (bareRule p ge le, r) = some (withinS (bareRule p ge le) r) := by
    show (g_policy_Matches (bareRule p ge le) r).run (M + 1) = _
    simp only [g_policy_Matches, G.run, tsOk, if_true, hc]
    refine (congrArg (fun o => Option.bind o _) hT).trans ?_
    refine (policy_matches (M + 1) p ge le r T _).trans ?_
    rfl
  exact (congrArg (fun o => Option.bind o k) this).trans rfl

theorem target_some (n : Nat) (a x : Int) : ∃ c : V8 Int, c_ref03_Target.S n (a, x) = some c := by
  show ∃ c : V8 Int, (g_ref03_Target a x).run n = some c
  have h : ∀ y : Int, ∃ c : V8 Int, c_ref03_made.S n ((0 : Int), (2 : Int), y) = some c := fun y => by
    show ∃ c : V8 Int, (g_ref03_made 0 2 y).run n = some c
    simp only [g_ref03_made, G.run, tsOk, if_true]
    exact ⟨_, rfl⟩
  simp only [g_ref03_Target, G.run, tsOk, if_true]
  obtain ⟨c, hc⟩ := h (Go.IntKind.wrap .u64 ((Go.IntKind.wrap .u64 ((Go.IntKind.wrap .u64 a) * ((2 : Int) ^ (@Min.min Nat instMinNat (Int.toNat (32 : Int)) (Go.IntKind.bits .u64))))) + (Go.IntKind.wrap .u64 x)))
  exact ⟨c, (congrArg (fun o => Option.bind o _) hc).trans rfl⟩

theorem host_some (n : Nat) (ip t : Int) : ∃ r : Route, c_law19_host.S n (ip, t) = some r ∧ One r ∧ r.N.Kind = 2 ∧ r.N.HasIP = true ∧ r.N.IP = ip := by
  obtain ⟨c, hc⟩ := target_some n 65000 t
  refine ⟨Route.mk (NLRI.mk 2 0 (V10.mk 0 0 0 0 0 0 0 0 0 0) 0 1 ip true (Prefix.mk 0 0) 0 0 0) (Attrs.mk 0 [] 0 false 0 false 0 false 0 [] [c] (Tunnel.mk 0 0 0 0)) 3 false, ?_, ?_⟩
  · show (g_law19_host ip t).run n = _
    simp only [g_law19_host, G.run, tsOk, if_true]
    exact (congrArg (fun o => Option.bind o _) hc).trans rfl
  · exact ⟨⟨c, rfl⟩, rfl, rfl, rfl⟩
theorem prefix_some (n : Nat) (ip len t : Int) : ∃ r : Route, c_law19_prefix.S n (ip, len, t) = some r ∧ One r ∧ r.N.Kind = 5 ∧ r.N.Prefix = ⟨ip, len⟩ := by
  obtain ⟨h, hh, ⟨c, hc⟩, _⟩ := host_some n 0 t
  refine ⟨Route.mk (NLRI.mk 5 0 (V10.mk 0 0 0 0 0 0 0 0 0 0) 0 0 0 false (Prefix.mk ip len) 0 0 0) h.A h.Peer h.Stale, ?_, ?_⟩
  · show (g_law19_prefix ip len t).run n = _
    simp only [g_law19_prefix, G.run, tsOk, if_true]
    exact (congrArg (fun o => Option.bind o _) hh).trans rfl
  · exact ⟨⟨c, hc⟩, rfl, rfl⟩

theorem ranges_run (M : Nat) (hM : 20 ≤ M) (p q : Prefix) (ge le ip : Int) : (g_law19_PolicyRanges p q ge le ip).run (M + 1) = some true := by
  obtain ⟨r1, e1, o1, k1, p1⟩ := prefix_some (M + 1) q.IP q.Len 7
  obtain ⟨r2, e2, o2, k2, i2, j2⟩ := host_some (M + 1) ip 7
  have b1 : ∀ {β : Type} (k : c_law19_prefix.sh.El → Option β), (c_law19_prefix.S (M + 1) (q.IP, q.Len, (7 : Int))).bind k = k r1 := fun k => (congrArg (fun o => Option.bind o k) e1).trans rfl
  have b2 : ∀ {β : Type} (k : c_law19_host.sh.El → Option β), (c_law19_host.S (M + 1) (ip, (7 : Int))).bind k = k r2 := fun k => (congrArg (fun o => Option.bind o k) e2).trans rfl
  have m1 : ∀ {β : Type} (k : c_policy_Matches.sh.El → Option β), (c_policy_Matches.S (M + 1) (Rule.mk [] [] (0 : Int) true p ge le false false (0 : Int) false (0 : Int) [] [], r1)).bind k = k (coversS p q && (decide (q.Len ≥ ge) && decide (q.Len ≤ le))) := fun k => by
    rw [matches_bare M hM p ge le r1 o1]
    have : withinS (bareRule p ge le) r1 = (coversS p q && (decide (q.Len ≥ ge) && decide (q.Len ≤ le))) := by
      simp only [withinS, prefS, k1, p1, if_true, Bool.true_and, bareRule]
    rw [this]
  have m2 : ∀ {β : Type} (k : c_policy_Matches.sh.El → Option β), (c_policy_Matches.S (M + 1) (Rule.mk [] [] (0 : Int) true p ge le false false (0 : Int) false (0 : Int) [] [], r2)).bind k = k (coversS p ⟨ip, 32⟩ && (decide ((32 : Int) ≥ ge) && decide ((32 : Int) ≤ le))) := fun k => by
    rw [matches_bare M hM p ge le r2 o2]
    have : withinS (bareRule p ge le) r2 = (coversS p ⟨ip, 32⟩ && (decide ((32 : Int) ≥ ge) && decide ((32 : Int) ≤ le))) := by
      simp [withinS, prefS, k2, i2, j2, bareRule]
    rw [this]
  have m3 : ∀ {β : Type} (k : c_policy_Matches.sh.El → Option β), (c_policy_Matches.S (M + 1) (Rule.mk [] [] (0 : Int) true p ge le false false (0 : Int) false (0 : Int) [] [], Route.mk (NLRI.mk r2.N.Kind r2.N.RD r2.N.ESI r2.N.Tag r2.N.MAC r2.N.IP false r2.N.Prefix r2.N.Gateway r2.N.Label r2.N.Label2) r2.A r2.Peer r2.Stale)).bind k = k false := fun k => by
    rw [matches_bare M hM p ge le _ (by obtain ⟨c, hc⟩ := o2; exact ⟨c, hc⟩)]
    have : withinS (bareRule p ge le) (Route.mk (NLRI.mk r2.N.Kind r2.N.RD r2.N.ESI r2.N.Tag r2.N.MAC r2.N.IP false r2.N.Prefix r2.N.Gateway r2.N.Label r2.N.Label2) r2.A r2.Peer r2.Stale) = false := by
      simp [withinS, prefS, k2]
    rw [this]
  simp only [g_law19_PolicyRanges, G.run, tsOk, if_true, lives19_b, b1, b2, m1, m2, m3, ref_Covers, Bool.not_true, Bool.not_false, Bool.false_eq_true, if_false]
  have g1 : ∀ a b : Int, (a ≥ b) = (b ≤ a) := fun _ _ => rfl
  simp only [g1]
  cases coversS p q <;> cases coversS p ⟨ip, 32⟩ <;> cases decide (ge ≤ q.Len) <;> cases decide (ge ≤ 32) <;> cases decide (q.Len ≤ le) <;> cases decide (32 ≤ le) <;> rfl
end Go.L
namespace Go.L
open Go.AM
set_option linter.unusedVariables false
theorem law_policyRanges (p q : Prefix) (ge le ip : Int) {q0 q1 q2 q3 q4 : Prop} (h0 : q0) (h1 : q1) (h2 : q2) (h3 : q3) (h4 : q4) :
    FnVal prog 10 [.agg (ePrefix p), .agg (ePrefix q), .sc (.int .i64 ge), .sc (.int .i64 le), .sc (.int .u32 ip)] (.ret (.sc (.bool true))) :=
  c_law19_PolicyRanges.ok 100 (p, q, ge, le, ip) true (ranges_run 99 (by decide) p q ge le ip)
end Go.L
namespace Go.Proofs.YtfgigcdbcbgpoaaDoor.policyRanges
open Go.ChangeShapes Go.WideShapes Go.ChangeAt Go.RowKit Go.AM Go.L
set_option linter.unusedVariables false

def kv : List Value := [(1, 0, 2), (2, 3, 12), (3, 6, 0), (4, 6, 1), (5, 6, 2), (6, 6, 3), (7, 6, 6)].flatMap fun (p : Int × Int × Int) => [.int .i64 p.1, .int .u8 p.2.1, .int .u8 p.2.2]
def kk : List Kd := (List.replicate 7 [.int .i64, .int .u8, .int .u8]).flatten
theorem globsOk {W : World} (h : laidMet Tryd.prog Rows.policyRangesRow.laid W) : GlobsOk (Gh.bare W) W := by
  refine globs_one (P := Tryd.prog) (name := "leafmesh/comm.kinds") (g := 0) (vs := kv) (by kernel_rfl) (laid_cells (g := 0) (t := 104) (ks := kk) (by kernel_rfl) (by kernel_rfl) (by kernel_rfl) (by kernel_rfl) h) (by kernel_rfl) fun i cs hi => ?_
  match i, hi with
  | 0, hi => exact ⟨rfl, (Option.some.inj hi).symm⟩
theorem own : ownKnob Tryd.prog.godebug = none := by kernel_rfl
theorem slices : ((List.range Tryd.prog.types.size).all fun t => match Tryd.prog.underlying t with | some (.slice e) => decide (0 < Tryd.prog.cellsOf e) | _ => true) = true := by kernel_rfl
theorem maps : mapsRowed Tryd.prog = true := by kernel_rfl
theorem inTable : (Tryd.f10.params.toList.all fun t => Nat.ble (t + 1) Tryd.prog.types.size) = true := by kernel_rfl
set_option maxRecDepth 100000 in
theorem contract (H : Type) (enc : TypeId × Value → H) (W : World) (base : Nat) (args : Array Value) (ds gs : List (DataW H)) (before : List MemPlace)
    (hval : ∀ (j : Nat) t v, Tryd.f10.params[j]? = some t → args[j]? = some v → Value.okWide Tryd.prog W .any base t v)
    (hW : DataW.Whole enc Tryd.prog Tryd.f10.params.toList Rows.policyRangesSpec.vars false W args.toList ds gs before) (hL : laidMetH Tryd.prog Rows.policyRangesRow.laid W) :
    Calls Tryd.prog 10 args W fun e W' => ∃ v, e = .returned v ∧ Rows.policyRangesSpec.post enc Tryd.prog Tryd.f10 false true false false W args v W' := by
  have hW' := hW
  have hlt := hW.lt
  obtain ⟨p, q, hA0, hV, rfl, hfz, hnd⟩ := hW
  have hA : DataW.TrodAll enc Tryd.prog W 0 (fun _ => true) true Tryd.f10.params.toList args.toList ds p := hA0
  clear hA0
  have hAll := hA
  rw [Tryd.params10] at hA hval
  obtain ⟨v0, r0, d0, e0, p0, q0, hv0, hd0, hp0, t0, hA⟩ := trodAll_cons hA
  obtain ⟨v1, r1, d1, e1, p1, q1, hv1, hd1, hp1, t1, hA⟩ := trodAll_cons hA
  obtain ⟨v2, r2, d2, e2, p2, q2, hv2, hd2, hp2, t2, hA⟩ := trodAll_cons hA
  obtain ⟨v3, r3, d3, e3, p3, q3, hv3, hd3, hp3, t3, hA⟩ := trodAll_cons hA
  obtain ⟨v4, r4, d4, e4, p4, q4, hv4, hd4, hp4, t4, hA⟩ := trodAll_cons hA
  obtain ⟨hr, hd, hq⟩ := trodAll_nil hA
  obtain rfl : args = #[v0, v1, v2, v3, v4] := by apply Array.ext'; simp only [hv0, hv1, hv2, hv3, hv4, hr]
  obtain rfl : ds = [d0, d1, d2, d3, d4] := by simp only [hd0, hd1, hd2, hd3, hd4, hd]
  obtain ⟨rfl, rfl⟩ := trodVars_none hV
  simp only [List.append_nil] at hW' hlt
  obtain ⟨a0, ok0, ra0⟩ := Rdb.agg rdPrefix Tryd.underlying64 (hval 0 _ _ rfl rfl) t0
  obtain ⟨a1, ok1, ra1⟩ := Rdb.agg rdPrefix Tryd.underlying64 (hval 1 _ _ rfl rfl) t1
  obtain ⟨a2, ok2, ra2⟩ := Rdb.cell (c := (cI .i64)) (Rdb.int Tryd.underlying3 (by kernel_rfl)) (by kernel_rfl) (hval 2 _ _ rfl rfl) t2
  obtain ⟨a3, ok3, ra3⟩ := Rdb.cell (c := (cI .i64)) (Rdb.int Tryd.underlying3 (by kernel_rfl)) (by kernel_rfl) (hval 3 _ _ rfl rfl) t3
  obtain ⟨a4, ok4, ra4⟩ := Rdb.cell (c := (cI .u32)) (Rdb.int Tryd.underlying62 (by kernel_rfl)) (by kernel_rfl) (hval 4 _ _ rfl rfl) t4
  refine (law_top (law_policyRanges a0 a1 a2 a3 a4 ok0 ok1 ok2 ok3 ok4) W (globsOk hL) _ ⟨_, _, rfl, ra0, ⟨_, _, rfl, ra1, ⟨_, _, rfl, ra2, ⟨_, _, rfl, ra3, ⟨_, _, rfl, ra4, rfl⟩⟩⟩⟩⟩).mono fun e W' ⟨he, hg⟩ => ?_
  subst he
  exact ⟨_, rfl, post_of_below (pa := p) (pv := []) hW' (fun _ _ _ => (trodAll_cons_mk (shut_bool Tryd.underlying4 _) trodAll_mk0))
    (fun sp hsp => trodAll_kept laid maps (slices_full_of _ slices) hg (fun t ht => Nat.le_of_ble_eq_true (List.all_eq_true.1 inTable t ht)) hAll hlt hsp) (fun _ _ => rfl) (by simp)
    hg (ok_one (by kernel_rfl) rfl (okWide_bool_mk Tryd.underlying4 _))⟩

/-- A world for the witness: the settled one, the variable holding what its initialiser lays. -/
noncomputable def laidWorld (os : Os) : World :=
  { World.holding Tryd.prog os ⟨#[], #[.agg #[.int .u32 0, .int .i64 0], .agg #[.int .u32 0, .int .i64 0], .int .i64 0, .int .i64 0, .int .u32 0], []⟩ with heap := (World.holding Tryd.prog os ⟨#[], #[.agg #[.int .u32 0, .int .i64 0], .agg #[.int .u32 0, .int .i64 0], .int .i64 0, .int .i64 0, .int .u32 0], []⟩).heap.modify 0 fun
      | .cells _ t frozen => .cells kv.toArray t frozen
      | o => o }
theorem laid_met (os : Os) : laidMet Tryd.prog Rows.policyRangesRow.laid ((laidWorld os).forCall (fun _ _ => 0) ⟨#[], #[.agg #[.int .u32 0, .int .i64 0], .agg #[.int .u32 0, .int .i64 0], .int .i64 0, .int .i64 0, .int .u32 0], []⟩).memory :=
  laidMet_of_run' 8 (by kernel_rfl) (by kernel_rfl)
theorem reads (os : Os) {H : Type} (enc : TypeId × Value → H) : ∃ x, DataW.whole enc Tryd.prog ((laidWorld os).forCall (fun _ _ => 0) ⟨#[], #[.agg #[.int .u32 0, .int .i64 0], .agg #[.int .u32 0, .int .i64 0], .int .i64 0, .int .i64 0, .int .u32 0], []⟩).memory Tryd.f10.params.toList Rows.policyRangesSpec.vars false (#[.agg #[.int .u32 0, .int .i64 0], .agg #[.int .u32 0, .int .i64 0], .int .i64 0, .int .i64 0, .int .u32 0] : Array Value).toList 8 = some x := by
  have h : (DataW.whole enc Tryd.prog ((laidWorld os).forCall (fun _ _ => 0) ⟨#[], #[.agg #[.int .u32 0, .int .i64 0], .agg #[.int .u32 0, .int .i64 0], .int .i64 0, .int .i64 0, .int .u32 0], []⟩).memory Tryd.f10.params.toList Rows.policyRangesSpec.vars false (#[.agg #[.int .u32 0, .int .i64 0], .agg #[.int .u32 0, .int .i64 0], .int .i64 0, .int .i64 0, .int .u32 0] : Array Value).toList 8).isSome = true := by kernel_rfl
  exact Option.isSome_iff_exists.1 h

set_option maxRecDepth 100000 in
theorem lifted (os : Os) (started : os.Started) (H : Type) (enc : TypeId × Value → H) (F : Stop.Interp) :
    ReturnsInHanded {} Tryd.checked os 10 .any ((OpenSpec.ofChange Rows.policyRangesSpec).preRow enc Tryd.prog Tryd.f10 Rows.policyRangesRow.domain false Rows.policyRangesRow.laid) (((OpenSpec.ofChange Rows.policyRangesSpec).at F).post enc Tryd.prog Tryd.f10 false true false false) := by
  obtain ⟨x, hx⟩ := reads os enc
  refine returnsInHanded_of_row (C := Tryd.checked) (s := OpenSpec.ofChange Rows.policyRangesSpec) own started (by kernel_rfl) Tryd.func10
    (witness_row_at (enc := enc) (C := Tryd.checked) false (laidWorld os) #[.agg #[.int .u32 0, .int .i64 0], .agg #[.int .u32 0, .int .i64 0], .int .i64 0, .int .i64 0, .int .u32 0] rfl (by kernel_rfl) (by kernel_rfl) (by kernel_rfl)
      (OpenSpec.preRow_of_cond 8 hx (by kernel_rfl) (fun k hk => by cases hk) (by kernel_rfl) (laid_met os))) ?_
  intro W base args ds gs before hval hW _ _ _ hL _ _
  exact contract H enc W base args ds gs before hval hW hL

theorem said : Rows.PolicyRangesSaid :=
  OpenClaim.holds_of_cond 10 Tryd.f10 rfl rfl rfl rfl rfl rfl rfl ⟨rfl, rfl, rfl, rfl, rfl⟩ rfl rfl rfl rfl rfl (by kernel_rfl) Tryd.func10 (by kernel_rfl)
    (of_decide_eq_true (by kernel_rfl)) (by unfold Func.isWrapper; first | (rw [if_pos (by decide +kernel)]; kernel_rfl) | (rw [if_neg (by decide +kernel)]; exact ⟨rfl, rfl⟩))
    (fun os started H enc _ F => by rw [OpenClaim.pre_eq_preRow]; exact lifted os started H enc F)

theorem noStand : (Tryd.f10.params.toList.all fun t => !Tryd.prog.wantsStandIn t) = true := by kernel_rfl
theorem plain (f : FuncId) (fn : Func) (hf : Tryd.pinned.checked.prog.funcNamed Rows.policyRangesRow.func = some f) (hfn : Tryd.pinned.checked.prog.funcs[f]? = some fn) :
    false = Tryd.pinned.checked.prog.looks [] ∧ ∀ (j : Nat) t, fn.params[j]? = some t → Tryd.pinned.checked.prog.wantsStandIn t = false := by
  obtain rfl : f = 10 := Option.some.inj ((show Tryd.prog.funcNamed Rows.policyRangesRow.func = some 10 by kernel_rfl).symm.trans hf) |>.symm
  obtain rfl : fn = Tryd.f10 := (Option.some.inj (Tryd.func10.symm.trans hfn)).symm
  refine ⟨by kernel_rfl, fun j t ht => ?_⟩
  have := List.all_eq_true.1 noStand t (Array.mem_toList_iff.2 (Array.mem_of_getElem? ht))
  have h2 : Tryd.prog.wantsStandIn t = false := by simpa using this
  exact h2

theorem card : Rows.PolicyRangesCardSaid :=
  Claim7.holds_tied_plain_at .later [] _ _ _ _ said (fun _ h => by cases h) (by kernel_rfl) (fun _ h => by cases h) policyRanges_row_tie rfl ⟨rfl, rfl⟩ (by kernel_rfl) rfl plain (by kernel_rfl)
end Go.Proofs.YtfgigcdbcbgpoaaDoor.policyRanges
