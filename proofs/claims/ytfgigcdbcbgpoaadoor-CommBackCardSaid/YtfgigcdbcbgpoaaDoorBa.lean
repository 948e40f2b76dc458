/- The getters of communities return what the constructors were given, wherever the community is in a list among others of other kinds: CommBack returns true for every input; the card, tied to the program's text. No conditions. -/
import Derived.Test.YtfgigcdbcbgpoaaDoorWb
import Derived.Test.YtfgigcdbcbgpoaaDoorAmPl
import Derived.Test.YtfgigcdbcbgpoaaDoorRe
import Derived.Test.YtfgigcdbcbgpoaaDoorAmDr
import Derived.Sort.AssemblyPlain
import Derived.Test.YtfgigcdbcbgpoaaDoorRows
import Derived.Test.YtfgigcdbcbgpoaaDoorCards
import Derived.Test.YtfgigcdbcbgpoaaDoorTie
import Derived.Deep.DeepHandedRow
import Derived.Lib.LaidTab
namespace Go.L
open Go.AM Go.Sort
set_option maxRecDepth 100000
set_option linter.unusedSimpArgs false
set_option linter.unusedVariables false

theorem iter_spec {σ τ : Type} {f : σ → Option (σ ⊕ τ)} (I : σ → Prop) (m : σ → Nat) (F : σ → τ) (step : ∀ s, I s → f s = some (.inr (F s)) ∨ ∃ s', f s = some (.inl s') ∧ I s' ∧ F s' = F s ∧ m s' < m s) :
    ∀ (N : Nat) (s : σ), I s → m s < N → iterO f N s = some (F s)
  | 0, s, _, h => absurd h (Nat.not_lt_zero _)
  | N + 1, s, hi, h => by
    rcases step s hi with e | ⟨s', e, hi', hF, hm⟩
    · simp only [iterO, e]
    · simp only [iterO, e]
      rw [iter_spec I m F step N s' hi' (by omega), hF]
theorem bind_iter {σ τ β : Type} {f : σ → Option (σ ⊕ τ)} {k : τ → Option β} {N : Nat} {s : σ} {r : Option β} (I : σ → Prop) (m : σ → Nat) (F : σ → τ) (hI : I s) (hm : m s < N)
    (step : ∀ s, I s → f s = some (.inr (F s)) ∨ ∃ s', f s = some (.inl s') ∧ I s' ∧ F s' = F s ∧ m s' < m s) (hk : k (F s) = r) : (iterO f N s).bind k = r := by
  rw [iter_spec I m F step N s hI hm]; exact hk

theorem less_b {n : Nat} (x y : Int) {β : Type} (k : c_cmp_Less_uint32.sh.El → Option β) : (c_cmp_Less_uint32.S n (x, y)).bind k = k (ltInt x y) := by
  have : c_cmp_Less_uint32.S n (x, y) = some (ltInt x y) := by
    show (g_cmp_Less_uint32 x y).run n = _
    have e : ∀ (z : Int), c_cmp_isNaN_uint32.S n z = some false := fun z => by
      show (g_cmp_isNaN_uint32 z).run n = _
      simp only [g_cmp_isNaN_uint32, G.run, tsOk, if_true]
      rw [show (z != z) = false by simp]
      rfl
    have eb : ∀ (z : Int) {β : Type} (k : c_cmp_isNaN_uint32.sh.El → Option β), (c_cmp_isNaN_uint32.S n z).bind k = k false := fun z β k => by rw [e]; rfl
    simp only [g_cmp_Less_uint32, G.run, tsOk, if_true, eb, Bool.false_eq_true, if_false, ltInt]
    rfl
  rw [this]; rfl

theorem get_d (d : Array Int) {i : Nat} (h : i < d.size) : d.toList[i]? = some d[i]! := by
  rw [getElem!_pos d i h]; simp [h]
theorem set_d (d : Array Int) (i : Nat) (x : Int) : d.toList.set i x = (d.setIfInBounds i x).toList := by simp
theorem swp_d (d : Array Int) (i j : Nat) : (d.toList.set i d[j]!).set j d[i]! = (swp d i j).toList := by simp [swp]
theorem size_swp' (d : Array Int) (i j : Nat) : (swp d i j).size = d.size := by simp [swp]

theorem stO_bind {X β : Type} (l : List X) (enc : X → List AVal) (n b ver i o : Nat) (y : X → X) (k : X → Option β) : (stO l enc n b ver i o y).run.bind k = (l[i]?).bind k := rfl
theorem size_insInner (a : Nat) : ∀ (j : Nat) (d : Array Int), (insInner ltInt a j d).size = d.size
  | 0, d => rfl
  | j + 1, d => by
    rw [insInner]
    split
    · rw [size_insInner a j, size_swp']
    · rfl

theorem insertion_run (N : Nat) (d : Array Int) (a b : Nat) (hb : b ≤ d.size) (hab : a ≤ b) (hs : d.size < 4611686018427387904) (hN : d.size < N) :
    c_slices_insertionSortOrdered_uint32.S N (d.toList, d.size, (a : Int), (b : Int)) = some (insertionSort ltInt d a b).toList := by
  show (g_slices_insertionSortOrdered_uint32 d.toList d.size (a : Int) (b : Int)).run N = _
  simp only [g_slices_insertionSortOrdered_uint32, G.run, tsOk, if_true, less_b, idxS_bind, ldO_bind]
  have w1 : Go.IntKind.wrap .i64 ((a : Int) + 1) = ((a + 1 : Nat) : Int) := by rw [wrap_i64 (by omega) (by omega)]; omega
  rw [w1]
  refine bind_iter (I := fun s => ∃ (i : Nat) (e : Array Int), s = ((i : Int), e.toList) ∧ a < i ∧ i ≤ b + 1 ∧ e.size = d.size ∧ insOuter ltInt a b i e = insertionSort ltInt d a b) (m := fun s => b + 1 - s.1.toNat) (F := fun _ => (insertionSort ltInt d a b).toList)
    ⟨a + 1, d, rfl, by omega, by omega, rfl, rfl⟩ (by omega) (fun s hs' => ?_) rfl
  obtain ⟨i, e, rfl, h1, h2, h3, h4⟩ := hs'
  by_cases hib : i < b
  · have c1 : decide ((i : Int) < (b : Int)) = true := by simp; omega
    simp only [c1, if_true]
    right
    have hO : insOuter ltInt a b i e = insOuter ltInt a b (i + 1) (insInner ltInt a i e) := by rw [insOuter, if_pos hib]
    refine ⟨(((i + 1 : Nat) : Int), (insInner ltInt a i e).toList), ?_, ⟨i + 1, insInner ltInt a i e, rfl, by omega, by omega, by rw [size_insInner]; exact h3, by rw [← hO]; exact h4⟩, rfl, by simp only; omega⟩
    have w2 : Go.IntKind.wrap .i64 ((i : Int) + 1) = ((i + 1 : Nat) : Int) := by rw [wrap_i64 (by omega) (by omega)]; omega
    refine bind_iter (I := fun s => ∃ (j : Nat) (e' : Array Int), s = ((j : Int), e'.toList) ∧ a ≤ j ∧ j ≤ i ∧ e'.size = d.size ∧ insInner ltInt a j e' = insInner ltInt a i e) (m := fun s => s.1.toNat) (F := fun _ => (insInner ltInt a i e).toList)
      ⟨i, e, rfl, by omega, by omega, h3, rfl⟩ (by simp only; omega) (fun s hs' => ?_) (by rw [w2])
    obtain ⟨j, e', rfl, g1, g2, g3, g4⟩ := hs'
    by_cases hja : a < j
    · have c2 : decide ((j : Int) > (a : Int)) = true := by simp; omega
      obtain ⟨j', rfl⟩ : ∃ j', j = j' + 1 := ⟨j - 1, by omega⟩
      have w3 : Go.IntKind.wrap .i64 (((j' + 1 : Nat) : Int) - 1) = (j' : Int) := by rw [wrap_i64 (by omega) (by omega)]; omega
      have r1 : (0 : Int) ≤ ((j' + 1 : Nat) : Int) ∧ ((j' + 1 : Nat) : Int) < (d.size : Int) := by omega
      have r2 : (0 : Int) ≤ (j' : Int) ∧ (j' : Int) < (d.size : Int) := by omega
      simp only [c2, if_true, w3, Int.toNat_natCast, if_pos r1, if_pos r2, get_d e' (show j' + 1 < e'.size by omega), get_d e' (show j' < e'.size by omega), Option.bind_some, less_b]
      have hI : insInner ltInt a (j' + 1) e' = if decide (j' + 1 > a) && ltInt e'[j' + 1]! e'[j']! then insInner ltInt a j' (swp e' (j' + 1) j') else e' := rfl
      cases hl : ltInt e'[j' + 1]! e'[j']! with
      | true =>
        right
        refine ⟨((j' : Int), (swp e' (j' + 1) j').toList), ?_, ⟨j', swp e' (j' + 1) j', rfl, by omega, by omega, by rw [size_swp']; exact g3, ?_⟩, rfl, by simp only [Int.toNat_natCast]; omega⟩
        · simp only [if_true, stO_bind, get_d e' (show j' + 1 < e'.size by omega), get_d e' (show j' < e'.size by omega), Option.bind_some]
          rw [← swp_d]

          rw [set_d, get_d _ (by simp; omega)]; rfl
        · rw [← g4, hI, hl]; simp; omega
      | false =>
        left
        simp only [Bool.false_eq_true, if_false]
        rw [hl, Bool.and_false, if_neg (by simp)] at hI
        rw [← g4, hI]
    · have c2 : decide ((j : Int) > (a : Int)) = false := by simp; omega
      left
      simp only [c2, Bool.false_eq_true, if_false]
      have : insInner ltInt a j e' = e' := by
        cases j with
        | zero => rfl
        | succ j' => rw [insInner, if_neg (by simp; omega)]
      rw [← g4, this]
  · have c1 : decide ((i : Int) < (b : Int)) = false := by simp; omega
    left
    simp only [c1, Bool.false_eq_true, if_false]
    have : insOuter ltInt a b i e = e := by rw [insOuter, if_neg hib]
    rw [← h4, this]
theorem bits_b {n : Nat} (x : Int) (h0 : 0 ≤ x) (h1 : x < 18446744073709551616) {β : Type} (k : c_math_bits_Len.sh.El → Option β) : (c_math_bits_Len.S n x).bind k = k ((Lib.bitLen x.toNat : Nat) : Int) := by
  have : c_math_bits_Len.S n x = some ((Lib.bitLen x.toNat : Nat) : Int) := by
    show bitsLenS x = _
    unfold bitsLenS
    rw [if_pos ⟨h0, h1⟩]
  rw [this]; rfl

theorem run_skip {ρ : Type} (n m : Nat) (g : G prog ρ) : (G.skip m g).run n = g.run n := rfl
theorem run_br {ρ : Type} (n : Nat) (d : Tmp) (c : Bool) (t f : G prog ρ) : (G.br d c t f).run n = if c then t.run n else f.run n := rfl
theorem run_call1 {ρ : Type} (n : Nat) (c : Ctr1 prog) (b v : Nat) (ex : List PR) (x : c.X) (k : c.sh.El → G prog ρ) : (G.call1 c b v ex x k).run n = (c.S n x).bind fun r => (k r).run n := rfl
theorem run_loop {ρ σ : Type} (n : Nat) (sh : Sh) (hd : List TS) (E : σ → St) (X : sh.El → AOut × St) (a0 : σ) (body : σ → G prog (σ ⊕ sh.El)) (k : sh.El → G prog ρ) : (G.loop sh hd E X a0 body k).run n = if tsOk hd then (iterO (fun a => (body a).run n) n a0).bind fun t => (k t).run n else none := rfl
theorem iter_one {σ τ : Type} (f : σ → Option (σ ⊕ τ)) (M : Nat) (a : σ) (t : τ) (h : f a = some (.inr t)) : iterO f (M + 1) a = some t := by simp only [iterO, h]

theorem pdq_small (S : Nat → PdqX → Option (List Int)) (ok : PdqOk S) (N : Nat) (d : Array Int) (hd : d.size ≤ 12) (lim : Int) (hN : 20 ≤ N) :
    (g_slices_pdqsortOrdered_uint32 S ok d.toList d.size 0 (d.size : Int) lim).run N = some (insertionSort ltInt d 0 d.size).toList := by
  obtain ⟨M, rfl⟩ : ∃ M, N = M + 1 := ⟨N - 1, by omega⟩
  have hi : ∀ {β : Type} (k : c_slices_insertionSortOrdered_uint32.sh.El → Option β), (c_slices_insertionSortOrdered_uint32.S (M + 1) (d.toList, d.size, (0 : Int), (d.size : Int))).bind k = k (insertionSort ltInt d 0 d.size).toList := fun k => by
    have h := insertion_run (M + 1) d 0 d.size (Nat.le_refl _) (Nat.zero_le _) (by omega) (by omega)
    exact (congrArg (fun o => Option.bind o k) h).trans rfl
  have w : Go.IntKind.wrap .i64 ((d.size : Int) - 0) = (d.size : Int) := by rw [wrap_i64 (by omega) (by omega)]; omega
  unfold g_slices_pdqsortOrdered_uint32
  refine (run_skip _ _ _).trans ((run_loop _ _ _ _ _ _ _ _).trans ?_)
  refine (if_pos rfl).trans ?_
  refine (congrArg (fun o => Option.bind o _) (iter_one _ M _ (insertionSort ltInt d 0 d.size).toList ?_)).trans rfl
  refine (run_skip _ _ _).trans ((run_br _ _ _ _ _).trans ((if_pos ?_).trans ((run_skip _ _ _).trans ((run_call1 _ _ _ _ _ _ _).trans ((hi _).trans rfl)))))
  simp only [w]; simp; omega

theorem run_call {ρ : Type} (n : Nat) (c : Ctr prog) (x : c.X) (k : c.sh.El → G prog ρ) : (G.call c x k).run n = (c.S n x).bind fun r => (k r).run n := rfl
theorem bits_S (n : Nat) (x : Int) (h0 : 0 ≤ x) (h1 : x < 18446744073709551616) : ∃ r : Int, c_math_bits_Len.S n x = some r := by
  refine ⟨((Lib.bitLen x.toNat : Nat) : Int), ?_⟩
  show bitsLenS x = _
  unfold bitsLenS
  rw [if_pos ⟨h0, h1⟩]
theorem sort_S (n : Nat) (l : List Int) (m : Nat) : c_slices_Sort_uint32_uint32.S n (l, m) = (g_slices_Sort_uint32_uint32 l m).run n := by kernel_rfl
theorem sort_of (N : Nat) (l : List Int) (m : Nat) (r : List Int) (hm : m ≤ 12) (hp : ∀ lim : Int, c_slices_pdqsortOrdered_uint32.S N (l, m, (0 : Int), (m : Int), lim) = some r) : c_slices_Sort_uint32_uint32.S N (l, m) = some r := by
  have w : Go.IntKind.wrap .u64 ((m : Nat) : Int) = (m : Int) := by simp [Go.IntKind.wrap, Go.IntKind.bits, Go.IntKind.signed]; omega
  obtain ⟨lim, hb⟩ := bits_S N (m : Int) (by omega) (by omega)
  have e : (g_slices_Sort_uint32_uint32 l m).run N = some r := by
    unfold g_slices_Sort_uint32_uint32
    refine (run_skip _ _ _).trans ((run_call _ _ _ _).trans ?_)
    rw [w]
    refine (congrArg (fun o => Option.bind o _) hb).trans ?_
    refine (run_call1 _ _ _ _ _ _ _).trans ?_
    refine (congrArg (fun o => Option.bind o _) (hp lim)).trans ?_
    rfl
  rw [sort_S]; exact e
theorem pdqAll_succ (M : Nat) : (pdqAll (M + 1)).1 = (pdqStep (pdqAll M).1 (pdqAll M).2).S := by rw [pdqAll]
theorem pdq_S (M n : Nat) (l : List Int) (m : Nat) (a b lim : Int) : (pdqAll (M + 1)).1 n (l, m, a, b, lim) = (g_slices_pdqsortOrdered_uint32 (pdqAll M).1 (pdqAll M).2 l m a b lim).run n := by rw [pdqAll_succ]; rfl
theorem sort_small (M : Nat) (d : Array Int) (hd : d.size ≤ 12) (hN : 20 ≤ M) : c_slices_Sort_uint32_uint32.S (M + 1) (d.toList, d.size) = some (insertionSort ltInt d 0 d.size).toList := by
  refine sort_of (M + 1) d.toList d.size _ hd fun lim => ?_
  show (pdqAll (M + 1)).1 (M + 1) (d.toList, d.size, (0 : Int), (d.size : Int), lim) = _
  rw [pdq_S]
  exact pdq_small _ _ (M + 1) d hd lim (by omega)


theorem loop_two {β : Type} {f : Int × List Int → Option ((Int × List Int) ⊕ List Int)} {k : List Int → Option β} {M : Nat} (h1 : ∃ T : List Int, T.length ≤ 1 ∧ f (0, []) = some (.inl (1, T))) (h2 : ∀ T : List Int, T.length ≤ 1 → f (1, T) = some (.inr T))
    (h3 : ∀ T : List Int, T.length ≤ 1 → ∃ r, k T = some r) : ∃ r, (iterO f (M + 2) (0, [])).bind k = some r := by
  obtain ⟨T, hT, h1⟩ := h1
  obtain ⟨r, h3⟩ := h3 T hT
  exact ⟨r, by simp only [iterO, h1, h2 T hT, Option.bind_some, h3]⟩

def kindS (c : V8 Int) : Int :=
  if c.a0 = 0 ∧ c.a1 = 2 then 1 else if c.a0 = 3 ∧ c.a1 = 12 then 2 else if c.a0 = 6 ∧ c.a1 = 0 then 3 else if c.a0 = 6 ∧ c.a1 = 1 then 4 else if c.a0 = 6 ∧ c.a1 = 2 then 5 else if c.a0 = 6 ∧ c.a1 = 3 then 6 else if c.a0 = 6 ∧ c.a1 = 6 then 7 else 0
theorem kind_run (n : Nat) (c : V8 Int) : c_comm_Kind.S n c = some (kindS c) := by
  show (g_comm_Kind c).run n = _
  simp only [g_comm_Kind, G.run, tsOk, if_true, kindS, Bool.and_true, Bool.and_eq_true, beq_iff_eq]
  have e : ∀ (a b : Int), (a = b) = (b = a) := fun a b => propext eq_comm
  simp only [e 0, e 1, e 2, e 3, e 6, e 12]
  repeat' split
  all_goals rfl
theorem kind_b {n : Nat} (c : V8 Int) {β : Type} (k : c_comm_Kind.sh.El → Option β) : (c_comm_Kind.S n c).bind k = k (kindS c) := by rw [kind_run]; rfl

theorem sort_list (M : Nat) (T : List Int) (hT : T.length ≤ 12) (hM : 20 ≤ M) : ∃ r : List Int, c_slices_Sort_uint32_uint32.S (M + 1) (T, T.length) = some r ∧ r.length = T.length := by
  have h := sort_small M T.toArray (by simpa using hT) hM
  have hs := (insertionSort_holds swo_ltInt T.toArray 0 T.toArray.size (Nat.zero_le _) (Nat.le_refl _)).1.1
  exact ⟨_, by simpa using h, by simpa using hs⟩


/-! ### Numbers of bytes -/

/-- One byte more. -/
def stB (a x : Int) : Int := Go.IntKind.wrap .u64 (((@BitVec.toNat (Go.IntKind.bits .u64) ((BitVec.ofInt (Go.IntKind.bits .u64) (Go.IntKind.wrap .u64 (a * ((2 : Int) ^ (@Min.min Nat instMinNat (Int.toNat (8 : Int)) (Go.IntKind.bits .u64)))))) ||| (BitVec.ofInt (Go.IntKind.bits .u64) (Go.IntKind.wrap .u64 x)))) : Nat) : Int)
theorem stB_eq {a x : Int} (h0 : 0 ≤ a) (h1 : a < 72057594037927936) (g0 : 0 ≤ x) (g1 : x < 256) : stB a x = a * 256 + x := by
  obtain ⟨p, rfl⟩ := Int.eq_ofNat_of_zero_le h0
  obtain ⟨q, rfl⟩ := Int.eq_ofNat_of_zero_le g0
  have e1 : Go.IntKind.wrap .u64 ((p : Int) * ((2 : Int) ^ (@Min.min Nat instMinNat (Int.toNat (8 : Int)) (Go.IntKind.bits .u64)))) = ((2 ^ 8 * p : Nat) : Int) := by
    simp [Go.IntKind.wrap, Go.IntKind.bits, Go.IntKind.signed]; omega
  have e2 : Go.IntKind.wrap .u64 (q : Int) = (q : Int) := by
    simp [Go.IntKind.wrap, Go.IntKind.bits, Go.IntKind.signed]; omega
  unfold stB
  rw [e1, e2]
  have hor : 2 ^ 8 * p ||| q = 2 ^ 8 * p + q := (Nat.two_pow_add_eq_or_of_lt (i := 8) (by omega) p).symm
  have e3 : ((BitVec.ofInt (Go.IntKind.bits .u64) ((2 ^ 8 * p : Nat) : Int)) ||| (BitVec.ofInt (Go.IntKind.bits .u64) (q : Int))).toNat = 2 ^ 8 * p + q := by
    rw [BitVec.toNat_or, BitVec.ofInt_natCast, BitVec.ofInt_natCast, BitVec.toNat_ofNat, BitVec.toNat_ofNat, Nat.mod_eq_of_lt, Nat.mod_eq_of_lt, hor]
    · simp only [Go.IntKind.bits]; omega
    · simp only [Go.IntKind.bits]; omega
  rw [e3]
  simp [Go.IntKind.wrap, Go.IntKind.bits, Go.IntKind.signed]; omega

theorem v8_ext {a0 a1 a2 a3 a4 a5 a6 a7 b0 b1 b2 b3 b4 b5 b6 b7 : Int} (h0 : a0 = b0) (h1 : a1 = b1) (h2 : a2 = b2) (h3 : a3 = b3) (h4 : a4 = b4) (h5 : a5 = b5) (h6 : a6 = b6) (h7 : a7 = b7) :
    V8.mk a0 a1 a2 a3 a4 a5 a6 a7 = V8.mk b0 b1 b2 b3 b4 b5 b6 b7 := by subst h0 h1 h2 h3 h4 h5 h6 h7; rfl
def madeS (a b x : Int) : V8 Int := V8.mk a b (x / 1099511627776 % 256) (x / 4294967296 % 256) (x / 16777216 % 256) (x / 65536 % 256) (x / 256 % 256) (x % 256)
def flagS (is : Bool) : Int := if is then 1099511627776 else 0
theorem cflag_b {n : Nat} (x : Bool) {β : Type} (k : c_comm_flag.sh.El → Option β) : (c_comm_flag.S n x).bind k = k (if x then 1 else 0 : Int) := by
  have : c_comm_flag.S n x = some (if x then 1 else 0 : Int) := by
    show (g_comm_flag x).run n = _
    cases x <;> simp [g_comm_flag, G.run, tsOk] <;> rfl
  rw [this]; rfl
theorem some_v8 {u v : V8 Int} (h : u = v) {e : Int} : (some (u, e) : Option (V8 Int × Int)) = some (v, e) := by rw [h]
theorem encap_run (n : Nat) {x : Int} (h0 : 0 ≤ x) (h1 : x ≤ 65535) : c_comm_Encap.S n x = some (madeS 3 12 x, (0 : Int)) := by
  show (g_comm_Encap x).run n = _
  simp only [g_comm_Encap, G.run, tsOk, if_true, madeS]
  have k0 : ¬ x < 0 := by omega
  have k1 : ¬ x > 65535 := by omega
  simp only [k0, k1, decide_false, Bool.false_eq_true, if_false]
  refine some_v8 (v8_ext ?_ ?_ ?_ ?_ ?_ ?_ ?_ ?_) <;> simp [Go.IntKind.wrap, Go.IntKind.bits, Go.IntKind.signed, Int.fdiv_eq_ediv_of_nonneg] <;> omega
theorem label_run (n : Nat) (is : Bool) {x : Int} (h0 : 0 ≤ x) (h1 : x ≤ 16777215) : c_comm_Label.S n (is, x) = some (madeS 6 1 (flagS is + x), (0 : Int)) := by
  show (g_comm_Label is x).run n = _
  simp only [g_comm_Label, G.run, tsOk, if_true, madeS, cflag_b, flagS]
  have k1 : ¬ x > 16777215 := by omega
  simp only [k1, decide_false, Bool.false_eq_true, if_false]
  cases is <;> (refine some_v8 (v8_ext ?_ ?_ ?_ ?_ ?_ ?_ ?_ ?_) <;> simp [Go.IntKind.wrap, Go.IntKind.bits, Go.IntKind.signed, Int.fdiv_eq_ediv_of_nonneg] <;> omega)
theorem import_run (n : Nat) {x : Int} (h0 : 0 ≤ x) (h1 : x ≤ 281474976710655) : c_comm_Import.S n x = some (madeS 6 2 x, (0 : Int)) := by
  show (g_comm_Import x).run n = _
  simp only [g_comm_Import, G.run, tsOk, if_true, madeS]
  have k1 : ¬ x > 281474976710655 := by omega
  simp only [k1, decide_false, Bool.false_eq_true, if_false]
  refine some_v8 (v8_ext ?_ ?_ ?_ ?_ ?_ ?_ ?_ ?_) <;> simp [Go.IntKind.wrap, Go.IntKind.bits, Go.IntKind.signed, Int.fdiv_eq_ediv_of_nonneg] <;> omega
theorem router_run (n : Nat) {x : Int} (h0 : 0 ≤ x) (h1 : x ≤ 281474976710655) : c_comm_Router.S n x = some (madeS 6 3 x, (0 : Int)) := by
  show (g_comm_Router x).run n = _
  simp only [g_comm_Router, G.run, tsOk, if_true, madeS]
  have k1 : ¬ x > 281474976710655 := by omega
  simp only [k1, decide_false, Bool.false_eq_true, if_false]
  refine some_v8 (v8_ext ?_ ?_ ?_ ?_ ?_ ?_ ?_ ?_) <;> simp [Go.IntKind.wrap, Go.IntKind.bits, Go.IntKind.signed, Int.fdiv_eq_ediv_of_nonneg] <;> omega
theorem election_run (n : Nat) {x y : Int} (h0 : 0 ≤ x) (h1 : x ≤ 31) (h2 : 0 ≤ y) (h3 : y ≤ 65535) : c_comm_Election.S n (x, y) = some (madeS 6 6 (x * 1099511627776 + y), (0 : Int)) := by
  show (g_comm_Election x y).run n = _
  simp only [g_comm_Election, G.run, tsOk, if_true, madeS]
  have k0 : ¬ x < 0 := by omega
  have k1 : ¬ x > 31 := by omega
  have k2 : ¬ y < 0 := by omega
  have k3 : ¬ y > 65535 := by omega
  simp only [k0, k1, k2, k3, decide_false, Bool.false_eq_true, if_false]
  refine some_v8 (v8_ext ?_ ?_ ?_ ?_ ?_ ?_ ?_ ?_) <;> simp [Go.IntKind.wrap, Go.IntKind.bits, Go.IntKind.signed, Int.fdiv_eq_ediv_of_nonneg] <;> omega
theorem target_run (n : Nat) {a x : Int} (h0 : 0 ≤ a) (h1 : a < 65536) (h2 : 0 ≤ x) (h3 : x < 4294967296) : c_comm_Target.S n (a, x) = some (madeS 0 2 (a * 4294967296 + x)) := by
  show (g_comm_Target a x).run n = _
  simp only [g_comm_Target, G.run, tsOk, if_true, madeS]
  refine congrArg (some : V8 Int → Option (V8 Int)) (v8_ext ?_ ?_ ?_ ?_ ?_ ?_ ?_ ?_) <;> first | rfl | (simp [Go.IntKind.wrap, Go.IntKind.bits, Go.IntKind.signed, Int.fdiv_eq_ediv_of_nonneg] <;> omega)
theorem mobility_run (n : Nat) (is : Bool) {x : Int} (h2 : 0 ≤ x) (h3 : x < 4294967296) : c_comm_Mobility.S n (is, x) = some (madeS 6 0 (flagS is + x)) := by
  show (g_comm_Mobility is x).run n = _
  simp only [g_comm_Mobility, G.run, tsOk, if_true, madeS, cflag_b, flagS]
  cases is <;> (refine congrArg (some : V8 Int → Option (V8 Int)) (v8_ext ?_ ?_ ?_ ?_ ?_ ?_ ?_ ?_) <;> first | rfl | (simp [Go.IntKind.wrap, Go.IntKind.bits, Go.IntKind.signed, Int.fdiv_eq_ediv_of_nonneg] <;> omega))

/-! ### The first of a kind -/

def First (l : List (V8 Int)) (K : Int) (c : V8 Int) : Prop := kindS c = K ∧ ∃ q : Nat, l[q]? = some c ∧ ∀ (i : Nat) y, i < q → l[i]? = some y → kindS y ≠ K
theorem first_of {p : List (V8 Int)} {c : V8 Int} {r : List (V8 Int)} {K : Int} (hc : kindS c = K) (hp : ∀ y ∈ p, kindS y ≠ K) : First (p ++ c :: r) K c :=
  ⟨hc, p.length, by simp, fun i y hi hy => hp y (by rw [List.getElem?_append_left hi] at hy; exact List.mem_of_getElem? hy)⟩

theorem find_loop {τ β : Type} {l : List (V8 Int)} {K : Int} {c : V8 Int} {f : Int → Option (Int ⊕ τ)} {k : τ → Option β} {N : Nat} {r : Option β} (t : τ) (hF : First l K c) (hN : l.length < N)
    (h1 : ∀ (i : Nat) y, i < l.length → at? l (i : Int) = some y → kindS y ≠ K → f (i : Int) = some (.inl ((i + 1 : Nat) : Int))) (h2 : ∀ i : Nat, i < l.length → at? l (i : Int) = some c → kindS c = K → f (i : Int) = some (.inr t)) (hk : k t = r) : (iterO f N 0).bind k = r := by
  obtain ⟨hc, q, hq, hlt⟩ := hF
  have hql : q < l.length := (List.getElem?_eq_some_iff.1 hq).1
  refine bind_iter (I := fun s => ∃ i : Nat, s = (i : Int) ∧ i ≤ q) (m := fun s => q + 1 - s.toNat) (F := fun _ => t) ⟨0, rfl, Nat.zero_le _⟩ (by simp; omega) (fun s hs => ?_) hk
  obtain ⟨i, rfl, hi⟩ := hs
  by_cases he : i = q
  · subst he
    exact .inl (h2 i hql (by rw [at?_nat]; exact hq) hc)
  · right
    have hil : i < l.length := by omega
    refine ⟨((i + 1 : Nat) : Int), h1 i l[i] hil (by rw [at?_nat]; exact List.getElem?_eq_getElem hil) (hlt i _ (by omega) (List.getElem?_eq_getElem hil)), ⟨i + 1, rfl, by omega⟩, rfl, by simp only [Int.toNat_natCast]; omega⟩

/-! ### The getters -/

theorem nat64 {i : Nat} (h : i < 1000000) : Go.IntKind.wrap .i64 ((i : Int) + 1) = ((i + 1 : Nat) : Int) := by rw [wrap_i64 (by omega) (by omega)]; omega

theorem encapOf_run (N : Nat) (l : List (V8 Int)) (c : V8 Int) (hl : l.length < 100000) (hN : l.length < N) (hF : First l 2 c) : c_comm_EncapOf.S N l = some (Go.IntKind.wrap .i64 (stB (stB 0 c.a6) c.a7), true) := by
  show (g_comm_EncapOf l).run N = _
  simp only [g_comm_EncapOf, G.run, tsOk, if_true, lenO_bind, idxO_bind, kind_b]
  refine find_loop (.inl (Go.IntKind.wrap .i64 (stB (stB 0 c.a6) c.a7))) hF hN (fun i y hi hy hk => ?_) (fun i hi hy hk => ?_) ?_
  · rw [if_pos (by simp; omega)]
    simp only [hy, Option.bind_some]
    rw [if_neg (by simpa using hk), nat64 (by omega)]
  · rw [if_pos (by simp; omega)]
    simp only [hy, Option.bind_some]
    rw [if_pos (by simpa using hk)]
    rfl
  · rfl

def lowB (a : Int) : Bool := (Go.IntKind.wrap .u8 (((@BitVec.toNat (Go.IntKind.bits .u8) ((BitVec.ofInt (Go.IntKind.bits .u8) a) &&& (BitVec.ofInt (Go.IntKind.bits .u8) (1 : Int)))) : Nat) : Int)) != (0 : Int)
def algB (a : Int) : Int := Go.IntKind.wrap .u8 (((@BitVec.toNat (Go.IntKind.bits .u8) ((BitVec.ofInt (Go.IntKind.bits .u8) a) &&& (BitVec.ofInt (Go.IntKind.bits .u8) (31 : Int)))) : Nat) : Int)
theorem body_run (n : Nat) (c : V8 Int) : c_comm_body.S n c = some (stB (stB (stB (stB (stB (stB 0 c.a2) c.a3) c.a4) c.a5) c.a6) c.a7) := by
  show (g_comm_body c).run n = _
  simp only [g_comm_body, G.run, tsOk, if_true]
  rfl
theorem body_b {n : Nat} (c : V8 Int) {β : Type} (k : c_comm_body.sh.El → Option β) : (c_comm_body.S n c).bind k = k (stB (stB (stB (stB (stB (stB 0 c.a2) c.a3) c.a4) c.a5) c.a6) c.a7) := by rw [body_run]; rfl
theorem importOf_run (N : Nat) (l : List (V8 Int)) (c : V8 Int) (hl : l.length < 100000) (hN : l.length < N) (hF : First l 5 c) : c_comm_ImportOf.S N l = some (stB (stB (stB (stB (stB (stB 0 c.a2) c.a3) c.a4) c.a5) c.a6) c.a7, true) := by
  show (g_comm_ImportOf l).run N = _
  simp only [g_comm_ImportOf, G.run, tsOk, if_true, lenO_bind, idxO_bind, kind_b, body_b]
  refine find_loop (.inl (stB (stB (stB (stB (stB (stB 0 c.a2) c.a3) c.a4) c.a5) c.a6) c.a7)) hF hN (fun i y hi hy hk => ?_) (fun i hi hy hk => ?_) ?_
  · rw [if_pos (by simp; omega)]
    simp only [hy, Option.bind_some]
    rw [if_neg (by simpa using hk), nat64 (by omega)]
  · rw [if_pos (by simp; omega)]
    simp only [hy, Option.bind_some]
    rw [if_pos (by simpa using hk)]
  · rfl
theorem routerOf_run (N : Nat) (l : List (V8 Int)) (c : V8 Int) (hl : l.length < 100000) (hN : l.length < N) (hF : First l 6 c) : c_comm_RouterOf.S N l = some (stB (stB (stB (stB (stB (stB 0 c.a2) c.a3) c.a4) c.a5) c.a6) c.a7, true) := by
  show (g_comm_RouterOf l).run N = _
  simp only [g_comm_RouterOf, G.run, tsOk, if_true, lenO_bind, idxO_bind, kind_b, body_b]
  refine find_loop (.inl (stB (stB (stB (stB (stB (stB 0 c.a2) c.a3) c.a4) c.a5) c.a6) c.a7)) hF hN (fun i y hi hy hk => ?_) (fun i hi hy hk => ?_) ?_
  · rw [if_pos (by simp; omega)]
    simp only [hy, Option.bind_some]
    rw [if_neg (by simpa using hk), nat64 (by omega)]
  · rw [if_pos (by simp; omega)]
    simp only [hy, Option.bind_some]
    rw [if_pos (by simpa using hk)]
  · rfl
theorem labelOf_run (N : Nat) (l : List (V8 Int)) (c : V8 Int) (hl : l.length < 100000) (hN : l.length < N) (hF : First l 4 c) : c_comm_LabelOf.S N l = some (lowB c.a2, Go.IntKind.wrap .u32 (stB (stB (stB 0 c.a5) c.a6) c.a7), true) := by
  show (g_comm_LabelOf l).run N = _
  simp only [g_comm_LabelOf, G.run, tsOk, if_true, lenO_bind, idxO_bind, kind_b]
  refine find_loop (.inl (lowB c.a2, Go.IntKind.wrap .u32 (stB (stB (stB 0 c.a5) c.a6) c.a7))) hF hN (fun i y hi hy hk => ?_) (fun i hi hy hk => ?_) ?_
  · rw [if_pos (by simp; omega)]
    simp only [hy, Option.bind_some]
    rw [if_neg (by simpa using hk), nat64 (by omega)]
  · rw [if_pos (by simp; omega)]
    simp only [hy, Option.bind_some]
    rw [if_pos (by simpa using hk)]
    rfl
  · rfl
theorem mobilityOf_run (N : Nat) (l : List (V8 Int)) (c : V8 Int) (hl : l.length < 100000) (hN : l.length < N) (hF : First l 3 c) : c_comm_MobilityOf.S N l = some (lowB c.a2, Go.IntKind.wrap .u32 (stB (stB (stB (stB 0 c.a4) c.a5) c.a6) c.a7), true) := by
  show (g_comm_MobilityOf l).run N = _
  simp only [g_comm_MobilityOf, G.run, tsOk, if_true, lenO_bind, idxO_bind, kind_b]
  refine find_loop (.inl (lowB c.a2, Go.IntKind.wrap .u32 (stB (stB (stB (stB 0 c.a4) c.a5) c.a6) c.a7))) hF hN (fun i y hi hy hk => ?_) (fun i hi hy hk => ?_) ?_
  · rw [if_pos (by simp; omega)]
    simp only [hy, Option.bind_some]
    rw [if_neg (by simpa using hk), nat64 (by omega)]
  · rw [if_pos (by simp; omega)]
    simp only [hy, Option.bind_some]
    rw [if_pos (by simpa using hk)]
    rfl
  · rfl
theorem electionOf_run (N : Nat) (l : List (V8 Int)) (c : V8 Int) (hl : l.length < 100000) (hN : l.length < N) (hF : First l 7 c) : c_comm_ElectionOf.S N l = some (Go.IntKind.wrap .i64 (algB c.a2), Go.IntKind.wrap .i64 (stB (stB 0 c.a6) c.a7), true) := by
  show (g_comm_ElectionOf l).run N = _
  simp only [g_comm_ElectionOf, G.run, tsOk, if_true, lenO_bind, idxO_bind, kind_b]
  refine find_loop (.inl (Go.IntKind.wrap .i64 (algB c.a2), Go.IntKind.wrap .i64 (stB (stB 0 c.a6) c.a7))) hF hN (fun i y hi hy hk => ?_) (fun i hi hy hk => ?_) ?_
  · rw [if_pos (by simp; omega)]
    simp only [hy, Option.bind_some]
    rw [if_neg (by simpa using hk), nat64 (by omega)]
  · rw [if_pos (by simp; omega)]
    simp only [hy, Option.bind_some]
    rw [if_pos (by simpa using hk)]
    rfl
  · rfl

/-! ### Values -/

theorem made_a2 (a b x : Int) : (madeS a b x).a2 = x / 1099511627776 % 256 := rfl
theorem made_a3 (a b x : Int) : (madeS a b x).a3 = x / 4294967296 % 256 := rfl
theorem made_a4 (a b x : Int) : (madeS a b x).a4 = x / 16777216 % 256 := rfl
theorem made_a5 (a b x : Int) : (madeS a b x).a5 = x / 65536 % 256 := rfl
theorem made_a6 (a b x : Int) : (madeS a b x).a6 = x / 256 % 256 := rfl
theorem made_a7 (a b x : Int) : (madeS a b x).a7 = x % 256 := rfl
theorem w32 {x : Int} (h0 : 0 ≤ x) (h1 : x < 4294967296) : Go.IntKind.wrap .u32 x = x := by simp [Go.IntKind.wrap, Go.IntKind.bits, Go.IntKind.signed]; omega
theorem st2 {a b : Int} (ha : 0 ≤ a ∧ a < 256) (hb : 0 ≤ b ∧ b < 256) : stB (stB 0 a) b = a * 256 + b := by
  rw [stB_eq (a := 0) (by omega) (by omega) ha.1 ha.2, stB_eq (by omega) (by omega) hb.1 hb.2]; omega
theorem st3 {a b c : Int} (ha : 0 ≤ a ∧ a < 256) (hb : 0 ≤ b ∧ b < 256) (hc : 0 ≤ c ∧ c < 256) : stB (stB (stB 0 a) b) c = (a * 256 + b) * 256 + c := by
  rw [st2 ha hb, stB_eq (by omega) (by omega) hc.1 hc.2]
theorem st4 {a b c d : Int} (ha : 0 ≤ a ∧ a < 256) (hb : 0 ≤ b ∧ b < 256) (hc : 0 ≤ c ∧ c < 256) (hd : 0 ≤ d ∧ d < 256) : stB (stB (stB (stB 0 a) b) c) d = ((a * 256 + b) * 256 + c) * 256 + d := by
  rw [st3 ha hb hc, stB_eq (by omega) (by omega) hd.1 hd.2]
theorem st6 {a b c d e f : Int} (ha : 0 ≤ a ∧ a < 256) (hb : 0 ≤ b ∧ b < 256) (hc : 0 ≤ c ∧ c < 256) (hd : 0 ≤ d ∧ d < 256) (he : 0 ≤ e ∧ e < 256) (hf : 0 ≤ f ∧ f < 256) :
    stB (stB (stB (stB (stB (stB 0 a) b) c) d) e) f = ((((a * 256 + b) * 256 + c) * 256 + d) * 256 + e) * 256 + f := by
  rw [st4 ha hb hc hd, stB_eq (a := ((a * 256 + b) * 256 + c) * 256 + d) (by omega) (by omega) he.1 he.2, stB_eq (by omega) (by omega) hf.1 hf.2]
theorem encap_val {b : Int} (h0 : 0 ≤ b) (h1 : b ≤ 65535) : Go.IntKind.wrap .i64 (stB (stB 0 (madeS 3 12 b).a6) (madeS 3 12 b).a7) = b := by
  rw [made_a6, made_a7, st2 (by omega) (by omega), wrap_i64 (by omega) (by omega)]; omega
theorem low_flag (is : Bool) {n : Int} (h0 : 0 ≤ n) (h1 : n < 4294967296) (a b : Int) : lowB (madeS a b (flagS is + n)).a2 = is := by
  rw [made_a2]
  cases is with
  | true => rw [show (flagS true + n) / 1099511627776 % 256 = 1 by simp only [flagS, if_true]; omega]; rfl
  | false => rw [show (flagS false + n) / 1099511627776 % 256 = 0 by simp only [flagS]; simp; omega]; rfl
theorem label_val (is : Bool) {n : Int} (h0 : 0 ≤ n) (h1 : n ≤ 16777215) : Go.IntKind.wrap .u32 (stB (stB (stB 0 (madeS 6 1 (flagS is + n)).a5) (madeS 6 1 (flagS is + n)).a6) (madeS 6 1 (flagS is + n)).a7) = n := by
  rw [made_a5, made_a6, made_a7, st3 (by omega) (by omega) (by omega)]
  have hf : flagS is = 0 ∨ flagS is = 1099511627776 := by cases is <;> simp [flagS]
  rw [w32 (by omega) (by omega)]
  rcases hf with hf | hf <;> rw [hf] <;> omega
theorem mobility_val (is : Bool) {n : Int} (h0 : 0 ≤ n) (h1 : n < 4294967296) : Go.IntKind.wrap .u32 (stB (stB (stB (stB 0 (madeS 6 0 (flagS is + n)).a4) (madeS 6 0 (flagS is + n)).a5) (madeS 6 0 (flagS is + n)).a6) (madeS 6 0 (flagS is + n)).a7) = n := by
  rw [made_a4, made_a5, made_a6, made_a7, st4 (by omega) (by omega) (by omega) (by omega)]
  have hf : flagS is = 0 ∨ flagS is = 1099511627776 := by cases is <;> simp [flagS]
  rw [w32 (by omega) (by omega)]
  rcases hf with hf | hf <;> rw [hf] <;> omega
theorem body_val {a b m : Int} (h0 : 0 ≤ m) (h1 : m ≤ 281474976710655) : stB (stB (stB (stB (stB (stB 0 (madeS a b m).a2) (madeS a b m).a3) (madeS a b m).a4) (madeS a b m).a5) (madeS a b m).a6) (madeS a b m).a7 = m := by
  rw [made_a2, made_a3, made_a4, made_a5, made_a6, made_a7, st6 (by omega) (by omega) (by omega) (by omega) (by omega) (by omega)]; omega
theorem alg_val {a b : Int} (h0 : 0 ≤ a) (h1 : a ≤ 31) (h2 : 0 ≤ b) (h3 : b ≤ 65535) : Go.IntKind.wrap .i64 (algB (madeS 6 6 (a * 1099511627776 + b)).a2) = a := by
  rw [made_a2, show (a * 1099511627776 + b) / 1099511627776 % 256 = a by omega]
  have key : ((List.range 32).all fun k => Go.IntKind.wrap .i64 (algB (k : Int)) == (k : Int)) = true := by decide +kernel
  have := List.all_eq_true.1 key a.toNat (List.mem_range.2 (by omega))
  rw [Int.toNat_of_nonneg h0] at this
  simpa using this
theorem pref_val {a b : Int} (h0 : 0 ≤ a) (h1 : a ≤ 31) (h2 : 0 ≤ b) (h3 : b ≤ 65535) : Go.IntKind.wrap .i64 (stB (stB 0 (madeS 6 6 (a * 1099511627776 + b)).a6) (madeS 6 6 (a * 1099511627776 + b)).a7) = b := by
  rw [made_a6, made_a7, st2 (by omega) (by omega), wrap_i64 (by omega) (by omega)]; omega

/-! ### Targets -/

def tgtS (c : V8 Int) : Option Int := if kindS c = 1 ∧ stB (stB 0 c.a2) c.a3 = 65000 then some (Go.IntKind.wrap .u32 (stB (stB (stB (stB 0 c.a4) c.a5) c.a6) c.a7)) else none
theorem tgt_val {n : Int} (h0 : 0 ≤ n) (h1 : n < 4294967296) : tgtS (madeS 0 2 (65000 * 4294967296 + n)) = some n := by
  have e1 : kindS (madeS 0 2 (65000 * 4294967296 + n)) = 1 := by simp [kindS, madeS]
  have e2 : stB (stB 0 (madeS 0 2 (65000 * 4294967296 + n)).a2) (madeS 0 2 (65000 * 4294967296 + n)).a3 = 65000 := by
    rw [made_a2, made_a3, st2 (by omega) (by omega)]; omega
  unfold tgtS
  rw [if_pos ⟨e1, e2⟩, made_a4, made_a5, made_a6, made_a7, st4 (by omega) (by omega) (by omega) (by omega), w32 (by omega) (by omega)]
  congr 1; omega
theorem tgt_none {c : V8 Int} (h : kindS c ≠ 1) : tgtS c = none := by unfold tgtS; rw [if_neg (fun q => h q.1)]

theorem sort_one (M : Nat) (T : List Int) (hT : T.length ≤ 1) (hM : 20 ≤ M) : c_slices_Sort_uint32_uint32.S (M + 1) (T, T.length) = some T := by
  have h := sort_small M T.toArray (by simp; omega) hM
  have hp := (insertionSort_holds swo_ltInt T.toArray 0 T.toArray.size (Nat.zero_le _) (Nat.le_refl _)).1
  have hs : (insertionSort ltInt T.toArray 0 T.toArray.size).size = T.toArray.size := hp.1
  have h3 := hp.2.2
  generalize insertionSort ltInt T.toArray 0 T.toArray.size = d' at *
  have e1 : d'.extract 0 T.toArray.size = d' := by rw [← hs]; simp
  have e2 : T.toArray.extract 0 T.toArray.size = T.toArray := by simp
  rw [e1, e2] at h3
  have e : d'.toList = T := by
    clear h hp hs e1 e2
    cases T with
    | nil => exact List.Perm.eq_nil h3
    | cons x t => cases t with
      | nil => exact List.perm_singleton.1 h3
      | cons y t => simp at hT
  rw [e] at h
  exact h

theorem targets_run (M : Nat) (hM : 20 ≤ M) (l : List (V8 Int)) (hl : l.length < 1000) (hN : l.length < M) (hT : (l.filterMap tgtS).length ≤ 1) : c_comm_Targets.S (M + 1) l = some (l.filterMap tgtS) := by
  show (g_comm_Targets l).run (M + 1) = _
  simp only [g_comm_Targets, G.run, tsOk, if_true, lenO_bind, idxO_bind, kind_b]
  refine bind_iter (I := fun s => ∃ i : Nat, s = ((i : Int), (l.take i).filterMap tgtS) ∧ i ≤ l.length) (m := fun s => l.length - s.1.toNat) (F := fun _ => l.filterMap tgtS) ⟨0, rfl, Nat.zero_le _⟩ (by simp; omega) (fun s hs => ?_) ?_
  · obtain ⟨i, rfl, hi⟩ := hs
    by_cases he : i = l.length
    · left
      subst he
      rw [if_neg (by simp)]
      simp
    · right
      have hil : i < l.length := by omega
      have e1 : at? l (i : Int) = some l[i] := by rw [at?_nat]; exact List.getElem?_eq_getElem hil
      have e2 : (l.take (i + 1)).filterMap tgtS = (l.take i).filterMap tgtS ++ (tgtS l[i]).toList := by
        rw [List.take_add_one, List.filterMap_append, List.getElem?_eq_getElem hil]
        cases h : tgtS l[i] <;> simp [h]
      have hroom : ((l.take i).filterMap tgtS).length ≤ i := Nat.le_trans (List.length_filterMap_le _ _) (by simp; omega)
      refine ⟨(((i + 1 : Nat) : Int), (l.take (i + 1)).filterMap tgtS), ?_, ⟨i + 1, rfl, by omega⟩, rfl, by simp only [Int.toNat_natCast]; omega⟩
      rw [if_pos (by simp; omega)]
      simp only [e1, Option.bind_some, appO_bind, nat64 (show i < 1000000 by omega)]
      rw [e2]
      by_cases hk : kindS l[i] = 1
      · rw [if_pos (by simpa using hk)]
        by_cases ha : stB (stB 0 l[i].a2) l[i].a3 = 65000
        · have ht : tgtS l[i] = some (Go.IntKind.wrap .u32 (stB (stB (stB (stB 0 l[i].a4) l[i].a5) l[i].a6) l[i].a7)) := by unfold tgtS; rw [if_pos ⟨hk, ha⟩]
          rw [ht]
          refine (if_pos (show (stB (stB 0 l[i].a2) l[i].a3 == 65000) = true by simpa using ha)).trans ?_
          refine (if_pos ⟨trivial, by simp [roomy]; omega⟩).trans ?_
          rfl
        · have ht : tgtS l[i] = none := by unfold tgtS; rw [if_neg (fun q => ha q.2)]
          rw [ht]
          refine (if_neg (show ¬ (stB (stB 0 l[i].a2) l[i].a3 == 65000) = true by simpa using ha)).trans ?_
          simp
      · rw [if_neg (by simpa using hk), tgt_none hk]
        simp
  · refine (congrArg (fun o => Option.bind o _) (sort_one M _ hT hM)).trans ?_
    refine (if_pos (by simp; omega)).trans ?_
    exact if_pos (by simp [fzRow])

/-! ### The law -/

theorem remO_bind {β : Type} (x m : Int) (hm : m ≠ 0) (k : Unit → Option β) : (remO .i64 x m).run.bind k = k () := by
  have : (remO .i64 x m).run = some () := by
    show (if _ then _ else _) = _
    first | rw [if_pos hm] | rw [if_neg hm] | simp [hm]
  rw [this]; rfl
theorem pick_some (n : Nat) (x m : Int) (h0 : 0 < m) (h1 : m ≤ 100000) : ∃ r : Int, 0 ≤ r ∧ r < m ∧ c_kit_Pick.S n (x, m) = some r := by
  have hm1 := Int.tmod_lt_of_pos x h0
  have hm2 : -m < x.tmod m := by
    have := Int.lt_tmod_of_pos x h0
    omega
  by_cases hn : x.tmod m < 0
  · refine ⟨x.tmod m + m, by omega, by omega, ?_⟩
    show (g_kit_Pick x m).run n = _
    simp only [g_kit_Pick, G.run, tsOk, if_true, remO_bind x m (by omega), hn, decide_true]
    rw [wrap_i64 (by omega) (by omega)]; rfl
  · refine ⟨x.tmod m, by omega, hm1, ?_⟩
    show (g_kit_Pick x m).run n = _
    simp only [g_kit_Pick, G.run, tsOk, if_true, remO_bind x m (by omega), hn, decide_false, Bool.false_eq_true, if_false]
    rfl
theorem same_one (M : Nat) (x : Int) : c_kit_Same_uint32.S (M + 2) ([x], [x]) = some true := by
  show (g_kit_Same_uint32 [x] [x]).run (M + 2) = _
  simp only [g_kit_Same_uint32, G.run, tsOk, if_true, lenO_bind, idxO_bind, iterO]
  have e0 : at? [x] (0 : Int) = some x := rfl
  simp [e0]
  have w : Go.IntKind.wrap .i64 1 = 1 := by decide
  simp [w]
  rfl
def maskN (x : Int) : Int := Go.IntKind.wrap .u32 (((@BitVec.toNat (Go.IntKind.bits .u32) ((BitVec.ofInt (Go.IntKind.bits .u32) x) &&& (BitVec.ofInt (Go.IntKind.bits .u32) (16777215 : Int)))) : Nat) : Int)
def maskM (x : Int) : Int := Go.IntKind.wrap .u64 (((@BitVec.toNat (Go.IntKind.bits .u64) ((BitVec.ofInt (Go.IntKind.bits .u64) x) &&& (BitVec.ofInt (Go.IntKind.bits .u64) (281474976710655 : Int)))) : Nat) : Int)
theorem maskN_b (x : Int) : 0 ≤ maskN x ∧ maskN x ≤ 16777215 := by
  have h : ((BitVec.ofInt (Go.IntKind.bits .u32) x) &&& (BitVec.ofInt (Go.IntKind.bits .u32) (16777215 : Int))).toNat ≤ 16777215 := by
    rw [BitVec.toNat_and]
    exact Nat.le_trans Nat.and_le_right (by decide)
  unfold maskN
  rw [w32 (by omega) (by omega)]; omega
theorem maskM_b (x : Int) : 0 ≤ maskM x ∧ maskM x ≤ 281474976710655 := by
  have h : ((BitVec.ofInt (Go.IntKind.bits .u64) x) &&& (BitVec.ofInt (Go.IntKind.bits .u64) (281474976710655 : Int))).toNat ≤ 281474976710655 := by
    rw [BitVec.toNat_and]
    exact Nat.le_trans Nat.and_le_right (by decide)
  unfold maskM
  have : ∀ y : Int, 0 ≤ y → y ≤ 281474976710655 → Go.IntKind.wrap .u64 y = y := fun y h0 h1 => by simp [Go.IntKind.wrap, Go.IntKind.bits, Go.IntKind.signed]; omega
  rw [this _ (by omega) (by omega)]; omega
theorem slc_hi {X β : Type} (l : List X) (e : X → List AVal) (m : Nat) (i : Int) (h0 : 0 ≤ i) (h1 : i ≤ l.length) (k : Nat × Nat → Option β) : (slcO l e m none (some i)).run.bind k = k (0, i.toNat) := by
  have : (slcO l e m none (some i)).run = some (0, i.toNat) := by
    show ((boundO l.length l.length (some i)).bind fun h => (boundO 0 h none).map fun k => (k, h)) = _
    simp only [boundO]
    rw [if_pos (by omega)]; simp
  rw [this]; rfl
theorem slc_lo {X β : Type} (l : List X) (e : X → List AVal) (m : Nat) (i : Int) (h0 : 0 ≤ i) (h1 : i ≤ l.length) (k : Nat × Nat → Option β) : (slcO l e m (some i) none).run.bind k = k (i.toNat, l.length) := by
  have : (slcO l e m (some i) none).run = some (i.toNat, l.length) := by
    show ((boundO l.length l.length none).bind fun h => (boundO 0 h (some i)).map fun k => (k, h)) = _
    simp only [boundO, Option.bind_some]
    rw [if_pos (by omega)]; rfl
  rw [this]; rfl

theorem lives03_b {β : Type} {n : Nat} (k : c_law03_lives.sh.El → Option β) : (c_law03_lives.S n ()).bind k = k true := rfl
theorem first_in {pre seven post p2 r2 : List (V8 Int)} {c : V8 Int} {K : Int} (hs : seven = p2 ++ c :: r2) (hc : kindS c = K) (h1 : ∀ y ∈ pre, kindS y = 0) (hK : K ≠ 0) (h2 : ∀ y ∈ p2, kindS y ≠ K) : First ((([] ++ pre) ++ seven) ++ post) K c := by
  have e : (([] ++ pre) ++ seven) ++ post = (pre ++ p2) ++ c :: (r2 ++ post) := by rw [hs]; simp
  rw [e]
  refine first_of hc fun y hy => ?_
  rcases List.mem_append.1 hy with h | h
  · rw [h1 y h]; exact fun q => hK q.symm
  · exact h2 y h

theorem back_run (M : Nat) (hM : 200 ≤ M) (l : List (V8 Int)) (x n a b m : Int) (is : Bool) : (g_law03_CommBack l x n a b m is).run (M + 2) = some true := by
  have eN : ∀ x : Int, Go.IntKind.wrap .u32 (((@BitVec.toNat (Go.IntKind.bits .u32) ((BitVec.ofInt (Go.IntKind.bits .u32) x) &&& (BitVec.ofInt (Go.IntKind.bits .u32) (16777215 : Int)))) : Nat) : Int) = maskN x := fun _ => rfl
  have eM : ∀ x : Int, Go.IntKind.wrap .u64 (((@BitVec.toNat (Go.IntKind.bits .u64) ((BitVec.ofInt (Go.IntKind.bits .u64) x) &&& (BitVec.ofInt (Go.IntKind.bits .u64) (281474976710655 : Int)))) : Nat) : Int) = maskM x := fun _ => rfl
  simp only [g_law03_CommBack, G.run, tsOk, if_true, lives03_b, lenO_bind, Bool.not_true, Bool.false_eq_true, if_false, eN, eM, idxO_bind, kind_b, appO_bind]
  by_cases h60 : l.length > 60
  · rw [if_pos (by simp; omega)]; rfl
  rw [if_neg (by simp; omega)]
  refine bind_iter (I := fun s => ∃ i : Nat, s = ((i : Int), (l.take i).filter fun y => decide (kindS y = 0)) ∧ i ≤ l.length) (m := fun s => l.length - s.1.toNat) (F := fun _ => l.filter fun y => decide (kindS y = 0)) ⟨0, rfl, Nat.zero_le _⟩ (by simp; omega) (fun s hs => ?_) ?_
  · obtain ⟨i, rfl, hi⟩ := hs
    by_cases he : i = l.length
    · left
      subst he
      rw [if_neg (by simp)]
      simp
    · right
      have hil : i < l.length := by omega
      have e1 : at? l (i : Int) = some l[i] := by rw [at?_nat]; exact List.getElem?_eq_getElem hil
      have e2 : (l.take (i + 1)).filter (fun y => decide (kindS y = 0)) = (l.take i).filter (fun y => decide (kindS y = 0)) ++ (if kindS l[i] = 0 then [l[i]] else []) := by
        rw [List.take_add_one, List.filter_append, List.getElem?_eq_getElem hil]
        by_cases h : kindS l[i] = 0 <;> simp [h]
      have hroom : ((l.take i).filter fun y => decide (kindS y = 0)).length ≤ i := Nat.le_trans (List.length_filter_le _ _) (by simp; omega)
      refine ⟨(((i + 1 : Nat) : Int), (l.take (i + 1)).filter fun y => decide (kindS y = 0)), ?_, ⟨i + 1, rfl, by omega⟩, rfl, by simp only [Int.toNat_natCast]; omega⟩
      rw [if_pos (by simp; omega)]
      simp only [e1, Option.bind_some, nat64 (show i < 1000000 by omega)]
      rw [e2]
      by_cases hk : kindS l[i] = 0
      · rw [if_pos (by simpa using hk), if_pos ⟨trivial, by simp [roomy]; omega⟩, if_pos hk]
      · rw [if_neg (by simpa using hk), if_neg hk]
        simp
  · generalize ht : (l.filter fun y => decide (kindS y = 0)) = t
    have htl : t.length ≤ 60 := by rw [← ht]; exact Nat.le_trans (List.length_filter_le _ _) (by omega)
    have htk : ∀ y ∈ t, kindS y = 0 := fun y hy => by rw [← ht] at hy; simpa using (List.mem_filter.1 hy).2
    have w1 : Go.IntKind.wrap .i64 ((t.length : Int) + 1) = (t.length : Int) + 1 := by rw [wrap_i64 (by omega) (by omega)]
    obtain ⟨r33, p1, p2, e33⟩ := pick_some (M + 2) x ((t.length : Int) + 1) (by omega) (by omega)
    obtain ⟨r34, p3, p4, e34⟩ := pick_some (M + 2) a 32 (by omega) (by omega)
    obtain ⟨r35, p5, p6, e35⟩ := pick_some (M + 2) b 65536 (by omega) (by omega)
    have hn := maskN_b n
    have hm := maskM_b m
    generalize maskN n = n' at *
    generalize maskM m = m' at *
    have b33 : ∀ {β : Type} (k : c_kit_Pick.sh.El → Option β), (c_kit_Pick.S (M + 2) (x, Go.IntKind.wrap .i64 ((t.length : Int) + 1))).bind k = k r33 := fun k => by rw [w1]; exact (congrArg (fun o => Option.bind o k) e33).trans rfl
    have b34 : ∀ {β : Type} (k : c_kit_Pick.sh.El → Option β), (c_kit_Pick.S (M + 2) (a, (32 : Int))).bind k = k r34 := fun k => (congrArg (fun o => Option.bind o k) e34).trans rfl
    have b35 : ∀ {β : Type} (k : c_kit_Pick.sh.El → Option β), (c_kit_Pick.S (M + 2) (b, (65536 : Int))).bind k = k r35 := fun k => (congrArg (fun o => Option.bind o k) e35).trans rfl
    have bE : ∀ {β : Type} (k : c_comm_Encap.sh.El → Option β), (c_comm_Encap.S (M + 2) r35).bind k = k (madeS 3 12 r35, (0 : Int)) := fun k => (congrArg (fun o => Option.bind o k) (encap_run (M + 2) p5 (by omega))).trans rfl
    have bL : ∀ {β : Type} (k : c_comm_Label.sh.El → Option β), (c_comm_Label.S (M + 2) (is, n')).bind k = k (madeS 6 1 (flagS is + n'), (0 : Int)) := fun k => (congrArg (fun o => Option.bind o k) (label_run (M + 2) is hn.1 hn.2)).trans rfl
    have bI : ∀ {β : Type} (k : c_comm_Import.sh.El → Option β), (c_comm_Import.S (M + 2) m').bind k = k (madeS 6 2 m', (0 : Int)) := fun k => (congrArg (fun o => Option.bind o k) (import_run (M + 2) hm.1 hm.2)).trans rfl
    have bR : ∀ {β : Type} (k : c_comm_Router.sh.El → Option β), (c_comm_Router.S (M + 2) m').bind k = k (madeS 6 3 m', (0 : Int)) := fun k => (congrArg (fun o => Option.bind o k) (router_run (M + 2) hm.1 hm.2)).trans rfl
    have bD : ∀ {β : Type} (k : c_comm_Election.sh.El → Option β), (c_comm_Election.S (M + 2) (r34, r35)).bind k = k (madeS 6 6 (r34 * 1099511627776 + r35), (0 : Int)) := fun k => (congrArg (fun o => Option.bind o k) (election_run (M + 2) p3 (by omega) p5 (by omega))).trans rfl
    have bO : ∀ {β : Type} (k : c_comm_Mobility.sh.El → Option β), (c_comm_Mobility.S (M + 2) (is, n')).bind k = k (madeS 6 0 (flagS is + n')) := fun k => (congrArg (fun o => Option.bind o k) (mobility_run (M + 2) is hn.1 (by omega))).trans rfl
    have bT : ∀ {β : Type} (k : c_comm_Target.sh.El → Option β), (c_comm_Target.S (M + 2) ((65000 : Int), n')).bind k = k (madeS 0 2 (65000 * 4294967296 + n')) := fun k => (congrArg (fun o => Option.bind o k) (target_run (M + 2) (by omega) (by omega) hn.1 (by omega))).trans rfl
    have s1 := fun {β : Type} (k : Nat × Nat → Option β) => slc_hi t (Go.AM.eV8 (Go.AM.cI .u8)) 8 r33 p1 (by omega) k
    have s2 := fun {β : Type} (k : Nat × Nat → Option β) => slc_lo t (Go.AM.eV8 (Go.AM.cI .u8)) 8 r33 p1 (by omega) k
    refine (if_pos (by simp [fzRow])).trans ?_
    simp only [b33, b34, b35, bE, bL, bI, bR, bD, bO, bT, s1, s2]
    have hpre : ∀ y ∈ List.drop 0 (List.take r33.toNat t), kindS y = 0 := fun y hy => htk y (List.mem_of_mem_take (List.mem_of_mem_drop hy))
    have hpost : ∀ y ∈ List.drop r33.toNat (List.take t.length t), kindS y = 0 := fun y hy => htk y (List.mem_of_mem_take (List.mem_of_mem_drop hy))
    have lpre : (List.drop 0 (List.take r33.toNat t)).length ≤ 60 := by simp; omega
    have lpost : (List.drop r33.toNat (List.take t.length t)).length ≤ 60 := by simp; omega
    generalize List.drop 0 (List.take r33.toNat t) = pre at *
    generalize List.drop r33.toNat (List.take t.length t) = post at *
    rw [if_pos ⟨rfl, by simp [roomy]; omega⟩, if_pos ⟨trivial, by simp [roomy]; omega⟩, if_pos ⟨trivial, by simp [roomy]; omega⟩]
    refine (if_pos (by simp [fzRow])).trans ?_
    have k1 : kindS (madeS 3 12 r35) = 2 := by simp [kindS, madeS]
    have k2 : kindS (madeS 6 1 (flagS is + n')) = 4 := by simp [kindS, madeS]
    have k3 : kindS (madeS 6 2 m') = 5 := by simp [kindS, madeS]
    have k4 : kindS (madeS 6 3 m') = 6 := by simp [kindS, madeS]
    have k5 : kindS (madeS 6 6 (r34 * 1099511627776 + r35)) = 7 := by simp [kindS, madeS]
    have k6 : kindS (madeS 6 0 (flagS is + n')) = 3 := by simp [kindS, madeS]
    have k7 := tgt_val (n := n') hn.1 (by omega)
    have v1 := encap_val (b := r35) p5 (by omega)
    have v2 := low_flag is (n := n') hn.1 (by omega) 6 1
    have v3 := label_val is (n := n') hn.1 hn.2
    have v4 := body_val (a := 6) (b := 2) (m := m') hm.1 hm.2
    have v5 := body_val (a := 6) (b := 3) (m := m') hm.1 hm.2
    have v6 := alg_val (a := r34) (b := r35) p3 (by omega) p5 (by omega)
    have v7 := pref_val (a := r34) (b := r35) p3 (by omega) p5 (by omega)
    have v8 := low_flag is (n := n') hn.1 (by omega) 6 0
    have v9 := mobility_val is (n := n') hn.1 (by omega)
    generalize madeS 3 12 r35 = c1 at *
    generalize madeS 6 1 (flagS is + n') = c2 at *
    generalize madeS 6 2 m' = c3 at *
    generalize madeS 6 3 m' = c4 at *
    generalize madeS 6 6 (r34 * 1099511627776 + r35) = c5 at *
    generalize madeS 6 0 (flagS is + n') = c6 at *
    generalize madeS 0 2 (65000 * 4294967296 + n') = c7 at *
    have F1 : First ((([] ++ pre) ++ [c1, c2, c3, c4, c5, c6, c7]) ++ post) 2 c1 := first_in (p2 := []) rfl k1 hpre (by decide) (by simp)
    have F2 : First ((([] ++ pre) ++ [c1, c2, c3, c4, c5, c6, c7]) ++ post) 4 c2 := first_in (p2 := [c1]) rfl k2 hpre (by decide) (by simp [k1])
    have F3 : First ((([] ++ pre) ++ [c1, c2, c3, c4, c5, c6, c7]) ++ post) 5 c3 := first_in (p2 := [c1, c2]) rfl k3 hpre (by decide) (by simp [k1, k2])
    have F4 : First ((([] ++ pre) ++ [c1, c2, c3, c4, c5, c6, c7]) ++ post) 6 c4 := first_in (p2 := [c1, c2, c3]) rfl k4 hpre (by decide) (by simp [k1, k2, k3])
    have F5 : First ((([] ++ pre) ++ [c1, c2, c3, c4, c5, c6, c7]) ++ post) 7 c5 := first_in (p2 := [c1, c2, c3, c4]) rfl k5 hpre (by decide) (by simp [k1, k2, k3, k4])
    have F6 : First ((([] ++ pre) ++ [c1, c2, c3, c4, c5, c6, c7]) ++ post) 3 c6 := first_in (p2 := [c1, c2, c3, c4, c5]) rfl k6 hpre (by decide) (by simp [k1, k2, k3, k4, k5])
    have hf : ((([] ++ pre) ++ [c1, c2, c3, c4, c5, c6, c7]) ++ post).filterMap tgtS = [n'] := by
      have z : ∀ q : List (V8 Int), (∀ y ∈ q, kindS y = 0) → q.filterMap tgtS = [] := fun q hq => List.filterMap_eq_nil_iff.2 fun y hy => tgt_none (by rw [hq y hy]; decide)
      rw [List.nil_append, List.filterMap_append, List.filterMap_append, z pre hpre, z post hpost]
      simp [tgt_none (c := c1) (by rw [k1]; decide), tgt_none (c := c2) (by rw [k2]; decide), tgt_none (c := c3) (by rw [k3]; decide), tgt_none (c := c4) (by rw [k4]; decide), tgt_none (c := c5) (by rw [k5]; decide), tgt_none (c := c6) (by rw [k6]; decide), k7]
    have lall : ((([] ++ pre) ++ [c1, c2, c3, c4, c5, c6, c7]) ++ post).length ≤ 127 := by simp; omega
    generalize (([] ++ pre) ++ [c1, c2, c3, c4, c5, c6, c7]) ++ post = all at *
    have g1 : ∀ {β : Type} (k : c_comm_EncapOf.sh.El → Option β), (c_comm_EncapOf.S (M + 2) all).bind k = k (r35, true) := fun k => (congrArg (fun o => Option.bind o k) (encapOf_run (M + 2) all c1 (by omega) (by omega) F1)).trans (by rw [v1]; rfl)
    have g2 : ∀ {β : Type} (k : c_comm_LabelOf.sh.El → Option β), (c_comm_LabelOf.S (M + 2) all).bind k = k (is, n', true) := fun k => (congrArg (fun o => Option.bind o k) (labelOf_run (M + 2) all c2 (by omega) (by omega) F2)).trans (by rw [v2, v3]; rfl)
    have g3 : ∀ {β : Type} (k : c_comm_ImportOf.sh.El → Option β), (c_comm_ImportOf.S (M + 2) all).bind k = k (m', true) := fun k => (congrArg (fun o => Option.bind o k) (importOf_run (M + 2) all c3 (by omega) (by omega) F3)).trans (by rw [v4]; rfl)
    have g4 : ∀ {β : Type} (k : c_comm_RouterOf.sh.El → Option β), (c_comm_RouterOf.S (M + 2) all).bind k = k (m', true) := fun k => (congrArg (fun o => Option.bind o k) (routerOf_run (M + 2) all c4 (by omega) (by omega) F4)).trans (by rw [v5]; rfl)
    have g5 : ∀ {β : Type} (k : c_comm_ElectionOf.sh.El → Option β), (c_comm_ElectionOf.S (M + 2) all).bind k = k (r34, r35, true) := fun k => (congrArg (fun o => Option.bind o k) (electionOf_run (M + 2) all c5 (by omega) (by omega) F5)).trans (by rw [v6, v7]; rfl)
    have g6 : ∀ {β : Type} (k : c_comm_MobilityOf.sh.El → Option β), (c_comm_MobilityOf.S (M + 2) all).bind k = k (is, n', true) := fun k => (congrArg (fun o => Option.bind o k) (mobilityOf_run (M + 2) all c6 (by omega) (by omega) F6)).trans (by rw [v8, v9]; rfl)
    have g7 : ∀ {β : Type} (k : c_comm_Targets.sh.El → Option β), (c_comm_Targets.S (M + 2) all).bind k = k [n'] := fun k => (congrArg (fun o => Option.bind o k) (targets_run (M + 1) (by omega) all (by omega) (by omega) (by rw [hf]; simp))).trans (by rw [hf]; rfl)
    have hft : t.filterMap tgtS = [] := List.filterMap_eq_nil_iff.2 fun y hy => tgt_none (by rw [htk y hy]; decide)
    have g8 : ∀ {β : Type} (k : c_comm_Targets.sh.El → Option β), (c_comm_Targets.S (M + 2) t).bind k = k [] := fun k => (congrArg (fun o => Option.bind o k) (targets_run (M + 1) (by omega) t (by omega) (by omega) (by rw [hft]; simp))).trans (by rw [hft]; rfl)
    have g9 : ∀ {β : Type} (k : c_kit_Same_uint32.sh.El → Option β), (c_kit_Same_uint32.S (M + 2) ([n'], [n'])).bind k = k true := fun k => (congrArg (fun o => Option.bind o k) (same_one M n')).trans rfl
    simp only [g1, g2, g3, g4, g5, g6, g7, g8, g9, k1, k2, k3, k4, k5, bne_self_eq_false, beq_self_eq_true, Bool.not_true, Bool.false_eq_true, if_false, if_true, List.length_nil]
    rfl
end Go.L
namespace Go.L
open Go.AM
set_option linter.unusedVariables false
theorem law_commBack (l : List (V8 Int)) (x n a b m : Int) (is : Bool) {q0 q1 q2 q3 q4 q5 q6 : Prop} (h0 : q0) (h1 : q1) (h2 : q2) (h3 : q3) (h4 : q4) (h5 : q5) (h6 : q6) :
    FnVal prog 5 [.lst (l.map (eV8 (cI .u8))), .sc (.int .i64 x), .sc (.int .u32 n), .sc (.int .i64 a), .sc (.int .i64 b), .sc (.int .u64 m), .sc (.bool is)] (.ret (.sc (.bool true))) :=
  c_law03_CommBack.ok 202 (l, x, n, a, b, m, is) true (back_run 200 (by decide) l x n a b m is)
end Go.L
namespace Go.Proofs.YtfgigcdbcbgpoaaDoor.commBack
open Go.ChangeShapes Go.WideShapes Go.ChangeAt Go.RowKit Go.AM Go.L
set_option linter.unusedVariables false

def kv : List Value := [(1, 0, 2), (2, 3, 12), (3, 6, 0), (4, 6, 1), (5, 6, 2), (6, 6, 3), (7, 6, 6)].flatMap fun (p : Int × Int × Int) => [.int .i64 p.1, .int .u8 p.2.1, .int .u8 p.2.2]
def kk : List Kd := (List.replicate 7 [.int .i64, .int .u8, .int .u8]).flatten
theorem globsOk {W : World} (h : laidMet Tryd.prog Rows.commBackRow.laid W) : GlobsOk (Gh.bare W) W := by
  refine globs_one (P := Tryd.prog) (name := "leafmesh/comm.kinds") (g := 0) (vs := kv) (by kernel_rfl) (laid_cells (g := 0) (t := 104) (ks := kk) (by kernel_rfl) (by kernel_rfl) (by kernel_rfl) (by kernel_rfl) h) (by kernel_rfl) fun i cs hi => ?_
  match i, hi with
  | 0, hi => exact ⟨rfl, (Option.some.inj hi).symm⟩
theorem own : ownKnob Tryd.prog.godebug = none := by kernel_rfl
theorem slices : ((List.range Tryd.prog.types.size).all fun t => match Tryd.prog.underlying t with | some (.slice e) => decide (0 < Tryd.prog.cellsOf e) | _ => true) = true := by kernel_rfl
theorem maps : mapsRowed Tryd.prog = true := by kernel_rfl
theorem inTable : (Tryd.f5.params.toList.all fun t => Nat.ble (t + 1) Tryd.prog.types.size) = true := by kernel_rfl
set_option maxRecDepth 100000 in
theorem contract (H : Type) (enc : TypeId × Value → H) (W : World) (base : Nat) (args : Array Value) (ds gs : List (DataW H)) (before : List MemPlace)
    (hval : ∀ (j : Nat) t v, Tryd.f5.params[j]? = some t → args[j]? = some v → Value.okWide Tryd.prog W .any base t v)
    (hW : DataW.Whole enc Tryd.prog Tryd.f5.params.toList Rows.commBackSpec.vars false W args.toList ds gs before) (hL : laidMetH Tryd.prog Rows.commBackRow.laid W) :
    Calls Tryd.prog 5 args W fun e W' => ∃ v, e = .returned v ∧ Rows.commBackSpec.post enc Tryd.prog Tryd.f5 false true false false W args v W' := by
  have hW' := hW
  have hlt := hW.lt
  obtain ⟨p, q, hA0, hV, rfl, hfz, hnd⟩ := hW
  have hA : DataW.TrodAll enc Tryd.prog W 0 (fun _ => true) true Tryd.f5.params.toList args.toList ds p := hA0
  clear hA0
  have hAll := hA
  rw [Tryd.params5] at hA hval
  obtain ⟨v0, r0, d0, e0, p0, q0, hv0, hd0, hp0, t0, hA⟩ := trodAll_cons hA
  obtain ⟨v1, r1, d1, e1, p1, q1, hv1, hd1, hp1, t1, hA⟩ := trodAll_cons hA
  obtain ⟨v2, r2, d2, e2, p2, q2, hv2, hd2, hp2, t2, hA⟩ := trodAll_cons hA
  obtain ⟨v3, r3, d3, e3, p3, q3, hv3, hd3, hp3, t3, hA⟩ := trodAll_cons hA
  obtain ⟨v4, r4, d4, e4, p4, q4, hv4, hd4, hp4, t4, hA⟩ := trodAll_cons hA
  obtain ⟨v5, r5, d5, e5, p5, q5, hv5, hd5, hp5, t5, hA⟩ := trodAll_cons hA
  obtain ⟨v6, r6, d6, e6, p6, q6, hv6, hd6, hp6, t6, hA⟩ := trodAll_cons hA
  obtain ⟨hr, hd, hq⟩ := trodAll_nil hA
  obtain rfl : args = #[v0, v1, v2, v3, v4, v5, v6] := by apply Array.ext'; simp only [hv0, hv1, hv2, hv3, hv4, hv5, hv6, hr]
  obtain rfl : ds = [d0, d1, d2, d3, d4, d5, d6] := by simp only [hd0, hd1, hd2, hd3, hd4, hd5, hd6, hd]
  obtain ⟨rfl, rfl⟩ := trodVars_none hV
  simp only [List.append_nil] at hW' hlt
  obtain ⟨a0, ok0, ra0⟩ := Rdb.cell (c := (cL (eV8 (cI .u8)))) (Rdb.slice Tryd.underlying25 (by kernel_rfl) (by kernel_rfl) (Rdb.array8 (c := cI .u8) Tryd.underlying29 (by kernel_rfl) (by kernel_rfl) (Rdb.int Tryd.underlying5 (by kernel_rfl)))) (by kernel_rfl) (hval 0 _ _ rfl rfl) t0
  obtain ⟨a1, ok1, ra1⟩ := Rdb.cell (c := (cI .i64)) (Rdb.int Tryd.underlying3 (by kernel_rfl)) (by kernel_rfl) (hval 1 _ _ rfl rfl) t1
  obtain ⟨a2, ok2, ra2⟩ := Rdb.cell (c := (cI .u32)) (Rdb.int Tryd.underlying27 (by kernel_rfl)) (by kernel_rfl) (hval 2 _ _ rfl rfl) t2
  obtain ⟨a3, ok3, ra3⟩ := Rdb.cell (c := (cI .i64)) (Rdb.int Tryd.underlying3 (by kernel_rfl)) (by kernel_rfl) (hval 3 _ _ rfl rfl) t3
  obtain ⟨a4, ok4, ra4⟩ := Rdb.cell (c := (cI .i64)) (Rdb.int Tryd.underlying3 (by kernel_rfl)) (by kernel_rfl) (hval 4 _ _ rfl rfl) t4
  obtain ⟨a5, ok5, ra5⟩ := Rdb.cell (c := (cI .u64)) (Rdb.int Tryd.underlying35 (by kernel_rfl)) (by kernel_rfl) (hval 5 _ _ rfl rfl) t5
  obtain ⟨a6, ok6, ra6⟩ := Rdb.cell (c := cB) (Rdb.bool Tryd.underlying4 (by kernel_rfl)) (by kernel_rfl) (hval 6 _ _ rfl rfl) t6
  refine (law_top (law_commBack a0 a1 a2 a3 a4 a5 a6 ok0 ok1 ok2 ok3 ok4 ok5 ok6) W (globsOk hL) _ ⟨_, _, rfl, ra0, ⟨_, _, rfl, ra1, ⟨_, _, rfl, ra2, ⟨_, _, rfl, ra3, ⟨_, _, rfl, ra4, ⟨_, _, rfl, ra5, ⟨_, _, rfl, ra6, rfl⟩⟩⟩⟩⟩⟩⟩).mono fun e W' ⟨he, hg⟩ => ?_
  subst he
  exact ⟨_, rfl, post_of_below (pa := p) (pv := []) hW' (fun _ _ _ => (trodAll_cons_mk (shut_bool Tryd.underlying4 _) trodAll_mk0))
    (fun sp hsp => trodAll_kept laid maps (slices_full_of _ slices) hg (fun t ht => Nat.le_of_ble_eq_true (List.all_eq_true.1 inTable t ht)) hAll hlt hsp) (fun _ _ => rfl) (by simp)
    hg (ok_one (by kernel_rfl) rfl (okWide_bool_mk Tryd.underlying4 _))⟩

/-- A world for the witness: the settled one, the variable holding what its initialiser lays. -/
noncomputable def laidWorld (os : Os) : World :=
  { World.holding Tryd.prog os ⟨#[], #[.slice none 0 0, .int .i64 0, .int .u32 0, .int .i64 0, .int .i64 0, .int .u64 0, .bool false], []⟩ with heap := (World.holding Tryd.prog os ⟨#[], #[.slice none 0 0, .int .i64 0, .int .u32 0, .int .i64 0, .int .i64 0, .int .u64 0, .bool false], []⟩).heap.modify 0 fun
      | .cells _ t frozen => .cells kv.toArray t frozen
      | o => o }
theorem laid_met (os : Os) : laidMet Tryd.prog Rows.commBackRow.laid ((laidWorld os).forCall (fun _ _ => 0) ⟨#[], #[.slice none 0 0, .int .i64 0, .int .u32 0, .int .i64 0, .int .i64 0, .int .u64 0, .bool false], []⟩).memory :=
  laidMet_of_run' 8 (by kernel_rfl) (by kernel_rfl)
theorem reads (os : Os) {H : Type} (enc : TypeId × Value → H) : ∃ x, DataW.whole enc Tryd.prog ((laidWorld os).forCall (fun _ _ => 0) ⟨#[], #[.slice none 0 0, .int .i64 0, .int .u32 0, .int .i64 0, .int .i64 0, .int .u64 0, .bool false], []⟩).memory Tryd.f5.params.toList Rows.commBackSpec.vars false (#[.slice none 0 0, .int .i64 0, .int .u32 0, .int .i64 0, .int .i64 0, .int .u64 0, .bool false] : Array Value).toList 8 = some x := by
  have h : (DataW.whole enc Tryd.prog ((laidWorld os).forCall (fun _ _ => 0) ⟨#[], #[.slice none 0 0, .int .i64 0, .int .u32 0, .int .i64 0, .int .i64 0, .int .u64 0, .bool false], []⟩).memory Tryd.f5.params.toList Rows.commBackSpec.vars false (#[.slice none 0 0, .int .i64 0, .int .u32 0, .int .i64 0, .int .i64 0, .int .u64 0, .bool false] : Array Value).toList 8).isSome = true := by kernel_rfl
  exact Option.isSome_iff_exists.1 h

set_option maxRecDepth 100000 in
theorem lifted (os : Os) (started : os.Started) (H : Type) (enc : TypeId × Value → H) (F : Stop.Interp) :
    ReturnsInHanded {} Tryd.checked os 5 .any ((OpenSpec.ofChange Rows.commBackSpec).preRow enc Tryd.prog Tryd.f5 Rows.commBackRow.domain false Rows.commBackRow.laid) (((OpenSpec.ofChange Rows.commBackSpec).at F).post enc Tryd.prog Tryd.f5 false true false false) := by
  obtain ⟨x, hx⟩ := reads os enc
  refine returnsInHanded_of_row (C := Tryd.checked) (s := OpenSpec.ofChange Rows.commBackSpec) own started (by kernel_rfl) Tryd.func5
    (witness_row_at (enc := enc) (C := Tryd.checked) false (laidWorld os) #[.slice none 0 0, .int .i64 0, .int .u32 0, .int .i64 0, .int .i64 0, .int .u64 0, .bool false] rfl (by kernel_rfl) (by kernel_rfl) (by kernel_rfl)
      (OpenSpec.preRow_of_cond 8 hx (by kernel_rfl) (fun k hk => by cases hk) (by kernel_rfl) (laid_met os))) ?_
  intro W base args ds gs before hval hW _ _ _ hL _ _
  exact contract H enc W base args ds gs before hval hW hL

theorem said : Rows.CommBackSaid :=
  OpenClaim.holds_of_cond 5 Tryd.f5 rfl rfl rfl rfl rfl rfl rfl ⟨rfl, rfl, rfl, rfl, rfl⟩ rfl rfl rfl rfl rfl (by kernel_rfl) Tryd.func5 (by kernel_rfl)
    (of_decide_eq_true (by kernel_rfl)) (by unfold Func.isWrapper; first | (rw [if_pos (by decide +kernel)]; kernel_rfl) | (rw [if_neg (by decide +kernel)]; exact ⟨rfl, rfl⟩))
    (fun os started H enc _ F => by rw [OpenClaim.pre_eq_preRow]; exact lifted os started H enc F)

theorem noStand : (Tryd.f5.params.toList.all fun t => !Tryd.prog.wantsStandIn t) = true := by kernel_rfl
theorem plain (f : FuncId) (fn : Func) (hf : Tryd.pinned.checked.prog.funcNamed Rows.commBackRow.func = some f) (hfn : Tryd.pinned.checked.prog.funcs[f]? = some fn) :
    false = Tryd.pinned.checked.prog.looks [] ∧ ∀ (j : Nat) t, fn.params[j]? = some t → Tryd.pinned.checked.prog.wantsStandIn t = false := by
  obtain rfl : f = 5 := Option.some.inj ((show Tryd.prog.funcNamed Rows.commBackRow.func = some 5 by kernel_rfl).symm.trans hf) |>.symm
  obtain rfl : fn = Tryd.f5 := (Option.some.inj (Tryd.func5.symm.trans hfn)).symm
  refine ⟨by kernel_rfl, fun j t ht => ?_⟩
  have := List.all_eq_true.1 noStand t (Array.mem_toList_iff.2 (Array.mem_of_getElem? ht))
  have h2 : Tryd.prog.wantsStandIn t = false := by simpa using this
  exact h2

theorem card : Rows.CommBackCardSaid :=
  Claim7.holds_tied_plain_at .later [] _ _ _ _ said (fun _ h => by cases h) (by kernel_rfl) (fun _ h => by cases h) commBack_row_tie rfl ⟨rfl, rfl⟩ (by kernel_rfl) rfl plain (by kernel_rfl)
end Go.Proofs.YtfgigcdbcbgpoaaDoor.commBack
