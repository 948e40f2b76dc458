/- Put together out of parts. No conditions. -/
import Derived.Lib.SlicesCompact
import Derived.Test.YtfgigcdbcbgpoaaDoorWt
import Derived.Test.YtfgigcdbcbgpoaaDoorSp
/- Compact of a sorted list of numbers: strictly ascending, the same members. No conditions. -/
namespace Go.L
open Go.Lib

theorem compactUpTo_mem (d : Array Int) : ∀ (m : Nat) (x : Int), x ∈ compactUpTo d m ↔ ∃ j, j < m ∧ d[j]! = x
  | 0, x => by simp [compactUpTo]
  | m + 1, x => by
    rw [compactUpTo_succ, List.mem_append, compactUpTo_mem d m x]
    by_cases hk : keeps d m = true
    · rw [if_pos hk]
      constructor
      · rintro (⟨j, h1, h2⟩ | h)
        · exact ⟨j, by omega, h2⟩
        · exact ⟨m, by omega, (List.mem_singleton.1 h).symm⟩
      · rintro ⟨j, h1, h2⟩
        by_cases hj : j = m
        · subst hj; exact .inr (by rw [h2]; exact List.mem_singleton.2 rfl)
        · exact .inl ⟨j, by omega, h2⟩
    · rw [if_neg hk]
      have hk2 : m ≠ 0 ∧ d[m]! = d[m - 1]! := by
        unfold keeps at hk
        simp only [decide_eq_true_eq, not_or, Decidable.not_not] at hk
        exact hk
      constructor
      · rintro (⟨j, h1, h2⟩ | h)
        · exact ⟨j, by omega, h2⟩
        · cases h
      · rintro ⟨j, h1, h2⟩
        by_cases hj : j = m
        · subst hj; exact .inl ⟨j - 1, by omega, by rw [← hk2.2]; exact h2⟩
        · exact .inl ⟨j, by omega, h2⟩

theorem compact_strict (d : Array Int) (n : Nat) (hs : ∀ i j : Nat, i < j → j < n → d[i]! ≤ d[j]!) : ∀ m : Nat, m ≤ n → (compactUpTo d m).Pairwise (fun a b => a < b)
  | 0, _ => by simp [compactUpTo]
  | m + 1, h => by
    rw [compactUpTo_succ]
    by_cases hk : keeps d m = true
    · rw [if_pos hk, List.pairwise_append]
      refine ⟨compact_strict d n hs m (by omega), by simp, fun a ha b hb => ?_⟩
      obtain rfl := List.mem_singleton.1 hb
      obtain ⟨j, h1, rfl⟩ := (compactUpTo_mem d m a).1 ha
      have hne : d[m]! ≠ d[m - 1]! := by
        unfold keeps at hk
        simp only [decide_eq_true_eq] at hk
        rcases hk with h0 | h0
        · omega
        · exact h0
      have h2 : d[m - 1]! ≤ d[m]! := hs (m - 1) m (by omega) (by omega)
      have h3 : d[j]! ≤ d[m - 1]! := by
        by_cases hj : j = m - 1
        · subst hj; exact Int.le_refl _
        · exact hs j (m - 1) (by omega) (by omega)
      omega
    · rw [if_neg hk, List.append_nil]
      exact compact_strict d n hs m (by omega)

/-- Sorted, then without repetitions. -/
def uniq (l : List Int) : List Int := compact (l.mergeSort (fun x y => decide (x ≤ y)))
theorem uniq_mem {l : List Int} {x : Int} : x ∈ uniq l ↔ x ∈ l := by
  unfold uniq compact
  rw [compactUpTo_mem]
  rw [← List.mem_mergeSort (le := fun x y => decide (x ≤ y))]
  generalize l.mergeSort (fun x y => decide (x ≤ y)) = s
  constructor
  · rintro ⟨j, h1, rfl⟩
    rw [getElem!_pos s.toArray j (by simpa using h1)]
    simp
  · intro h
    obtain ⟨j, h1, rfl⟩ := List.getElem_of_mem h
    exact ⟨j, h1, by rw [getElem!_pos s.toArray j (by simpa using h1)]; simp⟩
theorem uniq_strict (l : List Int) : (uniq l).Pairwise (fun a b => a < b) := by
  unfold uniq compact
  have hs := List.pairwise_mergeSort (le := fun x y : Int => decide (x ≤ y)) (fun a b c h1 h2 => by simp only [decide_eq_true_eq] at *; omega) (fun a b => by simp only [Bool.or_eq_true, decide_eq_true_eq]; omega) l
  generalize l.mergeSort (fun x y => decide (x ≤ y)) = s at *
  refine compact_strict s.toArray s.length (fun i j h1 h2 => ?_) s.length (Nat.le_refl _)
  rw [getElem!_pos s.toArray i (by simp; omega), getElem!_pos s.toArray j (by simpa using h2)]
  simp only [List.getElem_toArray]
  have := List.pairwise_iff_getElem.1 hs i j (by omega) h2 h1
  simpa using this
end Go.L
/- The plain law of CommTargets. No conditions. -/
namespace Go.L
open Go.AM Go.Sort
set_option maxRecDepth 100000
set_option linter.unusedSimpArgs false
set_option linter.unusedVariables false

def kindS (c : V8 Int) : Int :=
  if c.a0 = 0 ∧ c.a1 = 2 then 1 else if c.a0 = 3 ∧ c.a1 = 12 then 2 else if c.a0 = 6 ∧ c.a1 = 0 then 3 else if c.a0 = 6 ∧ c.a1 = 1 then 4 else if c.a0 = 6 ∧ c.a1 = 2 then 5 else if c.a0 = 6 ∧ c.a1 = 3 then 6 else if c.a0 = 6 ∧ c.a1 = 6 then 7 else 0
theorem kind_run (n : Nat) (c : V8 Int) : c_comm_Kind.S n c = some (kindS c) := by
  show (g_comm_Kind c).run n = _
  simp only [g_comm_Kind, G.run, tsOk, if_true, kindS, Bool.and_true, Bool.and_eq_true, beq_iff_eq]
  have e : ∀ (a b : Int), (a = b) = (b = a) := fun a b => propext eq_comm
  simp only [e 0, e 1, e 2, e 3, e 6, e 12]
  repeat' split
  all_goals rfl
theorem kind_b {n : Nat} (c : V8 Int) {β : Type} (k : c_comm_Kind.sh.El → Option β) : (c_comm_Kind.S n c).bind k = k (kindS c) := by rw [kind_run]; rfl
def stB (a x : Int) : Int := Go.IntKind.wrap .u64 (((@BitVec.toNat (Go.IntKind.bits .u64) ((BitVec.ofInt (Go.IntKind.bits .u64) (Go.IntKind.wrap .u64 (a * ((2 : Int) ^ (@Min.min Nat instMinNat (Int.toNat (8 : Int)) (Go.IntKind.bits .u64)))))) ||| (BitVec.ofInt (Go.IntKind.bits .u64) (Go.IntKind.wrap .u64 x)))) : Nat) : Int)
theorem stB_eq {a x : Int} (h0 : 0 ≤ a) (h1 : a < 72057594037927936) (g0 : 0 ≤ x) (g1 : x < 256) : stB a x = a * 256 + x := by
  obtain ⟨p, rfl⟩ := Int.eq_ofNat_of_zero_le h0
  obtain ⟨q, rfl⟩ := Int.eq_ofNat_of_zero_le g0
  have e1 : Go.IntKind.wrap .u64 ((p : Int) * ((2 : Int) ^ (@Min.min Nat instMinNat (Int.toNat (8 : Int)) (Go.IntKind.bits .u64)))) = ((2 ^ 8 * p : Nat) : Int) := by
    simp [Go.IntKind.wrap, Go.IntKind.bits, Go.IntKind.signed]; omega
  have e2 : Go.IntKind.wrap .u64 (q : Int) = (q : Int) := by
    simp [Go.IntKind.wrap, Go.IntKind.bits, Go.IntKind.signed]; omega
  unfold stB
  rw [e1, e2]
  have hor : 2 ^ 8 * p ||| q = 2 ^ 8 * p + q := (Nat.two_pow_add_eq_or_of_lt (i := 8) (by omega) p).symm
  have e3 : ((BitVec.ofInt (Go.IntKind.bits .u64) ((2 ^ 8 * p : Nat) : Int)) ||| (BitVec.ofInt (Go.IntKind.bits .u64) (q : Int))).toNat = 2 ^ 8 * p + q := by
    rw [BitVec.toNat_or, BitVec.ofInt_natCast, BitVec.ofInt_natCast, BitVec.toNat_ofNat, BitVec.toNat_ofNat, Nat.mod_eq_of_lt, Nat.mod_eq_of_lt, hor]
    · simp only [Go.IntKind.bits]; omega
    · simp only [Go.IntKind.bits]; omega
  rw [e3]
  simp [Go.IntKind.wrap, Go.IntKind.bits, Go.IntKind.signed]; omega
theorem v8_ext {a0 a1 a2 a3 a4 a5 a6 a7 b0 b1 b2 b3 b4 b5 b6 b7 : Int} (h0 : a0 = b0) (h1 : a1 = b1) (h2 : a2 = b2) (h3 : a3 = b3) (h4 : a4 = b4) (h5 : a5 = b5) (h6 : a6 = b6) (h7 : a7 = b7) :
    V8.mk a0 a1 a2 a3 a4 a5 a6 a7 = V8.mk b0 b1 b2 b3 b4 b5 b6 b7 := by subst h0 h1 h2 h3 h4 h5 h6 h7; rfl
def madeS (a b x : Int) : V8 Int := V8.mk a b (x / 1099511627776 % 256) (x / 4294967296 % 256) (x / 16777216 % 256) (x / 65536 % 256) (x / 256 % 256) (x % 256)
theorem nat64 {i : Nat} (h : i < 1000000) : Go.IntKind.wrap .i64 ((i : Int) + 1) = ((i + 1 : Nat) : Int) := by rw [wrap_i64 (by omega) (by omega)]; omega
theorem made_a2 (a b x : Int) : (madeS a b x).a2 = x / 1099511627776 % 256 := rfl
theorem made_a3 (a b x : Int) : (madeS a b x).a3 = x / 4294967296 % 256 := rfl
theorem made_a4 (a b x : Int) : (madeS a b x).a4 = x / 16777216 % 256 := rfl
theorem made_a5 (a b x : Int) : (madeS a b x).a5 = x / 65536 % 256 := rfl
theorem made_a6 (a b x : Int) : (madeS a b x).a6 = x / 256 % 256 := rfl
theorem made_a7 (a b x : Int) : (madeS a b x).a7 = x % 256 := rfl
theorem w32 {x : Int} (h0 : 0 ≤ x) (h1 : x < 4294967296) : Go.IntKind.wrap .u32 x = x := by simp [Go.IntKind.wrap, Go.IntKind.bits, Go.IntKind.signed]; omega
theorem st2 {a b : Int} (ha : 0 ≤ a ∧ a < 256) (hb : 0 ≤ b ∧ b < 256) : stB (stB 0 a) b = a * 256 + b := by
  rw [stB_eq (a := 0) (by omega) (by omega) ha.1 ha.2, stB_eq (by omega) (by omega) hb.1 hb.2]; omega
theorem st3 {a b c : Int} (ha : 0 ≤ a ∧ a < 256) (hb : 0 ≤ b ∧ b < 256) (hc : 0 ≤ c ∧ c < 256) : stB (stB (stB 0 a) b) c = (a * 256 + b) * 256 + c := by
  rw [st2 ha hb, stB_eq (by omega) (by omega) hc.1 hc.2]
theorem st4 {a b c d : Int} (ha : 0 ≤ a ∧ a < 256) (hb : 0 ≤ b ∧ b < 256) (hc : 0 ≤ c ∧ c < 256) (hd : 0 ≤ d ∧ d < 256) : stB (stB (stB (stB 0 a) b) c) d = ((a * 256 + b) * 256 + c) * 256 + d := by
  rw [st3 ha hb hc, stB_eq (by omega) (by omega) hd.1 hd.2]
def tgtS (c : V8 Int) : Option Int := if kindS c = 1 ∧ stB (stB 0 c.a2) c.a3 = 65000 then some (Go.IntKind.wrap .u32 (stB (stB (stB (stB 0 c.a4) c.a5) c.a6) c.a7)) else none
theorem tgt_val {n : Int} (h0 : 0 ≤ n) (h1 : n < 4294967296) : tgtS (madeS 0 2 (65000 * 4294967296 + n)) = some n := by
  have e1 : kindS (madeS 0 2 (65000 * 4294967296 + n)) = 1 := by simp [kindS, madeS]
  have e2 : stB (stB 0 (madeS 0 2 (65000 * 4294967296 + n)).a2) (madeS 0 2 (65000 * 4294967296 + n)).a3 = 65000 := by
    rw [made_a2, made_a3, st2 (by omega) (by omega)]; omega
  unfold tgtS
  rw [if_pos ⟨e1, e2⟩, made_a4, made_a5, made_a6, made_a7, st4 (by omega) (by omega) (by omega) (by omega), w32 (by omega) (by omega)]
  congr 1; omega
theorem tgt_none {c : V8 Int} (h : kindS c ≠ 1) : tgtS c = none := by unfold tgtS; rw [if_neg (fun q => h q.1)]

theorem lives03_b {β : Type} {n : Nat} (k : c_law03_lives.sh.El → Option β) : (c_law03_lives.S n ()).bind k = k true := rfl
theorem compact_b {N n : Nat} (l : List Int) (hn : l.length = n) {β : Type} (k : c_slices_Compact_uint32_uint32.sh.El → Option β) : (c_slices_Compact_uint32_uint32.S N (l, n)).bind k = k (Lib.compact l) := by
  have : c_slices_Compact_uint32_uint32.S N (l, n) = some (Lib.compact l) := by
    show compactS (l, n) = _
    unfold compactS
    rw [if_pos hn.symm]
  rw [this]; rfl

theorem targets_run (M : Nat) (l : List (V8 Int)) (hl : l.length < 1000) (hN : l.length + 10 < M) : c_comm_Targets.S M l = some (uniq (l.filterMap tgtS)) := by
  show (g_comm_Targets l).run M = _
  simp only [g_comm_Targets, G.run, tsOk, if_true, lenO_bind, idxO_bind, kind_b]
  refine bind_iter (I := fun s => ∃ i : Nat, s = ((i : Int), (l.take i).filterMap tgtS) ∧ i ≤ l.length) (m := fun s => l.length - s.1.toNat) (F := fun _ => l.filterMap tgtS) ⟨0, rfl, Nat.zero_le _⟩ (by simp; omega) (fun s hs => ?_) ?_
  · obtain ⟨i, rfl, hi⟩ := hs
    by_cases he : i = l.length
    · left
      subst he
      rw [if_neg (by simp)]
      simp
    · right
      have hil : i < l.length := by omega
      have e1 : at? l (i : Int) = some l[i] := by rw [at?_nat]; exact List.getElem?_eq_getElem hil
      have e2 : (l.take (i + 1)).filterMap tgtS = (l.take i).filterMap tgtS ++ (tgtS l[i]).toList := by
        rw [List.take_add_one, List.filterMap_append, List.getElem?_eq_getElem hil]
        cases h : tgtS l[i] <;> simp [h]
      have hroom : ((l.take i).filterMap tgtS).length ≤ i := Nat.le_trans (List.length_filterMap_le _ _) (by simp; omega)
      refine ⟨(((i + 1 : Nat) : Int), (l.take (i + 1)).filterMap tgtS), ?_, ⟨i + 1, rfl, by omega⟩, rfl, by simp only [Int.toNat_natCast]; omega⟩
      rw [if_pos (by simp; omega)]
      simp only [e1, Option.bind_some, appO_bind, nat64 (show i < 1000000 by omega)]
      rw [e2]
      by_cases hk : kindS l[i] = 1
      · rw [if_pos (by simpa using hk)]
        by_cases ha : stB (stB 0 l[i].a2) l[i].a3 = 65000
        · have ht : tgtS l[i] = some (Go.IntKind.wrap .u32 (stB (stB (stB (stB 0 l[i].a4) l[i].a5) l[i].a6) l[i].a7)) := by unfold tgtS; rw [if_pos ⟨hk, ha⟩]
          rw [ht]
          refine (if_pos (show (stB (stB 0 l[i].a2) l[i].a3 == 65000) = true by simpa using ha)).trans ?_
          refine (if_pos ⟨trivial, by simp [roomy]; omega⟩).trans ?_
          rfl
        · have ht : tgtS l[i] = none := by unfold tgtS; rw [if_neg (fun q => ha q.2)]
          rw [ht]
          refine (if_neg (show ¬ (stB (stB 0 l[i].a2) l[i].a3 == 65000) = true by simpa using ha)).trans ?_
          simp
      · rw [if_neg (by simpa using hk), tgt_none hk]
        simp
  · have hT : (l.filterMap tgtS).length ≤ l.length := List.length_filterMap_le _ _
    refine (sort_b (l.filterMap tgtS) rfl (by omega) (by omega) _).trans ?_
    refine (compact_b _ (by simp) _).trans ?_
    exact if_pos (by simp [fzRow])

end Go.L
