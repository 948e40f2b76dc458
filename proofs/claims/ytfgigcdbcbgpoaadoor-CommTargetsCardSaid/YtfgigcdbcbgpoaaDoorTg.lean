/- Put together out of parts. No conditions. -/
import Derived.Test.YtfgigcdbcbgpoaaDoorWt
import Derived.Test.YtfgigcdbcbgpoaaDoorSp
import Derived.Test.YtfgigcdbcbgpoaaDoorAmPl
import Derived.Test.YtfgigcdbcbgpoaaDoorRe
import Derived.Test.YtfgigcdbcbgpoaaDoorAmDr
import Derived.Lib.SlicesCompact
import Derived.Test.YtfgigcdbcbgpoaaDoorRows
import Derived.Test.YtfgigcdbcbgpoaaDoorCards
import Derived.Test.YtfgigcdbcbgpoaaDoorTie
import Derived.Deep.DeepHandedRow
import Derived.Lib.LaidTab
/- Compact of a sorted list of numbers: strictly ascending, the same members. No conditions. -/
namespace Go.L
open Go.Lib

theorem compactUpTo_mem (d : Array Int) : ∀ (m : Nat) (x : Int), x ∈ compactUpTo d m ↔ ∃ j, j < m ∧ d[j]! = x
  | 0, x => by simp [compactUpTo]
  | m + 1, x => by
    rw [compactUpTo_succ, List.mem_append, compactUpTo_mem d m x]
    by_cases hk : keeps d m = true
    · rw [if_pos hk]
      constructor
      · rintro (⟨j, h1, h2⟩ | h)
        · exact ⟨j, by omega, h2⟩
        · exact ⟨m, by omega, (List.mem_singleton.1 h).symm⟩
      · rintro ⟨j, h1, h2⟩
        by_cases hj : j = m
        · subst hj; exact .inr (by rw [h2]; exact List.mem_singleton.2 rfl)
        · exact .inl ⟨j, by omega, h2⟩
    · rw [if_neg hk]
      have hk2 : m ≠ 0 ∧ d[m]! = d[m - 1]! := by
        unfold keeps at hk
        simp only [decide_eq_true_eq, not_or, Decidable.not_not] at hk
        exact hk
      constructor
      · rintro (⟨j, h1, h2⟩ | h)
        · exact ⟨j, by omega, h2⟩
        · cases h
      · rintro ⟨j, h1, h2⟩
        by_cases hj : j = m
        · subst hj; exact .inl ⟨j - 1, by omega, by rw [← hk2.2]; exact h2⟩
        · exact .inl ⟨j, by omega, h2⟩

theorem compact_strict (d : Array Int) (n : Nat) (hs : ∀ i j : Nat, i < j → j < n → d[i]! ≤ d[j]!) : ∀ m : Nat, m ≤ n → (compactUpTo d m).Pairwise (fun a b => a < b)
  | 0, _ => by simp [compactUpTo]
  | m + 1, h => by
    rw [compactUpTo_succ]
    by_cases hk : keeps d m = true
    · rw [if_pos hk, List.pairwise_append]
      refine ⟨compact_strict d n hs m (by omega), by simp, fun a ha b hb => ?_⟩
      obtain rfl := List.mem_singleton.1 hb
      obtain ⟨j, h1, rfl⟩ := (compactUpTo_mem d m a).1 ha
      have hne : d[m]! ≠ d[m - 1]! := by
        unfold keeps at hk
        simp only [decide_eq_true_eq] at hk
        rcases hk with h0 | h0
        · omega
        · exact h0
      have h2 : d[m - 1]! ≤ d[m]! := hs (m - 1) m (by omega) (by omega)
      have h3 : d[j]! ≤ d[m - 1]! := by
        by_cases hj : j = m - 1
        · subst hj; exact Int.le_refl _
        · exact hs j (m - 1) (by omega) (by omega)
      omega
    · rw [if_neg hk, List.append_nil]
      exact compact_strict d n hs m (by omega)

/-- Sorted, then without repetitions. -/
def uniq (l : List Int) : List Int := compact (l.mergeSort (fun x y => decide (x ≤ y)))
theorem uniq_mem {l : List Int} {x : Int} : x ∈ uniq l ↔ x ∈ l := by
  unfold uniq compact
  rw [compactUpTo_mem]
  rw [← List.mem_mergeSort (le := fun x y => decide (x ≤ y))]
  generalize l.mergeSort (fun x y => decide (x ≤ y)) = s
  constructor
  · rintro ⟨j, h1, rfl⟩
    rw [getElem!_pos s.toArray j (by simpa using h1)]
    simp
  · intro h
    obtain ⟨j, h1, rfl⟩ := List.getElem_of_mem h
    exact ⟨j, h1, by rw [getElem!_pos s.toArray j (by simpa using h1)]; simp⟩
theorem uniq_strict (l : List Int) : (uniq l).Pairwise (fun a b => a < b) := by
  unfold uniq compact
  have hs := List.pairwise_mergeSort (le := fun x y : Int => decide (x ≤ y)) (fun a b c h1 h2 => by simp only [decide_eq_true_eq] at *; omega) (fun a b => by simp only [Bool.or_eq_true, decide_eq_true_eq]; omega) l
  generalize l.mergeSort (fun x y => decide (x ≤ y)) = s at *
  refine compact_strict s.toArray s.length (fun i j h1 h2 => ?_) s.length (Nat.le_refl _)
  rw [getElem!_pos s.toArray i (by simp; omega), getElem!_pos s.toArray j (by simpa using h2)]
  simp only [List.getElem_toArray]
  have := List.pairwise_iff_getElem.1 hs i j (by omega) h2 h1
  simpa using this
end Go.L
/- The plain law of CommTargets. No conditions. -/
namespace Go.L
open Go.AM Go.Sort
set_option maxRecDepth 100000
set_option linter.unusedSimpArgs false
set_option linter.unusedVariables false

def kindS (c : V8 Int) : Int :=
  if c.a0 = 0 ∧ c.a1 = 2 then 1 else if c.a0 = 3 ∧ c.a1 = 12 then 2 else if c.a0 = 6 ∧ c.a1 = 0 then 3 else if c.a0 = 6 ∧ c.a1 = 1 then 4 else if c.a0 = 6 ∧ c.a1 = 2 then 5 else if c.a0 = 6 ∧ c.a1 = 3 then 6 else if c.a0 = 6 ∧ c.a1 = 6 then 7 else 0
theorem kind_run (n : Nat) (c : V8 Int) : c_comm_Kind.S n c = some (kindS c) := by
  show (g_comm_Kind c).run n = _
  simp only [g_comm_Kind, G.run, tsOk, if_true, kindS, Bool.and_true, Bool.and_eq_true, beq_iff_eq]
  have e : ∀ (a b : Int), (a = b) = (b = a) := fun a b => propext eq_comm
  simp only [e 0, e 1, e 2, e 3, e 6, e 12]
  repeat' split
  all_goals rfl
theorem kind_b {n : Nat} (c : V8 Int) {β : Type} (k : c_comm_Kind.sh.El → Option β) : (c_comm_Kind.S n c).bind k = k (kindS c) := by rw [kind_run]; rfl
def stB (a x : Int) : Int := Go.IntKind.wrap .u64 (((@BitVec.toNat (Go.IntKind.bits .u64) ((BitVec.ofInt (Go.IntKind.bits .u64) (Go.IntKind.wrap .u64 (a * ((2 : Int) ^ (@Min.min Nat instMinNat (Int.toNat (8 : Int)) (Go.IntKind.bits .u64)))))) ||| (BitVec.ofInt (Go.IntKind.bits .u64) (Go.IntKind.wrap .u64 x)))) : Nat) : Int)
theorem stB_eq {a x : Int} (h0 : 0 ≤ a) (h1 : a < 72057594037927936) (g0 : 0 ≤ x) (g1 : x < 256) : stB a x = a * 256 + x := by
  obtain ⟨p, rfl⟩ := Int.eq_ofNat_of_zero_le h0
  obtain ⟨q, rfl⟩ := Int.eq_ofNat_of_zero_le g0
  have e1 : Go.IntKind.wrap .u64 ((p : Int) * ((2 : Int) ^ (@Min.min Nat instMinNat (Int.toNat (8 : Int)) (Go.IntKind.bits .u64)))) = ((2 ^ 8 * p : Nat) : Int) := by
    simp [Go.IntKind.wrap, Go.IntKind.bits, Go.IntKind.signed]; omega
  have e2 : Go.IntKind.wrap .u64 (q : Int) = (q : Int) := by
    simp [Go.IntKind.wrap, Go.IntKind.bits, Go.IntKind.signed]; omega
  unfold stB
  rw [e1, e2]
  have hor : 2 ^ 8 * p ||| q = 2 ^ 8 * p + q := (Nat.two_pow_add_eq_or_of_lt (i := 8) (by omega) p).symm
  have e3 : ((BitVec.ofInt (Go.IntKind.bits .u64) ((2 ^ 8 * p : Nat) : Int)) ||| (BitVec.ofInt (Go.IntKind.bits .u64) (q : Int))).toNat = 2 ^ 8 * p + q := by
    rw [BitVec.toNat_or, BitVec.ofInt_natCast, BitVec.ofInt_natCast, BitVec.toNat_ofNat, BitVec.toNat_ofNat, Nat.mod_eq_of_lt, Nat.mod_eq_of_lt, hor]
    · simp only [Go.IntKind.bits]; omega
    · simp only [Go.IntKind.bits]; omega
  rw [e3]
  simp [Go.IntKind.wrap, Go.IntKind.bits, Go.IntKind.signed]; omega
theorem v8_ext {a0 a1 a2 a3 a4 a5 a6 a7 b0 b1 b2 b3 b4 b5 b6 b7 : Int} (h0 : a0 = b0) (h1 : a1 = b1) (h2 : a2 = b2) (h3 : a3 = b3) (h4 : a4 = b4) (h5 : a5 = b5) (h6 : a6 = b6) (h7 : a7 = b7) :
    V8.mk a0 a1 a2 a3 a4 a5 a6 a7 = V8.mk b0 b1 b2 b3 b4 b5 b6 b7 := by subst h0 h1 h2 h3 h4 h5 h6 h7; rfl
def madeS (a b x : Int) : V8 Int := V8.mk a b (x / 1099511627776 % 256) (x / 4294967296 % 256) (x / 16777216 % 256) (x / 65536 % 256) (x / 256 % 256) (x % 256)
theorem target_run (n : Nat) {a x : Int} (h0 : 0 ≤ a) (h1 : a < 65536) (h2 : 0 ≤ x) (h3 : x < 4294967296) : c_comm_Target.S n (a, x) = some (madeS 0 2 (a * 4294967296 + x)) := by
  show (g_comm_Target a x).run n = _
  simp only [g_comm_Target, G.run, tsOk, if_true, madeS]
  refine congrArg (some : V8 Int → Option (V8 Int)) (v8_ext ?_ ?_ ?_ ?_ ?_ ?_ ?_ ?_) <;> first | rfl | (simp [Go.IntKind.wrap, Go.IntKind.bits, Go.IntKind.signed, Int.fdiv_eq_ediv_of_nonneg] <;> omega)
theorem nat64 {i : Nat} (h : i < 1000000) : Go.IntKind.wrap .i64 ((i : Int) + 1) = ((i + 1 : Nat) : Int) := by rw [wrap_i64 (by omega) (by omega)]; omega
theorem made_a2 (a b x : Int) : (madeS a b x).a2 = x / 1099511627776 % 256 := rfl
theorem made_a3 (a b x : Int) : (madeS a b x).a3 = x / 4294967296 % 256 := rfl
theorem made_a4 (a b x : Int) : (madeS a b x).a4 = x / 16777216 % 256 := rfl
theorem made_a5 (a b x : Int) : (madeS a b x).a5 = x / 65536 % 256 := rfl
theorem made_a6 (a b x : Int) : (madeS a b x).a6 = x / 256 % 256 := rfl
theorem made_a7 (a b x : Int) : (madeS a b x).a7 = x % 256 := rfl
theorem w32 {x : Int} (h0 : 0 ≤ x) (h1 : x < 4294967296) : Go.IntKind.wrap .u32 x = x := by simp [Go.IntKind.wrap, Go.IntKind.bits, Go.IntKind.signed]; omega
theorem st2 {a b : Int} (ha : 0 ≤ a ∧ a < 256) (hb : 0 ≤ b ∧ b < 256) : stB (stB 0 a) b = a * 256 + b := by
  rw [stB_eq (a := 0) (by omega) (by omega) ha.1 ha.2, stB_eq (by omega) (by omega) hb.1 hb.2]; omega
theorem st3 {a b c : Int} (ha : 0 ≤ a ∧ a < 256) (hb : 0 ≤ b ∧ b < 256) (hc : 0 ≤ c ∧ c < 256) : stB (stB (stB 0 a) b) c = (a * 256 + b) * 256 + c := by
  rw [st2 ha hb, stB_eq (by omega) (by omega) hc.1 hc.2]
theorem st4 {a b c d : Int} (ha : 0 ≤ a ∧ a < 256) (hb : 0 ≤ b ∧ b < 256) (hc : 0 ≤ c ∧ c < 256) (hd : 0 ≤ d ∧ d < 256) : stB (stB (stB (stB 0 a) b) c) d = ((a * 256 + b) * 256 + c) * 256 + d := by
  rw [st3 ha hb hc, stB_eq (by omega) (by omega) hd.1 hd.2]
def tgtS (c : V8 Int) : Option Int := if kindS c = 1 ∧ stB (stB 0 c.a2) c.a3 = 65000 then some (Go.IntKind.wrap .u32 (stB (stB (stB (stB 0 c.a4) c.a5) c.a6) c.a7)) else none
theorem tgt_val {n : Int} (h0 : 0 ≤ n) (h1 : n < 4294967296) : tgtS (madeS 0 2 (65000 * 4294967296 + n)) = some n := by
  have e1 : kindS (madeS 0 2 (65000 * 4294967296 + n)) = 1 := by simp [kindS, madeS]
  have e2 : stB (stB 0 (madeS 0 2 (65000 * 4294967296 + n)).a2) (madeS 0 2 (65000 * 4294967296 + n)).a3 = 65000 := by
    rw [made_a2, made_a3, st2 (by omega) (by omega)]; omega
  unfold tgtS
  rw [if_pos ⟨e1, e2⟩, made_a4, made_a5, made_a6, made_a7, st4 (by omega) (by omega) (by omega) (by omega), w32 (by omega) (by omega)]
  congr 1; omega
theorem tgt_none {c : V8 Int} (h : kindS c ≠ 1) : tgtS c = none := by unfold tgtS; rw [if_neg (fun q => h q.1)]

theorem lives03_b {β : Type} {n : Nat} (k : c_law03_lives.sh.El → Option β) : (c_law03_lives.S n ()).bind k = k true := rfl
theorem compact_b {N n : Nat} (l : List Int) (hn : l.length = n) {β : Type} (k : c_slices_Compact_uint32_uint32.sh.El → Option β) : (c_slices_Compact_uint32_uint32.S N (l, n)).bind k = k (Lib.compact l) := by
  have : c_slices_Compact_uint32_uint32.S N (l, n) = some (Lib.compact l) := by
    show compactS (l, n) = _
    unfold compactS
    rw [if_pos hn.symm]
  rw [this]; rfl

theorem targets_run (M : Nat) (l : List (V8 Int)) (hl : l.length < 1000) (hN : l.length + 10 < M) : c_comm_Targets.S M l = some (uniq (l.filterMap tgtS)) := by
  show (g_comm_Targets l).run M = _
  simp only [g_comm_Targets, G.run, tsOk, if_true, lenO_bind, idxO_bind, kind_b]
  refine bind_iter (I := fun s => ∃ i : Nat, s = ((i : Int), (l.take i).filterMap tgtS) ∧ i ≤ l.length) (m := fun s => l.length - s.1.toNat) (F := fun _ => l.filterMap tgtS) ⟨0, rfl, Nat.zero_le _⟩ (by simp; omega) (fun s hs => ?_) ?_
  · obtain ⟨i, rfl, hi⟩ := hs
    by_cases he : i = l.length
    · left
      subst he
      rw [if_neg (by simp)]
      simp
    · right
      have hil : i < l.length := by omega
      have e1 : at? l (i : Int) = some l[i] := by rw [at?_nat]; exact List.getElem?_eq_getElem hil
      have e2 : (l.take (i + 1)).filterMap tgtS = (l.take i).filterMap tgtS ++ (tgtS l[i]).toList := by
        rw [List.take_add_one, List.filterMap_append, List.getElem?_eq_getElem hil]
        cases h : tgtS l[i] <;> simp [h]
      have hroom : ((l.take i).filterMap tgtS).length ≤ i := Nat.le_trans (List.length_filterMap_le _ _) (by simp; omega)
      refine ⟨(((i + 1 : Nat) : Int), (l.take (i + 1)).filterMap tgtS), ?_, ⟨i + 1, rfl, by omega⟩, rfl, by simp only [Int.toNat_natCast]; omega⟩
      rw [if_pos (by simp; omega)]
      simp only [e1, Option.bind_some, appO_bind, nat64 (show i < 1000000 by omega)]
      rw [e2]
      by_cases hk : kindS l[i] = 1
      · rw [if_pos (by simpa using hk)]
        by_cases ha : stB (stB 0 l[i].a2) l[i].a3 = 65000
        · have ht : tgtS l[i] = some (Go.IntKind.wrap .u32 (stB (stB (stB (stB 0 l[i].a4) l[i].a5) l[i].a6) l[i].a7)) := by unfold tgtS; rw [if_pos ⟨hk, ha⟩]
          rw [ht]
          refine (if_pos (show (stB (stB 0 l[i].a2) l[i].a3 == 65000) = true by simpa using ha)).trans ?_
          refine (if_pos ⟨trivial, by simp [roomy]; omega⟩).trans ?_
          rfl
        · have ht : tgtS l[i] = none := by unfold tgtS; rw [if_neg (fun q => ha q.2)]
          rw [ht]
          refine (if_neg (show ¬ (stB (stB 0 l[i].a2) l[i].a3 == 65000) = true by simpa using ha)).trans ?_
          simp
      · rw [if_neg (by simpa using hk), tgt_none hk]
        simp
  · have hT : (l.filterMap tgtS).length ≤ l.length := List.length_filterMap_le _ _
    refine (sort_b (l.filterMap tgtS) rfl (by omega) (by omega) _).trans ?_
    refine (compact_b _ (by simp) _).trans ?_
    exact if_pos (by simp [fzRow])

theorem has_run (M : Nat) (l : List Int) (x : Int) (hl : l.length < 100000) (hN : l.length + 1 < M) : c_kit_Has_uint32.S M (l, x) = some (decide (x ∈ l)) := by
  show (g_kit_Has_uint32 l x).run M = _
  simp only [g_kit_Has_uint32, G.run, tsOk, if_true, lenO_bind, idxO_bind]
  refine bind_ex (I := fun s => ∃ i : Nat, s = (i : Int) ∧ i ≤ l.length ∧ ∀ j, j < i → l[j]? ≠ some x) (m := fun s => l.length - s.toNat) (Q := fun t => (t = .inl () ∧ x ∈ l) ∨ (t = .inr () ∧ x ∉ l)) ⟨0, rfl, Nat.zero_le _, fun j hj => absurd hj (Nat.not_lt_zero _)⟩ (by simp; omega) (fun s hs => ?_) (fun t ht => ?_)
  · obtain ⟨i, rfl, hi, hno⟩ := hs
    by_cases he : i = l.length
    · left
      subst he
      rw [if_neg (by simp)]
      refine ⟨_, rfl, .inr ⟨rfl, fun h => ?_⟩⟩
      obtain ⟨j, h1, h2⟩ := List.getElem_of_mem h
      exact hno j h1 (by rw [List.getElem?_eq_getElem h1, h2])
    · have hil : i < l.length := by omega
      have e1 : at? l (i : Int) = some l[i] := by rw [at?_nat]; exact List.getElem?_eq_getElem hil
      rw [if_pos (by simp; omega), e1]
      simp only [Option.bind_some, nat64 (show i < 1000000 by omega)]
      by_cases hx : l[i] = x
      · left
        rw [if_pos (by simpa using hx)]
        exact ⟨_, rfl, .inl ⟨rfl, by rw [← hx]; exact List.getElem_mem hil⟩⟩
      · right
        rw [if_neg (by simpa using hx)]
        refine ⟨_, rfl, ⟨i + 1, rfl, by omega, fun j hj => ?_⟩, by simp only [Int.toNat_natCast]; omega⟩
        by_cases hji : j = i
        · subst hji; rw [List.getElem?_eq_getElem hil]; simpa using hx
        · exact hno j (by omega)
  · rcases ht with ⟨rfl, h⟩ | ⟨rfl, h⟩
    · rw [decide_eq_true h]; rfl
    · rw [decide_eq_false h]; rfl
theorem has_b {M : Nat} (l : List Int) (x : Int) (hl : l.length < 100000) (hN : l.length + 1 < M) {β : Type} (k : c_kit_Has_uint32.sh.El → Option β) : (c_kit_Has_uint32.S M (l, x)).bind k = k (decide (x ∈ l)) := by
  rw [has_run M l x hl hN]; rfl
theorem target_b {n : Nat} {a x : Int} (h0 : 0 ≤ a) (h1 : a < 65536) (h2 : 0 ≤ x) (h3 : x < 4294967296) {β : Type} (k : c_comm_Target.sh.El → Option β) : (c_comm_Target.S n (a, x)).bind k = k (madeS 0 2 (a * 4294967296 + x)) := by
  rw [target_run n h0 h1 h2 h3]; rfl
theorem tgt_other {n : Int} (h0 : 0 ≤ n) (h1 : n < 4294967296) : tgtS (madeS 0 2 (7 * 4294967296 + n)) = none := by
  unfold tgtS
  rw [if_neg]
  rintro ⟨_, h⟩
  rw [st2 (by rw [made_a2]; omega) (by rw [made_a3]; omega), made_a2, made_a3] at h
  omega
end Go.L
namespace Go.L
open Go.AM Go.Sort
set_option maxRecDepth 100000
set_option linter.unusedSimpArgs false
set_option linter.unusedVariables false

theorem by_inl {σ τ : Type} {X o : Option (σ ⊕ τ)} {B : σ → Prop} (h : X = o) (h2 : ∃ s', o = some (.inl s') ∧ B s') : ∃ s', X = some (.inl s') ∧ B s' := h ▸ h2
theorem law_run (M : Nat) (hM : 500 ≤ M) (l : List Int) (own : List Bool) (hw : ∀ x ∈ l, 0 ≤ x ∧ x < 4294967296) : c_law03_CommTargets.S M (l, own) = some true := by
  show (g_law03_CommTargets l own).run M = _
  simp only [g_law03_CommTargets, G.run, tsOk, if_true, lives03_b, lenO_bind, Bool.not_true, Bool.false_eq_true, if_false, idxO_bind, appO_bind]
  by_cases h60 : l.length > 60
  · rw [if_pos (by simp; omega)]; rfl
  rw [if_neg (by simp; omega)]
  refine bind_ex (I := fun s => ∃ (i : Nat) (all : List (V8 Int)), s = ((i : Int), all, all.filterMap tgtS) ∧ all.length = i ∧ i ≤ l.length) (m := fun s => l.length - s.1.toNat) (Q := fun t => t.2 = t.1.filterMap tgtS ∧ t.1.length ≤ 60) ⟨0, [], rfl, rfl, Nat.zero_le _⟩ (by simp; omega) (fun s hs => ?_) (fun t ht => ?_)
  · obtain ⟨i, all, rfl, hlen, hi⟩ := hs
    have hroom : (all.filterMap tgtS).length ≤ i := by rw [← hlen]; exact List.length_filterMap_le _ _
    by_cases he : i = l.length
    · left
      rw [if_neg (by simp; omega)]
      exact ⟨_, rfl, rfl, by show all.length ≤ 60; omega⟩
    · right
      have hil : i < l.length := by omega
      have e1 : at? l (i : Int) = some l[i] := by rw [at?_nat]; exact List.getElem?_eq_getElem hil
      obtain ⟨hx0, hx1⟩ := hw l[i] (List.getElem_mem hil)
      rw [if_pos (by simp; omega)]
      have mine : tgtS (madeS 0 2 (65000 * 4294967296 + l[i])) = some l[i] := tgt_val hx0 hx1
      have other : tgtS (madeS 0 2 (7 * 4294967296 + l[i])) = none := tgt_other hx0 hx1
      have en : Go.IntKind.wrap .i64 ((i : Int) + 1) = ((i + 1 : Nat) : Int) := nat64 (by omega)
      have rm1 : True ∧ roomy ((all.filterMap tgtS).length + [l[i]].length) 4 = true := ⟨trivial, by simp [roomy]; omega⟩
      have rm2 : ∀ r : V8 Int, True ∧ roomy (all.length + [r].length) 8 = true := fun r => ⟨trivial, by simp [roomy]; omega⟩
      have endM : ∃ s' : Int × List (V8 Int) × List Int, (some (Sum.inl (Go.IntKind.wrap .i64 ((i : Int) + 1), all ++ [madeS 0 2 (65000 * 4294967296 + l[i])], all.filterMap tgtS ++ [l[i]])) : Option ((Int × List (V8 Int) × List Int) ⊕ (List (V8 Int) × List Int))) = some (Sum.inl s') ∧ (∃ (i : Nat) (all : List (V8 Int)), s' = ((i : Int), all, all.filterMap tgtS) ∧ all.length = i ∧ i ≤ l.length) ∧ l.length - s'.1.toNat < l.length - ((i : Int)).toNat := by
        rw [en]
        exact ⟨_, rfl, ⟨i + 1, all ++ [madeS 0 2 (65000 * 4294967296 + l[i])], by simp only [List.filterMap_append, List.filterMap_cons, mine, List.filterMap_nil], by simp [hlen], by omega⟩, by simp only [Int.toNat_natCast]; omega⟩
      have endO : ∃ s' : Int × List (V8 Int) × List Int, (some (Sum.inl (Go.IntKind.wrap .i64 ((i : Int) + 1), all ++ [madeS 0 2 (7 * 4294967296 + l[i])], all.filterMap tgtS)) : Option ((Int × List (V8 Int) × List Int) ⊕ (List (V8 Int) × List Int))) = some (Sum.inl s') ∧ (∃ (i : Nat) (all : List (V8 Int)), s' = ((i : Int), all, all.filterMap tgtS) ∧ all.length = i ∧ i ≤ l.length) ∧ l.length - s'.1.toNat < l.length - ((i : Int)).toNat := by
        rw [en]
        exact ⟨_, rfl, ⟨i + 1, all ++ [madeS 0 2 (7 * 4294967296 + l[i])], by simp only [List.filterMap_append, List.filterMap_cons, other, List.filterMap_nil, List.append_nil], by simp [hlen], by omega⟩, by simp only [Int.toNat_natCast]; omega⟩
      have e3 : decide ((i : Int) < ((l.length : Nat) : Int)) = true := by simp; omega
      by_cases hio : i < own.length
      · have e2 : at? own (i : Int) = some own[i] := by rw [at?_nat]; exact List.getElem?_eq_getElem hio
        rw [if_pos (by simp; omega), e2]
        simp only [Option.bind_some]
        cases own[i] with
        | false =>
          rw [if_pos (by rfl), e1]
          simp only [Option.bind_some]
          refine by_inl (target_b (by decide) (by decide) hx0 hx1 _) ?_
          refine by_inl (if_pos (rm2 _)) ?_
          exact endO
        | true =>
          rw [if_neg (by simp), e1]
          simp only [Option.bind_some]
          refine by_inl (if_pos rm1) ?_
          refine by_inl (target_b (by decide) (by decide) hx0 hx1 _) ?_
          refine by_inl (if_pos (rm2 _)) ?_
          exact endM
      · rw [if_neg (by simp; omega), e1]
        simp only [Option.bind_some]
        refine by_inl (if_pos rm1) ?_
        refine by_inl (target_b (by decide) (by decide) hx0 hx1 _) ?_
        refine by_inl (if_pos (rm2 _)) ?_
        exact endM
  · obtain ⟨all, want⟩ := t
    obtain ⟨hwt, hlen⟩ := ht
    simp only at hwt hlen
    subst hwt
    have hT : (all.filterMap tgtS).length ≤ 60 := Nat.le_trans (List.length_filterMap_le _ _) hlen
    refine (if_pos (by simp [fzRow])).trans ?_
    refine (if_pos (by simp [fzRow])).trans ?_
    refine (congrArg (fun o => Option.bind o _) (targets_run M all (by omega) (by omega))).trans ?_
    have hm := fun x => @uniq_mem (all.filterMap tgtS) x
    have hs := uniq_strict (all.filterMap tgtS)
    have hU : (uniq (all.filterMap tgtS)).length < 100 := by
      have := compact_len ((all.filterMap tgtS).mergeSort (fun x y => decide (x ≤ y)))
      rw [List.length_mergeSort] at this
      unfold uniq
      omega
    simp only
    generalize all.filterMap tgtS = T at *
    generalize uniq T = U at *
    refine bind_ex (I := fun s => ∃ i : Nat, s = (i : Int) ∧ i ≤ U.length) (m := fun s => U.length - s.toNat) (Q := fun t => t = .inr ()) ⟨0, rfl, Nat.zero_le _⟩ (by simp; omega) (fun s hs' => ?_) (fun t ht => ?_)
    · obtain ⟨i, rfl, hi⟩ := hs'
      simp only [lenO_bind, idxO_bind]
      by_cases he : i = U.length
      · left
        rw [if_neg (by simp; omega)]
        exact ⟨_, rfl, rfl⟩
      · right
        have hil : i < U.length := by omega
        have e1 : at? U (i : Int) = some U[i] := by rw [at?_nat]; exact List.getElem?_eq_getElem hil
        have hin : U[i] ∈ T := (hm _).1 (List.getElem_mem hil)
        have endH : ∃ s' : Int, (if (!decide (U[i] ∈ T)) = true then some (Sum.inr (Sum.inl ())) else some (Sum.inl (Go.IntKind.wrap .i64 ((i : Int) + 1))) : Option (Int ⊕ (Unit ⊕ Unit))) = some (.inl s') ∧ (∃ i : Nat, s' = (i : Int) ∧ i ≤ U.length) ∧ U.length - s'.toNat < U.length - ((i : Int)).toNat := by
          rw [if_neg (by simp [hin]), nat64 (by omega)]
          exact ⟨_, rfl, ⟨i + 1, rfl, by omega⟩, by simp only [Int.toNat_natCast]; omega⟩
        rw [if_pos (by simp; omega)]
        by_cases h0 : i = 0
        · rw [if_neg (by simp; omega), e1]
          simp only [Option.bind_some]
          refine by_inl (has_b T U[i] (by omega) (by omega) _) ?_
          exact endH
        · have e0 : at? U ((i - 1 : Nat) : Int) = some U[i - 1] := by rw [at?_nat]; exact List.getElem?_eq_getElem (by omega)
          have hlt : U[i - 1] < U[i] := List.pairwise_iff_getElem.1 hs (i - 1) i (by omega) hil (by omega)
          rw [if_pos (by simp; omega), W_eq (x := (i : Int) - 1) (n := i - 1) (by omega) (by omega), e0, e1]
          simp only [Option.bind_some]
          rw [if_neg (by simp; omega)]
          refine by_inl (has_b T U[i] (by omega) (by omega) _) ?_
          exact endH
    · subst ht
      simp only [Sum.elim, G.run, tsOk, if_true, lenO_bind, idxO_bind]
      refine bind_ex (I := fun s => ∃ i : Nat, s = (i : Int) ∧ i ≤ T.length) (m := fun s => T.length - s.toNat) (Q := fun t => t = .inr ()) ⟨0, rfl, Nat.zero_le _⟩ (by simp; omega) (fun s hs' => ?_) (fun t ht => ?_)
      · obtain ⟨i, rfl, hi⟩ := hs'
        by_cases he : i = T.length
        · left
          rw [if_neg (by simp; omega)]
          exact ⟨_, rfl, rfl⟩
        · right
          have hil : i < T.length := by omega
          have e1 : at? T (i : Int) = some T[i] := by rw [at?_nat]; exact List.getElem?_eq_getElem hil
          have hin : T[i] ∈ U := (hm _).2 (List.getElem_mem hil)
          rw [if_pos (by simp; omega), e1]
          simp only [Option.bind_some]
          refine by_inl (has_b U T[i] (by omega) (by omega) _) ?_
          rw [if_neg (by simp [hin]), nat64 (by omega)]
          exact ⟨_, rfl, ⟨i + 1, rfl, by omega⟩, by simp only [Int.toNat_natCast]; omega⟩
      · subst ht
        rfl
end Go.L
namespace Go.L
open Go.AM
set_option linter.unusedVariables false
theorem wf_u32 {n : Int} (h : (Go.Lit.int .u32 n).wf = true) : 0 ≤ n ∧ n < 4294967296 := by
  simp [Go.Lit.wf] at h
  have e1 : Go.IntKind.min .u32 = 0 := rfl
  have e2 : Go.IntKind.max .u32 = 4294967295 := rfl
  omega
theorem law_commTargets (l : List Int) (own : List Bool) {q1 : Prop} (h0 : ∀ a ∈ l, (Go.Lit.int .u32 a).wf = true) (h1 : q1) :
    FnVal prog 3 [.lst (l.map (eI .u32)), .lst (own.map eB)] (.ret (.sc (.bool true))) :=
  c_law03_CommTargets.ok 500 (l, own) true (law_run 500 (by decide) l own fun x hx => wf_u32 (h0 x hx))
end Go.L
namespace Go.Proofs.YtfgigcdbcbgpoaaDoor.commTargets
open Go.ChangeShapes Go.WideShapes Go.ChangeAt Go.RowKit Go.AM Go.L
set_option linter.unusedVariables false

def kv : List Value := [(1, 0, 2), (2, 3, 12), (3, 6, 0), (4, 6, 1), (5, 6, 2), (6, 6, 3), (7, 6, 6)].flatMap fun (p : Int × Int × Int) => [.int .i64 p.1, .int .u8 p.2.1, .int .u8 p.2.2]
def kk : List Kd := (List.replicate 7 [.int .i64, .int .u8, .int .u8]).flatten
theorem globsOk {W : World} (h : laidMet Tryd.prog Rows.commTargetsRow.laid W) : GlobsOk (Gh.bare W) W := by
  refine globs_one (P := Tryd.prog) (name := "leafmesh/comm.kinds") (g := 0) (vs := kv) (by kernel_rfl) (laid_cells (g := 0) (t := 104) (ks := kk) (by kernel_rfl) (by kernel_rfl) (by kernel_rfl) (by kernel_rfl) h) (by kernel_rfl) fun i cs hi => ?_
  match i, hi with
  | 0, hi => exact ⟨rfl, (Option.some.inj hi).symm⟩
theorem own : ownKnob Tryd.prog.godebug = none := by kernel_rfl
theorem slices : ((List.range Tryd.prog.types.size).all fun t => match Tryd.prog.underlying t with | some (.slice e) => decide (0 < Tryd.prog.cellsOf e) | _ => true) = true := by kernel_rfl
theorem maps : mapsRowed Tryd.prog = true := by kernel_rfl
theorem inTable : (Tryd.f3.params.toList.all fun t => Nat.ble (t + 1) Tryd.prog.types.size) = true := by kernel_rfl
set_option maxRecDepth 100000 in
theorem contract (H : Type) (enc : TypeId × Value → H) (W : World) (base : Nat) (args : Array Value) (ds gs : List (DataW H)) (before : List MemPlace)
    (hval : ∀ (j : Nat) t v, Tryd.f3.params[j]? = some t → args[j]? = some v → Value.okWide Tryd.prog W .any base t v)
    (hW : DataW.Whole enc Tryd.prog Tryd.f3.params.toList Rows.commTargetsSpec.vars false W args.toList ds gs before) (hL : laidMetH Tryd.prog Rows.commTargetsRow.laid W) :
    Calls Tryd.prog 3 args W fun e W' => ∃ v, e = .returned v ∧ Rows.commTargetsSpec.post enc Tryd.prog Tryd.f3 false true false false W args v W' := by
  have hW' := hW
  have hlt := hW.lt
  obtain ⟨p, q, hA0, hV, rfl, hfz, hnd⟩ := hW
  have hA : DataW.TrodAll enc Tryd.prog W 0 (fun _ => true) true Tryd.f3.params.toList args.toList ds p := hA0
  clear hA0
  have hAll := hA
  rw [Tryd.params3] at hA hval
  obtain ⟨v0, r0, d0, e0, p0, q0, hv0, hd0, hp0, t0, hA⟩ := trodAll_cons hA
  obtain ⟨v1, r1, d1, e1, p1, q1, hv1, hd1, hp1, t1, hA⟩ := trodAll_cons hA
  obtain ⟨hr, hd, hq⟩ := trodAll_nil hA
  obtain rfl : args = #[v0, v1] := by apply Array.ext'; simp only [hv0, hv1, hr]
  obtain rfl : ds = [d0, d1] := by simp only [hd0, hd1, hd]
  obtain ⟨rfl, rfl⟩ := trodVars_none hV
  simp only [List.append_nil] at hW' hlt
  obtain ⟨a0, ok0, ra0⟩ := Rdb.cell (c := (cL (eI .u32))) (Rdb.slice Tryd.underlying22 (by kernel_rfl) (by kernel_rfl) (Rdb.int Tryd.underlying27 (by kernel_rfl))) (by kernel_rfl) (hval 0 _ _ rfl rfl) t0
  obtain ⟨a1, ok1, ra1⟩ := Rdb.cell (c := (cL eB)) (Rdb.slice Tryd.underlying23 (by kernel_rfl) (by kernel_rfl) (Rdb.bool Tryd.underlying4 (by kernel_rfl))) (by kernel_rfl) (hval 1 _ _ rfl rfl) t1
  refine (law_top (law_commTargets a0 a1 ok0 ok1) W (globsOk hL) _ ⟨_, _, rfl, ra0, ⟨_, _, rfl, ra1, rfl⟩⟩).mono fun e W' ⟨he, hg⟩ => ?_
  subst he
  exact ⟨_, rfl, post_of_below (pa := p) (pv := []) hW' (fun _ _ _ => (trodAll_cons_mk (shut_bool Tryd.underlying4 _) trodAll_mk0))
    (fun sp hsp => trodAll_kept laid maps (slices_full_of _ slices) hg (fun t ht => Nat.le_of_ble_eq_true (List.all_eq_true.1 inTable t ht)) hAll hlt hsp) (fun _ _ => rfl) (by simp)
    hg (ok_one (by kernel_rfl) rfl (okWide_bool_mk Tryd.underlying4 _))⟩

/-- A world for the witness: the settled one, the variable holding what its initialiser lays. -/
noncomputable def laidWorld (os : Os) : World :=
  { World.holding Tryd.prog os ⟨#[], #[.slice none 0 0, .slice none 0 0], []⟩ with heap := (World.holding Tryd.prog os ⟨#[], #[.slice none 0 0, .slice none 0 0], []⟩).heap.modify 0 fun
      | .cells _ t frozen => .cells kv.toArray t frozen
      | o => o }
theorem laid_met (os : Os) : laidMet Tryd.prog Rows.commTargetsRow.laid ((laidWorld os).forCall (fun _ _ => 0) ⟨#[], #[.slice none 0 0, .slice none 0 0], []⟩).memory :=
  laidMet_of_run' 8 (by kernel_rfl) (by kernel_rfl)
theorem reads (os : Os) {H : Type} (enc : TypeId × Value → H) : ∃ x, DataW.whole enc Tryd.prog ((laidWorld os).forCall (fun _ _ => 0) ⟨#[], #[.slice none 0 0, .slice none 0 0], []⟩).memory Tryd.f3.params.toList Rows.commTargetsSpec.vars false (#[.slice none 0 0, .slice none 0 0] : Array Value).toList 8 = some x := by
  have h : (DataW.whole enc Tryd.prog ((laidWorld os).forCall (fun _ _ => 0) ⟨#[], #[.slice none 0 0, .slice none 0 0], []⟩).memory Tryd.f3.params.toList Rows.commTargetsSpec.vars false (#[.slice none 0 0, .slice none 0 0] : Array Value).toList 8).isSome = true := by kernel_rfl
  exact Option.isSome_iff_exists.1 h

set_option maxRecDepth 100000 in
theorem lifted (os : Os) (started : os.Started) (H : Type) (enc : TypeId × Value → H) (F : Stop.Interp) :
    ReturnsInHanded {} Tryd.checked os 3 .any ((OpenSpec.ofChange Rows.commTargetsSpec).preRow enc Tryd.prog Tryd.f3 Rows.commTargetsRow.domain false Rows.commTargetsRow.laid) (((OpenSpec.ofChange Rows.commTargetsSpec).at F).post enc Tryd.prog Tryd.f3 false true false false) := by
  obtain ⟨x, hx⟩ := reads os enc
  refine returnsInHanded_of_row (C := Tryd.checked) (s := OpenSpec.ofChange Rows.commTargetsSpec) own started (by kernel_rfl) Tryd.func3
    (witness_row_at (enc := enc) (C := Tryd.checked) false (laidWorld os) #[.slice none 0 0, .slice none 0 0] rfl (by kernel_rfl) (by kernel_rfl) (by kernel_rfl)
      (OpenSpec.preRow_of_cond 8 hx (by kernel_rfl) (fun k hk => by cases hk) (by kernel_rfl) (laid_met os))) ?_
  intro W base args ds gs before hval hW _ _ _ hL _ _
  exact contract H enc W base args ds gs before hval hW hL

theorem said : Rows.CommTargetsSaid :=
  OpenClaim.holds_of_cond 3 Tryd.f3 rfl rfl rfl rfl rfl rfl rfl ⟨rfl, rfl, rfl, rfl, rfl⟩ rfl rfl rfl rfl rfl (by kernel_rfl) Tryd.func3 (by kernel_rfl)
    (of_decide_eq_true (by kernel_rfl)) (by unfold Func.isWrapper; first | (rw [if_pos (by decide +kernel)]; kernel_rfl) | (rw [if_neg (by decide +kernel)]; exact ⟨rfl, rfl⟩))
    (fun os started H enc _ F => by rw [OpenClaim.pre_eq_preRow]; exact lifted os started H enc F)

theorem noStand : (Tryd.f3.params.toList.all fun t => !Tryd.prog.wantsStandIn t) = true := by kernel_rfl
theorem plain (f : FuncId) (fn : Func) (hf : Tryd.pinned.checked.prog.funcNamed Rows.commTargetsRow.func = some f) (hfn : Tryd.pinned.checked.prog.funcs[f]? = some fn) :
    false = Tryd.pinned.checked.prog.looks [] ∧ ∀ (j : Nat) t, fn.params[j]? = some t → Tryd.pinned.checked.prog.wantsStandIn t = false := by
  obtain rfl : f = 3 := Option.some.inj ((show Tryd.prog.funcNamed Rows.commTargetsRow.func = some 3 by kernel_rfl).symm.trans hf) |>.symm
  obtain rfl : fn = Tryd.f3 := (Option.some.inj (Tryd.func3.symm.trans hfn)).symm
  refine ⟨by kernel_rfl, fun j t ht => ?_⟩
  have := List.all_eq_true.1 noStand t (Array.mem_toList_iff.2 (Array.mem_of_getElem? ht))
  have h2 : Tryd.prog.wantsStandIn t = false := by simpa using this
  exact h2

theorem card : Rows.CommTargetsCardSaid :=
  Claim7.holds_tied_plain_at .later [] _ _ _ _ said (fun _ h => by cases h) (by kernel_rfl) (fun _ h => by cases h) commTargets_row_tie rfl ⟨rfl, rfl⟩ (by kernel_rfl) rfl plain (by kernel_rfl)
end Go.Proofs.YtfgigcdbcbgpoaaDoor.commTargets
