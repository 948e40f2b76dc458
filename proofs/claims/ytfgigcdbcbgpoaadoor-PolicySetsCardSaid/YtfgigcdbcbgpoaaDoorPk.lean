/- A permitted route is changed as the matching rule says: PolicySets returns true for every input; the card, tied to the program's text. No conditions. -/
import Derived.Test.YtfgigcdbcbgpoaaDoorWq
import Derived.Test.YtfgigcdbcbgpoaaDoorSs
import Derived.Sort.Walk0
import Derived.Laws.Strings
import Derived.Test.YtfgigcdbcbgpoaaDoorMm
import Derived.Test.YtfgigcdbcbgpoaaDoorQs
import Derived.Test.YtfgigcdbcbgpoaaDoorAmPl
import Derived.Test.YtfgigcdbcbgpoaaDoorRe
import Derived.Test.YtfgigcdbcbgpoaaDoorAmDr
import Derived.Test.YtfgigcdbcbgpoaaDoorRows
import Derived.Test.YtfgigcdbcbgpoaaDoorCards
import Derived.Test.YtfgigcdbcbgpoaaDoorTie
import Derived.Deep.DeepHandedRow
import Derived.Lib.LaidTab
/- What the reference of communities computes. No conditions. -/
namespace Go.L
open Go.AM Go.Sort
set_option maxRecDepth 100000
set_option linter.unusedSimpArgs false
set_option linter.unusedVariables false

section
variable {X β : Type}
theorem slcZ_bind (m n b ver o : Nat) (i : Int) (k : Unit → Option β) : (slcZ m n b ver o i).run.bind k = if i = 0 then k () else none := by
  show (if i = 0 then some () else none).bind k = _
  split <;> rfl
theorem slcE_bind (m n b ver o : Nat) (i : Int) (k : Unit → Option β) : (slcE m n b ver o i).run.bind k = if i = m ∧ 0 < m then k () else none := by
  show (if i = m ∧ 0 < m then some () else none).bind k = _
  split <;> rfl
theorem appS_bind (len : Nat) (l m : List X) (e : X → List AVal) (n by_ b ver nid : Nat) (ids : List Nat) (k : Unit → Option β) : (appS len l m e n by_ b ver nid ids).run.bind k = if len ≤ l.length ∧ roomy (len + m.length) by_ = true then k () else none := by
  show (if len ≤ l.length ∧ roomy (len + m.length) by_ = true then some () else none).bind k = _
  split <;> rfl
theorem appE_bind (len : Nat) (l l2 : List X) (b2 ver2 o2 n2 : Nat) (e : X → List AVal) (n by_ b ver nid : Nat) (k : Unit → Option β) : (appE len l l2 b2 ver2 o2 n2 e n by_ b ver nid).run.bind k = if (len = l.length ∧ o2 + n2 ≤ l2.length) ∧ roomy (l.length + n2) by_ = true then k () else none := by
  show (if (len = l.length ∧ o2 + n2 ≤ l2.length) ∧ roomy (l.length + n2) by_ = true then some () else none).bind k = _
  split <;> rfl
theorem appF_bind (len : Nat) (l l2 : List X) (b2 ver2 o2 n2 : Nat) (e : X → List AVal) (n by_ b ver nid : Nat) (k : Unit → Option β) : (appF len l l2 b2 ver2 o2 n2 e n by_ b ver nid).run.bind k = if (len ≤ l.length ∧ o2 + n2 ≤ l2.length) ∧ roomy (len + n2) by_ = true then k () else none := by
  show (if (len ≤ l.length ∧ o2 + n2 ≤ l2.length) ∧ roomy (len + n2) by_ = true then some () else none).bind k = _
  split <;> rfl
end

theorem ins_strict {α : Type} (lt : α → α → Prop) (tr : ∀ a b c, lt a b → lt b c → lt a c) {out : List α} {x : α} {k : Nat} (hk : k ≤ out.length) (hp : out.Pairwise lt) (hlo : ∀ j (h : j < out.length), j < k → lt out[j] x) (hhi : ∀ h : k < out.length, lt x out[k]) :
    (out.take k ++ x :: out.drop k).Pairwise lt := by
  have hi : ∀ y ∈ out.drop k, lt x y := fun y hy => by
    obtain ⟨i, h1, rfl⟩ := List.getElem_of_mem hy
    simp only [List.length_drop] at h1
    rw [List.getElem_drop]
    by_cases h0 : i = 0
    · subst h0; exact hhi (by omega)
    · exact tr _ _ _ (hhi (by omega)) (List.pairwise_iff_getElem.1 hp k (k + i) (by omega) (by omega) (by omega))
  rw [List.pairwise_append]
  refine ⟨hp.sublist (List.take_sublist _ _), List.pairwise_cons.2 ⟨hi, hp.sublist (List.drop_sublist _ _)⟩, fun a ha b hb => ?_⟩
  obtain ⟨j, h1, rfl⟩ := List.getElem_of_mem ha
  simp only [List.length_take] at h1
  rw [List.getElem_take]
  have hax := hlo j (by omega) (by omega)
  rcases List.mem_cons.1 hb with rfl | hb
  · exact hax
  · exact tr _ _ _ hax (hi b hb)
theorem ins_mem {α : Type} {out : List α} {x y : α} (k : Nat) : y ∈ out.take k ++ x :: out.drop k ↔ y = x ∨ y ∈ out := by
  rw [List.mem_append, List.mem_cons]
  conv => rhs; rw [← List.take_append_drop k out, List.mem_append]
  constructor
  · rintro (h | h | h); exact .inr (.inl h); exact .inl h; exact .inr (.inr h)
  · rintro (h | h | h); exact .inr (.inl h); exact .inl h; exact .inr (.inr h)

def cmpL : List Int → List Int → Int
  | a :: ar, b :: br => if a < b then -1 else if a > b then 1 else cmpL ar br
  | _, _ => 0
def inB (x : Int) : Prop := 0 ≤ x ∧ x < 256
theorem byte_lt {a b : Int} (ha : inB a) (hb : inB b) : UInt8.ofNat a.toNat < UInt8.ofNat b.toNat ↔ a < b := by
  rw [UInt8.lt_iff_toNat_lt]
  simp only [UInt8.toNat_ofNat']
  obtain ⟨h1, h2⟩ := ha
  obtain ⟨h3, h4⟩ := hb
  omega
theorem cmpL_neg : ∀ (a b : List Int), a.length = b.length → (∀ x ∈ a, inB x) → (∀ x ∈ b, inB x) → (cmpL a b < 0 ↔ Lib.bytesOf a < Lib.bytesOf b)
  | [], [], _, _, _ => by simp [cmpL, Lib.bytesOf]
  | a :: ar, b :: br, hl, ha, hb => by
    simp only [Lib.bytesOf, List.map_cons, List.cons_lt_cons_iff]
    have h1 := byte_lt (ha a (by simp)) (hb b (by simp))
    have h2 := byte_lt (hb b (by simp)) (ha a (by simp))
    have ih := cmpL_neg ar br (by simpa using hl) (fun x hx => ha x (by simp [hx])) fun x hx => hb x (by simp [hx])
    simp only [Lib.bytesOf] at ih
    rw [cmpL]
    by_cases h : a < b
    · rw [if_pos h]; simp [h1.2 h]
    · rw [if_neg h]
      by_cases h' : a > b
      · rw [if_pos h']
        have n1 : ¬ UInt8.ofNat a.toNat < UInt8.ofNat b.toNat := fun q => h (h1.1 q)
        have n2 : UInt8.ofNat a.toNat ≠ UInt8.ofNat b.toNat := fun q => by have := h2.2 h'; rw [q] at this; exact absurd this (UInt8.lt_irrefl _)
        simp [n1, n2]
      · rw [if_neg h']
        have he : a = b := by omega
        subst he
        simp [ih]
theorem okC_all {x : V8 Int} (h : okC x) : ∀ y ∈ [x.a0, x.a1, x.a2, x.a3, x.a4, x.a5, x.a6, x.a7], inB y := by
  obtain ⟨h0, h1, h2, h3, h4, h5, h6, h7⟩ := h
  intro y hy
  simp only [List.mem_cons, List.not_mem_nil, or_false] at hy
  rcases hy with rfl | rfl | rfl | rfl | rfl | rfl | rfl | rfl <;> assumption
theorem compare_run (n : Nat) (a b : V8 Int) : c_ref03_Compare.S n (a, b) = some (cmpL [a.a0, a.a1, a.a2, a.a3, a.a4, a.a5, a.a6, a.a7] [b.a0, b.a1, b.a2, b.a3, b.a4, b.a5, b.a6, b.a7]) := by
  show (g_ref03_Compare a b).run n = _
  simp only [g_ref03_Compare, G.run, tsOk, if_true, cmpL, decide_eq_true_eq]
  have e : ∀ (c : Prop) [Decidable c] (x y : Int), (some (if c then x else y) : Option Int) = if c then some x else some y := fun c _ x y => by split <;> rfl
  simp only [e]
  rfl
theorem compare_b {n : Nat} (a b : V8 Int) {β : Type} (k : c_ref03_Compare.sh.El → Option β) : (c_ref03_Compare.S n (a, b)).bind k = k (cmpL [a.a0, a.a1, a.a2, a.a3, a.a4, a.a5, a.a6, a.a7] [b.a0, b.a1, b.a2, b.a3, b.a4, b.a5, b.a6, b.a7]) := by rw [compare_run]; rfl

theorem sortU_nil : sortU [] = [] := List.eq_nil_of_length_eq_zero (Nat.le_zero.1 (sortU_len []))
theorem inl_ex {σ τ : Type} {x : Option (σ ⊕ τ)} {B : σ → Prop} (h : ∃ r, x = some r ∧ ∃ s', r = Sum.inl s' ∧ B s') : ∃ s', x = some (.inl s') ∧ B s' := by
  obtain ⟨r, h1, t, rfl, h2⟩ := h; exact ⟨t, h1, h2⟩
theorem by_inlD {σ τ : Type} {X o : Option (σ ⊕ τ)} {B : σ → Prop} (h : X = o) (h2 : ∃ s', o = some (.inl s') ∧ B s') : ∃ s', X = some (.inl s') ∧ B s' := h ▸ h2
theorem by_inrD {σ τ : Type} {X o : Option (σ ⊕ τ)} {B : τ → Prop} (h : X = o) (h2 : ∃ s', o = some (.inr s') ∧ B s') : ∃ s', X = some (.inr s') ∧ B s' := h ▸ h2
theorem refSort_run (M : Nat) (l : List (V8 Int)) (hl : l.length < 100000) (hM : l.length + 3 < M) (hok : ∀ x ∈ l, okC x) : c_ref03_Sort.S M l = some (sortU l) := by
  show (g_ref03_Sort l).run M = _
  simp only [g_ref03_Sort, G.run, tsOk, if_true, lenO_bind, idxO_bind, idxS_bind, ldO_bind, slcH_bind, slcL_bind, slcZ_bind, slcE_bind, appS_bind, appE_bind, appF_bind, eqV8, eqz, ltn]
  refine bind_ex (I := fun s => ∃ i : Nat, s = ((i : Int), sortU (l.take i)) ∧ i ≤ l.length) (m := fun s => l.length - s.1.toNat) (Q := fun (t : List (V8 Int)) => t = sortU l) ⟨0, by rw [List.take_zero, sortU_nil]; rfl, Nat.zero_le _⟩ (by simp; omega) (fun s hs => ?_) (fun t ht => ?_)
  · obtain ⟨i, rfl, hi⟩ := hs
    by_cases he : i = l.length
    · left
      subst he
      rw [if_neg (by simp)]
      exact ⟨_, rfl, by rw [List.take_length]⟩
    · right
      have hil : i < l.length := by omega
      have e1 : at? l (i : Int) = some l[i] := by rw [at?_nat]; exact List.getElem?_eq_getElem hil
      have okT : ∀ x ∈ l.take i, okC x := fun x hx => hok x (List.mem_of_mem_take hx)
      have okx : okC l[i] := hok _ (List.getElem_mem hil)
      have hst := sortU_strict _ okT
      have hmem := sortU_mem (l.take i)
      have hlen := sortU_len (l.take i)
      have hnew : ∀ out', out'.Pairwise (fun a b => byV8 a < byV8 b) → (∀ y, y ∈ out' ↔ y = l[i] ∨ y ∈ sortU (l.take i)) → out' = sortU (l.take (i + 1)) := fun out' h1 h2 => by
        refine sortU_ext _ (fun x hx => hok x (List.mem_of_mem_take hx)) h1 fun y => ?_
        rw [h2, hmem, List.take_add_one, List.mem_append, List.getElem?_eq_getElem hil]
        simp [or_comm]
      have okO : ∀ x ∈ sortU (l.take i), okC x := fun x hx => okT x ((hmem x).1 hx)
      simp only [List.length_take] at hlen
      generalize sortU (l.take i) = out at *
      rw [if_pos (by simp; omega), e1]
      simp only [Option.bind_some]
      refine inl_ex (bind_exP (I := fun s => ∃ j : Nat, s = (j : Int) ∧ j ≤ out.length ∧ ∀ q (h : q < out.length), q < j → byV8 out[q] < byV8 l[i]) (m := fun s => out.length - s.toNat) (Q := fun (t : Int) => ∃ k : Nat, t = (k : Int) ∧ k ≤ out.length ∧ (∀ q (h : q < out.length), q < k → byV8 out[q] < byV8 l[i]) ∧ ∀ h : k < out.length, ¬ byV8 out[k] < byV8 l[i])
        ⟨0, rfl, Nat.zero_le _, fun q _ h => absurd h (Nat.not_lt_zero _)⟩ (by show out.length - (0 : Int).toNat < M; omega) (fun s hs => ?_) (fun t ht => ?_))
      · obtain ⟨j, rfl, hj, hlo⟩ := hs
        by_cases hjl : j < out.length
        · have c1 := cmpL_neg [out[j].a0, out[j].a1, out[j].a2, out[j].a3, out[j].a4, out[j].a5, out[j].a6, out[j].a7] [l[i].a0, l[i].a1, l[i].a2, l[i].a3, l[i].a4, l[i].a5, l[i].a6, l[i].a7] rfl (okC_all (okO _ (List.getElem_mem hjl))) (okC_all okx)
          rw [if_pos (by simp; omega), if_pos (by omega), Int.toNat_natCast, List.getElem?_eq_getElem hjl]
          simp only [Option.bind_some]
          by_cases hc : byV8 out[j] < byV8 l[i]
          · right
            refine by_inlD (compare_b _ _ _) ?_
            rw [if_pos (by simpa using c1.2 hc), W_eq (x := (j : Int) + 1) (n := j + 1) (by omega) (by omega)]
            refine ⟨_, rfl, ⟨j + 1, rfl, by omega, fun q h hq => ?_⟩, by simp only [Int.toNat_natCast]; omega⟩
            by_cases e : q = j
            · subst e; exact hc
            · exact hlo q h (by omega)
          · left
            refine by_inrD (compare_b _ _ _) ?_
            rw [if_neg (by simpa using mt c1.1 hc)]
            exact ⟨_, rfl, j, rfl, hj, hlo, fun _ => hc⟩
        · left
          rw [if_neg (by simp; omega)]
          exact ⟨_, rfl, j, rfl, hj, hlo, fun h => absurd h hjl⟩
      · obtain ⟨k, rfl, hk, hlo, hhi⟩ := ht
        have w1 : Go.IntKind.wrap .i64 ((i : Int) + 1) = ((i + 1 : Nat) : Int) := W_eq (by omega) (by omega)
        simp only [slcH_bind, slcL_bind, slcZ_bind, slcE_bind, idxS_bind, w1, Int.toNat_natCast, decide_eq_true_eq]
        have fin : ∀ out', out' = sortU (l.take (i + 1)) → ∃ r : (Int × List (V8 Int)) ⊕ List (V8 Int), some (Sum.inl (((i + 1 : Nat) : Int), out')) = some r ∧ ∃ s', r = Sum.inl s' ∧ (∃ i : Nat, s' = ((i : Int), sortU (l.take i)) ∧ i ≤ l.length) ∧ l.length - s'.1.toNat < l.length - ((i : Int)).toNat := fun out' h => by
          subst h
          exact ⟨_, rfl, _, rfl, ⟨i + 1, rfl, by omega⟩, by simp only [Int.toNat_natCast]; omega⟩
        by_cases hkl : k = out.length
        · subst hkl
          rw [if_pos (by simp), if_pos (by omega)]
          have hins : out ++ [l[i]] = sortU (l.take (i + 1)) := hnew _ (by
            have := ins_strict (fun a b : V8 Int => byV8 a < byV8 b) (fun a b c => List.lt_trans) (Nat.le_refl _) hst hlo (fun h => absurd h (Nat.lt_irrefl _))
            simpa using this) (fun y => by simp [or_comm])
          by_cases h0 : out.length = 0
          · have : out = [] := List.eq_nil_of_length_eq_zero h0
            subst this
            rw [if_pos (by simp), if_pos (by simp), if_pos ⟨⟨rfl, by simp⟩, by simp [roomy]⟩, if_pos ⟨⟨by simp, by simp⟩, by simp [roomy]⟩]
            exact fin _ (by simpa using hins)
          · rw [if_neg (by omega), if_neg (by omega), if_pos (by omega), if_pos ⟨Nat.le_refl _, by simp [roomy]; omega⟩]
            exact fin _ (by simpa using hins)
        · have hlt : k < out.length := by omega
          rw [if_neg (by simp; omega), if_pos (by omega), List.getElem?_eq_getElem hlt]
          simp only [Option.bind_some]
          by_cases hx : out[k] = l[i]
          · rw [if_neg (by simpa using hx)]
            exact fin _ (hnew _ hst fun y => ⟨.inr, fun h => by rcases h with rfl | h; rw [← hx]; exact List.getElem_mem hlt; exact h⟩)
          · have hgt : byV8 l[i] < byV8 out[k] := by
              refine Decidable.byContradiction fun hc => hx (byV8_inj (okO _ (List.getElem_mem hlt)) okx (List.le_antisymm (List.not_lt.1 hc) (List.not_lt.1 (hhi hlt))))
            have hins : out.take k ++ l[i] :: out.drop k = sortU (l.take (i + 1)) := hnew _ (ins_strict (fun a b : V8 Int => byV8 a < byV8 b) (fun a b c => List.lt_trans) (by omega) hst hlo (fun _ => hgt)) (fun y => ins_mem k)
            rw [if_pos (by simpa using hx), if_pos (by omega)]
            have hd : List.take (out.length - k) (List.drop k out) = List.drop k out := List.take_of_length_le (by simp)
            by_cases h0 : k = 0
            · subst h0
              rw [if_pos (by omega), if_pos (by omega), if_pos ⟨⟨rfl, by omega⟩, by simp [roomy]; omega⟩, if_pos ⟨⟨by omega, by omega⟩, by simp [roomy]; omega⟩]
              exact fin _ (by simpa using hins)
            · rw [if_neg (by omega), if_pos (by omega), if_pos (by omega), if_pos ⟨⟨rfl, by omega⟩, by simp [roomy]; omega⟩, if_pos ⟨⟨by omega, by omega⟩, by simp [roomy]; omega⟩]
              exact fin _ (by rw [Nat.zero_add, hd, List.drop_zero, List.take_length]; exact hins)
  · subst ht
    exact if_pos (by simp [fzRow])
end Go.L
/- Has and Same on communities. No conditions. -/
namespace Go.L
open Go.AM Go.Sort Go.Proofs
set_option maxRecDepth 100000
set_option linter.unusedSimpArgs false
set_option linter.unusedVariables false
theorem hasC_run (M : Nat) (l : List (V8 Int)) (x : V8 Int) (hl : l.length < 100000) (hN : l.length + 1 < M) : c_kit_Has_Comm.S M (l, x) = some (decide (x ∈ l)) := by
  show (g_kit_Has_Comm l x).run M = _
  simp only [g_kit_Has_Comm, G.run, tsOk, if_true, lenO_bind, idxO_bind, eqV8]
  refine bind_ex (I := fun s => ∃ i : Nat, s = (i : Int) ∧ i ≤ l.length ∧ ∀ j, j < i → l[j]? ≠ some x) (m := fun s => l.length - s.toNat) (Q := fun t => (t = .inl () ∧ x ∈ l) ∨ (t = .inr () ∧ x ∉ l)) ⟨0, rfl, Nat.zero_le _, fun j hj => absurd hj (Nat.not_lt_zero _)⟩ (by simp; omega) (fun s hs => ?_) (fun t ht => ?_)
  · obtain ⟨i, rfl, hi, hno⟩ := hs
    by_cases he : i = l.length
    · left
      subst he
      rw [if_neg (by simp)]
      refine ⟨_, rfl, .inr ⟨rfl, fun h => ?_⟩⟩
      obtain ⟨j, h1, h2⟩ := List.getElem_of_mem h
      exact hno j h1 (by rw [List.getElem?_eq_getElem h1, h2])
    · have hil : i < l.length := by omega
      have e1 : at? l (i : Int) = some l[i] := by rw [at?_nat]; exact List.getElem?_eq_getElem hil
      rw [if_pos (by simp; omega), e1]
      simp only [Option.bind_some, W_eq (x := (i : Int) + 1) (n := i + 1) (by omega) (by omega)]
      by_cases hx : l[i] = x
      · left
        rw [if_pos (by simpa using hx)]
        exact ⟨_, rfl, .inl ⟨rfl, by rw [← hx]; exact List.getElem_mem hil⟩⟩
      · right
        rw [if_neg (by simpa using hx)]
        refine ⟨_, rfl, ⟨i + 1, rfl, by omega, fun j hj => ?_⟩, by simp only [Int.toNat_natCast]; omega⟩
        by_cases hji : j = i
        · subst hji; rw [List.getElem?_eq_getElem hil]; simpa using hx
        · exact hno j (by omega)
  · rcases ht with ⟨rfl, h⟩ | ⟨rfl, h⟩
    · rw [decide_eq_true h]; rfl
    · rw [decide_eq_false h]; rfl
theorem hasC_b {M : Nat} (l : List (V8 Int)) (x : V8 Int) (hl : l.length < 100000) (hN : l.length + 1 < M) {β : Type} (k : c_kit_Has_Comm.sh.El → Option β) : (c_kit_Has_Comm.S M (l, x)).bind k = k (decide (x ∈ l)) := by
  rw [hasC_run M l x hl hN]; rfl

theorem sameC_run (M : Nat) (a b : List (V8 Int)) (hl : a.length < 100000) (hN : a.length + 1 < M) : c_kit_Same_Comm.S M (a, b) = some (decide (a = b)) := by
  show (g_kit_Same_Comm a b).run M = _
  simp only [g_kit_Same_Comm, G.run, tsOk, if_true, lenO_bind, idxO_bind, eqV8]
  by_cases hlen : a.length = b.length
  · rw [if_neg (by simp; omega)]
    refine bind_ex (I := fun s => ∃ i : Nat, s = (i : Int) ∧ i ≤ a.length ∧ ∀ j, j < i → a[j]? = b[j]?) (m := fun s => a.length - s.toNat) (Q := fun t => (t = .inl () ∧ a ≠ b) ∨ (t = .inr () ∧ a = b)) ⟨0, rfl, Nat.zero_le _, fun j hj => absurd hj (Nat.not_lt_zero _)⟩ (by simp; omega) (fun s hs => ?_) (fun t ht => ?_)
    · obtain ⟨i, rfl, hi, hno⟩ := hs
      by_cases he : i = a.length
      · left
        subst he
        rw [if_neg (by simp)]
        refine ⟨_, rfl, .inr ⟨rfl, ?_⟩⟩
        apply List.ext_getElem?
        intro j
        by_cases hj : j < a.length
        · exact hno j hj
        · rw [List.getElem?_eq_none (by omega), List.getElem?_eq_none (by omega)]
      · have hil : i < a.length := by omega
        have hib : i < b.length := by omega
        have e1 : at? a (i : Int) = some a[i] := by rw [at?_nat]; exact List.getElem?_eq_getElem hil
        have e2 : at? b (i : Int) = some b[i] := by rw [at?_nat]; exact List.getElem?_eq_getElem hib
        rw [if_pos (by simp; omega), e1, e2]
        simp only [Option.bind_some, W_eq (x := (i : Int) + 1) (n := i + 1) (by omega) (by omega)]
        by_cases hx : a[i] = b[i]
        · right
          rw [if_neg (by simpa using hx)]
          refine ⟨_, rfl, ⟨i + 1, rfl, by omega, fun j hj => ?_⟩, by simp only [Int.toNat_natCast]; omega⟩
          by_cases hji : j = i
          · subst hji; rw [List.getElem?_eq_getElem hil, List.getElem?_eq_getElem hib, hx]
          · exact hno j (by omega)
        · left
          rw [if_pos (by simpa using hx)]
          exact ⟨_, rfl, .inl ⟨rfl, fun e => hx (by subst e; rfl)⟩⟩
    · rcases ht with ⟨rfl, h⟩ | ⟨rfl, h⟩
      · rw [decide_eq_false h]; rfl
      · rw [decide_eq_true h]; rfl
  · rw [if_pos (by simp; omega), decide_eq_false (fun e => hlen (by rw [e]))]
    rfl
theorem sameC_b {M : Nat} (a b : List (V8 Int)) (hl : a.length < 100000) (hN : a.length + 1 < M) {β : Type} (k : c_kit_Same_Comm.sh.El → Option β) : (c_kit_Same_Comm.S M (a, b)).bind k = k (decide (a = b)) := by
  rw [sameC_run M a b hl hN]; rfl

end Go.L
/- The plain law of PolicySets. No conditions. -/
namespace Go.L
open Go.AM Go.Sort
set_option maxRecDepth 100000
set_option linter.unusedVariables false
set_option linter.unusedSimpArgs false
theorem m1_all {N : Nat} {x1 x2 x3 x4 x5 x6 x7 x8 x9 x10 x11 x12 x13 x14 x15 x16 x17 x18 x19 x20 x21 x22 x23 x24 x25 x26 x27 x28 x29 x30 x31 x32 x33 x34 x35 x36 x37 x38 x39 x40 x41 x42 x43 x44 x45 x46 x47 x48 x49 x50 x51 x52 x53} (h : x1 = []) : AnsG N (g_policy_matches_1 x1 x2 x3 x4 x5 x6 x7 x8 x9 x10 x11 x12 x13 x14 x15 x16 x17 x18 x19 x20 x21 x22 x23 x24 x25 x26 x27 x28 x29 x30 x31 x32 x33 x34 x35 x36 x37 x38 x39 x40 x41 x42 x43 x44 x45 x46 x47 x48 x49 x50 x51 x52 x53) fun (b : Bool) => b = true := by
  subst h
  unfold g_policy_matches_1
  exact .skip (.op () rfl (.skip (.br (fun _ => .skip (.done rfl rfl)) fun h => by simp at h)))
theorem m2_all {N : Nat} {x1 x2 x3 x4 x5 x6 x7 x8 x9 x10 x11 x12 x13 x14 x15 x16} (h : x2 = []) : AnsG N (g_policy_matches_2 x1 x2 x3 x4 x5 x6 x7 x8 x9 x10 x11 x12 x13 x14 x15 x16) fun (b : Bool) => b = true := by
  subst h
  unfold g_policy_matches_2
  exact .skip (.op () rfl (.skip (.br (fun _ => .skip (.done rfl rfl)) fun h => by simp at h)))
theorem m3_all {N : Nat} {x1 x2 x3 x4 x5 x6 x7 x8 x9 x10 x11 x12 x13 x14 x15 x16 x17 x18 x19 x20 x21 x22 x23 x24 x25 x26 x27 x28 x29 x30 x31 x32 x33 x34 x35 x36 x37 x38 x39 x40 x41 x42 x43 x44 x45 x46 x47 x48 x49 x50 x51 x52 x53} (h : x3 = 0) : AnsG N (g_policy_matches_3 x1 x2 x3 x4 x5 x6 x7 x8 x9 x10 x11 x12 x13 x14 x15 x16 x17 x18 x19 x20 x21 x22 x23 x24 x25 x26 x27 x28 x29 x30 x31 x32 x33 x34 x35 x36 x37 x38 x39 x40 x41 x42 x43 x44 x45 x46 x47 x48 x49 x50 x51 x52 x53) fun (b : Bool) => b = true := by
  subst h
  unfold g_policy_matches_3
  exact .skip (.br (fun _ => .skip (.done rfl rfl)) fun h => by simp at h)
theorem m4_all {N : Nat} {x1 x2 x3 x4 x5 x6 x7 x8 x9 x10 x11 x12 x13 x14 x15 x16 x17 x18 x19 x20 x21 x22 x23 x24 x25 x26 x27 x28 x29 x30 x31 x32 x33 x34 x35 x36 x37 x38 x39 x40 x41 x42 x43 x44 x45 x46 x47 x48 x49 x50 x51 x52 x53} (h : x4 = false) : AnsG N (g_policy_matches_4 x1 x2 x3 x4 x5 x6 x7 x8 x9 x10 x11 x12 x13 x14 x15 x16 x17 x18 x19 x20 x21 x22 x23 x24 x25 x26 x27 x28 x29 x30 x31 x32 x33 x34 x35 x36 x37 x38 x39 x40 x41 x42 x43 x44 x45 x46 x47 x48 x49 x50 x51 x52 x53) fun (b : Bool) => b = true := by
  subst h
  unfold g_policy_matches_4
  exact .skip (.br (fun _ => .skip (.done rfl rfl)) fun h => by simp at h)
theorem matches_all (N : Nat) (x : Rule) (r : Route) (t : List Int) (h1 : x.Kinds = []) (h2 : x.Targets = []) (h3 : x.Peer = 0) (h4 : x.HasPrefix = false) : Ans N (fun n => c_policy_matches.S n (x, r, t)) fun (b : Bool) => b = true := by
  refine (?_ : AnsG N (g_policy_matches x r t) _)
  unfold g_policy_matches
  refine .skip (.unroll (.skip (.call _ (m1_all h1) fun b hb => .skip (.br (fun h => by rw [hb] at h; cases h) fun _ => .skip ?_))))
  refine .call _ (m2_all h2) fun b hb => .skip (.br (fun h => by rw [hb] at h; cases h) fun _ => .skip ?_)
  refine .call _ (m3_all h3) fun b hb => .skip (.br (fun h => by rw [hb] at h; cases h) fun _ => .skip ?_)
  exact .call _ (m4_all h4) fun b hb => .skip (.br (fun h => by rw [hb] at h; cases h) fun _ => .skip (.done rfl rfl))
theorem mt_all (N : Nat) (x : Rule) (r : Route) (h1 : x.Kinds = []) (h2 : x.Targets = []) (h3 : x.Peer = 0) (h4 : x.HasPrefix = false) : mtS N r x = true := by
  obtain ⟨b, hb, h⟩ := matches_all N x r (tgs r) h1 h2 h3 h4
  subst hb
  exact congrArg (fun (o : Option Bool) => o.getD false) (h N (Nat.le_refl _))
theorem ownip_ans (N : Nat) (l : List Int) (h : l.length < 1000000) : Ans N (fun n => c_kit_Own_IP.S n l) fun (r : List Int) => r = l := by
  refine (?_ : AnsG N (g_kit_Own_IP l) _)
  unfold g_kit_Own_IP
  exact .skip (.op () (ifS ⟨rfl, by simp [roomy]; omega⟩) (.skip (.done (by simp [tsOk, fzRow]) rfl)))
theorem ownA_ans (N : Nat) (x : Attrs) (h1 : x.Path.length < 1000000) (h2 : x.Clusters.length < 1000000) (h3 : x.Comms.length < 1000000) : Ans N (fun n => c_kit_OwnAttrs.S n x) fun (r : Attrs) => r = x := by
  refine (?_ : AnsG N (g_kit_OwnAttrs x) _)
  unfold g_kit_OwnAttrs
  refine .skip (.call _ (ownu_ans N x.Path h1) fun a ha => .skip (.call _ (ownip_ans N x.Clusters h2) fun b hb => .skip (.call _ (ownc_ans N x.Comms h3) fun c hc => .skip (.done rfl ?_))))
  subst ha hb hc; rfl
theorem ownR_ans (N : Nat) (x : Route) (h : LtR x) : Ans N (fun n => c_kit_OwnRoute.S n x) fun (r : Route) => r = x := by
  refine (?_ : AnsG N (g_kit_OwnRoute x) _)
  unfold g_kit_OwnRoute
  obtain ⟨r1, r2, r3⟩ := h
  refine .skip (.call _ (ownA_ans N x.A (by omega) (by omega) (by omega)) fun a ha => .skip (.done rfl ?_))
  subst ha; rfl
theorem has_c (N : Nat) (l : List (V8 Int)) (x : V8 Int) (hl : l.length < 900) (hN : 1000 ≤ N) : Ans N (fun n => c_kit_Has_Comm.S n (l, x)) fun (b : Bool) => b = decide (x ∈ l) :=
  ⟨_, rfl, fun n hn => hasC_run n l x (by omega) (by omega)⟩
/-- The rule as the law takes it. -/
def litS (x : Rule) : Rule := Go.L.Rule.mk [] [] (0 : Int) false x.Prefix x.Ge x.Le true x.SetPref x.Pref x.SetMed x.Med x.Remove x.Add
theorem litS_lt {x : Rule} (h : LtX x) : LtX (litS x) := ⟨by simp [litS], by simp [litS], h.2.2.1, h.2.2.2⟩
theorem keep_mem {l rem : List (V8 Int)} {c : V8 Int} : c ∈ l.filter (keepC rem) ↔ c ∈ l ∧ c ∉ rem := by
  rw [List.mem_filter]; simp [keepC]
theorem edit_mem {l rem add : List (V8 Int)} {c : V8 Int} : c ∈ editS l rem add ↔ (c ∈ l ∧ c ∉ rem) ∨ c ∈ add := by
  unfold editS
  rw [sortU_mem, List.mem_append, keep_mem]
theorem edit_ok {l rem add : List (V8 Int)} (h1 : ∀ c ∈ l, okC c) (h2 : ∀ c ∈ add, okC c) : ∀ c ∈ editS l rem add, okC c := by
  intro c hc
  rcases edit_mem.1 hc with h | h
  · exact h1 c h.1
  · exact h2 c h
theorem edit_sorted {l rem add : List (V8 Int)} (h1 : ∀ c ∈ l, okC c) (h2 : ∀ c ∈ add, okC c) : sortU (editS l rem add) = editS l rem add := by
  refine (sortU_ext (editS l rem add) (edit_ok h1 h2) ?_ fun x => Iff.rfl).symm
  unfold editS
  refine sortU_strict _ fun c hc => ?_
  rcases List.mem_append.1 hc with h | h
  · exact h1 c (keep_mem.1 h).1
  · exact h2 c h
theorem edit_len (l rem add : List (V8 Int)) : (editS l rem add).length ≤ l.length + add.length := by
  unfold editS
  refine Nat.le_trans (sortU_len _) ?_
  rw [List.length_append]
  have := List.length_filter_le (keepC rem) l
  omega
theorem sets_ans (N : Nat) (x : Rule) (r : Route) (hN : 3000 ≤ N) (okA : ∀ c ∈ x.Add, okC c) (okR : ∀ c ∈ r.A.Comms, okC c) : AnsG N (g_law19_PolicySets x r) fun (b : Bool) => b = true := by
  unfold g_law19_PolicySets
  refine .skip (.call _ (lives_ans N) fun b hb => .skip (.br (fun h => by rw [hb] at h; cases h) fun h => .skip ?_))
  refine .call _ (light_ans N [x] [] [r] (by simp) (by simp; omega) (by simp) (by simp; omega)) fun b hb => .skip (.br (fun h => .skip (.done rfl rfl)) fun h => .skip ?_)
  obtain ⟨hl0, hr0, -⟩ := hb (nf h)
  have hx : LtX x := hl0 x (List.mem_singleton.2 rfl)
  have hr : LtR r := hr0 r (List.mem_singleton.2 rfl)
  have hlit := litS_lt hx
  have e11 : applyS (mtS N r) [litS x] r = outS (litS x) r := by
    have f1 : [litS x].find? (mtS N r) = some (litS x) := by simp [mt_all N (litS x) r rfl rfl rfl rfl]
    simp only [applyS, f1]
    rfl
  refine .call1 (fun (v : Prod Route Bool) => v = outS (litS x) r) (show Ans N (fun n => if (1 : Nat) = ([] : List Rule).length + [litS x].length then c_policy_Apply.S n (([] : List Rule) ++ [litS x], r) else none) (fun (v : Prod Route Bool) => v = outS (litS x) r) from Ans.guard rfl ((apply_ans N [litS x] r hr (fun y hy => by rw [List.mem_singleton.1 hy]; exact hlit) (by simp; omega) (by simp)).mono fun v hv => hv.trans e11)) fun v11 h11 => .skip ?_
  refine .call _ (ownR_ans N r hr) fun r12 h12 => .skip ?_
  subst h12
  refine .join (fun (t : Prod Bool Int) => t = if x.SetPref then (true, x.Pref) else (r12.A.HasPref, r12.A.Pref)) (.br (fun h => .skip (.done rfl (by rw [if_pos h]))) fun h => .skip (.done rfl (by rw [if_neg (by simp [h])]))) fun t15 h15 => .skip ?_
  refine .join (fun (t : Prod Bool Int) => t = if x.SetMed then (true, x.Med) else (r12.A.HasMed, r12.A.Med)) (.br (fun h => .skip (.done rfl (by rw [if_pos h]))) fun h => .skip (.done rfl (by rw [if_neg (by simp [h])]))) fun t18 h18 => .skip ?_
  have key : ∀ c, Route.mk r12.N (Attrs.mk r12.A.Origin r12.A.Path r12.A.Next t18.1 t18.2 t15.1 t15.2 r12.A.HasOriginator r12.A.Originator r12.A.Clusters c r12.A.Tunnel) r12.Peer r12.Stale = setS (litS x) r12 c := by
    intro c
    subst h15 h18
    cases h1 : x.SetPref <;> cases h2 : x.SetMed <;> simp [setS, litS, h1, h2]
  obtain ⟨r1, r2, r3⟩ := hr
  obtain ⟨x1, x2, x3, x4⟩ := hx
  have hE := edit_len r12.A.Comms x.Remove x.Add
  have same2 : ∀ c : List (V8 Int), c.length ≤ 900 → Ans N (fun n => c_kit_SameRoute.S n (setS (litS x) r12 c, Route.mk r12.N (Attrs.mk r12.A.Origin r12.A.Path r12.A.Next t18.1 t18.2 t15.1 t15.2 r12.A.HasOriginator r12.A.Originator r12.A.Clusters c r12.A.Tunnel) r12.Peer r12.Stale)) fun (b : Bool) => b = true := by
    intro c hc
    rw [key]
    exact same_ans N _ ⟨by simp only [setS]; omega, by simp only [setS]; omega, by simp only [setS]; omega⟩ (by omega)
  clear h15 h18 key
  have keepCase : x.Remove = [] → x.Add = [] → v11 = (setS (litS x) r12 r12.A.Comms, true) := fun h1 h2 => h11.trans (outS_keep h1 h2)
  have editCase : ¬ (x.Remove = [] ∧ x.Add = []) → v11 = if (editS r12.A.Comms x.Remove x.Add).length > 64 then (zeroR, false) else (setS (litS x) r12 (editS r12.A.Comms x.Remove x.Add), true) := fun h1 => h11.trans (outS_edit h1)
  clear h11 e11
  refine .op () rfl (.skip (.br (fun h1 => .skip (.op () rfl (.skip (.join (fun (s : Bool ⊕ Unit) => s = .inl true ∨ (s = .inr () ∧ ¬ (x.Remove = [] ∧ x.Add = []))) (.br (fun h2 => .skip ?_) fun h2 => .skip (.done rfl (.inr ⟨rfl, fun q => (len0f _).1 h2 q.2⟩))) ?_)))) fun h1 => .skip ?_))
  · rw [keepCase ((len0 _).1 h1) ((len0 _).1 h2)]
    refine .br (fun _ => .skip (.call _ (same2 r12.A.Comms (by omega)) fun b hb => .skip (.done rfl (.inl (congrArg Sum.inl hb))))) fun h => by cases h
  · rintro s (rfl | ⟨rfl, hne⟩)
    · exact .done rfl rfl
    · refine .skip ?_
      have hv := editCase hne
      by_cases h64 : (editS r12.A.Comms x.Remove x.Add).length > 64
      · rw [if_pos h64] at hv
        subst hv
        refine .join (fun (s : Bool ⊕ Unit) => s = .inl true) (.br (fun _ => .skip (.op () rfl (.skip (.op () rfl (.skip (.br (fun _ => .skip (.call _ (same_ans N zeroR ⟨by simp [zeroR], by simp [zeroR], by simp [zeroR]⟩ (by omega)) fun b hb => .skip (.done rfl (congrArg Sum.inl hb)))) fun h => ?_)))))) fun h => by cases h) ?_
        · rw [wrap_i64 (by omega) (by omega)] at h
          simp only [decide_eq_false_iff_not] at h
          omega
        · rintro s rfl
          exact .done rfl rfl
      · rw [if_neg h64] at hv
        subst hv
        refine .join (fun (s : Bool ⊕ Unit) => s = .inr ()) (.br (fun h => by cases h) fun _ => .skip (.done rfl rfl)) ?_
        rintro s rfl
        refine .skip (.loop (fun (a : Int) => 0 ≤ a ∧ a ≤ ((editS r12.A.Comms x.Remove x.Add).length : Int)) (fun a => (((editS r12.A.Comms x.Remove x.Add).length : Int) - a).toNat) (fun (s : Unit ⊕ Unit) => s = .inr ()) rfl ⟨by simp, by simp⟩ ?_ ?_ ?_)
        · simp; omega
        · rintro a ⟨g0, g1⟩
          refine .skip (.op () rfl (.skip (.br (fun h => .skip ?_) fun h => .skip (.done rfl rfl))))
          have h : a < ((editS r12.A.Comms x.Remove x.Add).length : Int) := by simpa [setS] using h
          obtain ⟨y, hy, hg⟩ := idx_get (editS r12.A.Comms x.Remove x.Add) (eV8 (cI .u8)) 8 a g0 h
          have hm := edit_mem.1 (List.mem_of_getElem? hg)
          have hs : RoundOk (fun (a : Int) => 0 ≤ a ∧ a ≤ ((editS r12.A.Comms x.Remove x.Add).length : Int)) (fun a => (((editS r12.A.Comms x.Remove x.Add).length : Int) - a).toNat) (fun (s : Unit ⊕ Unit) => s = .inr ()) a (.inl (Go.IntKind.wrap .i64 (a + 1))) := by
            rw [wrap_i64 (by omega) (by omega)]
            exact ⟨⟨by omega, by omega⟩, by (try simp only); omega⟩
          refine .op y hy (.skip (.call _ (has_c N x.Add y (by omega) (by omega)) fun b hb => .skip (.br (fun h1 => .skip ?_) fun h1 => .skip (.done rfl hs))))
          have hna : y ∉ x.Add := by subst hb; simpa using h1
          have hml := hm.resolve_right hna
          refine .call _ (has_c N r12.A.Comms y (by omega) (by omega)) fun b2 hb2 => .skip (.br (fun h2 => ?_) fun h2 => .skip ?_)
          · subst hb2
            simp [hml.1] at h2
          · refine .call _ (has_c N x.Remove y (by omega) (by omega)) fun b3 hb3 => .skip (.br (fun h3 => ?_) fun h3 => .skip (.done rfl hs))
            subst hb3
            simp [hml.2] at h3
        · rintro s rfl
          refine .skip (.loop (fun (a : Int) => 0 ≤ a ∧ a ≤ (x.Add.length : Int)) (fun a => ((x.Add.length : Int) - a).toNat) (fun (s : Unit ⊕ Unit) => s = .inr ()) rfl ⟨by simp, by simp⟩ ?_ ?_ ?_)
          · simp; omega
          · rintro a ⟨g0, g1⟩
            refine .skip (.op () rfl (.skip (.br (fun h => .skip ?_) fun h => .skip (.done rfl rfl))))
            simp only [decide_eq_true_eq] at h
            obtain ⟨y, hy, hg⟩ := idx_get x.Add (eV8 (cI .u8)) 8 a g0 h
            refine .op y hy (.skip (.call _ (has_c N (editS r12.A.Comms x.Remove x.Add) y (by omega) (by omega)) fun b hb => .skip (.br (fun h1 => ?_) fun h1 => .skip (.done rfl ?_))))
            · subst hb
              simp [edit_mem, List.mem_of_getElem? hg] at h1
            · rw [wrap_i64 (by omega) (by omega)]
              exact ⟨⟨by omega, by omega⟩, by (try simp only); omega⟩
          · rintro s rfl
            refine .skip (.loop (fun (a : Int) => 0 ≤ a ∧ a ≤ (r12.A.Comms.length : Int)) (fun a => ((r12.A.Comms.length : Int) - a).toNat) (fun (s : Unit ⊕ Unit) => s = .inr ()) rfl ⟨by simp, by simp⟩ ?_ ?_ ?_)
            · simp; omega
            · rintro a ⟨g0, g1⟩
              refine .skip (.op () rfl (.skip (.br (fun h => .skip ?_) fun h => .skip (.done rfl rfl))))
              simp only [decide_eq_true_eq] at h
              obtain ⟨y, hy, hg⟩ := idx_get r12.A.Comms (eV8 (cI .u8)) 8 a g0 h
              have hs : RoundOk (fun (a : Int) => 0 ≤ a ∧ a ≤ (r12.A.Comms.length : Int)) (fun a => ((r12.A.Comms.length : Int) - a).toNat) (fun (s : Unit ⊕ Unit) => s = .inr ()) a (.inl (Go.IntKind.wrap .i64 (a + 1))) := by
                rw [wrap_i64 (by omega) (by omega)]
                exact ⟨⟨by omega, by omega⟩, by (try simp only); omega⟩
              refine .op y hy (.skip (.call _ (has_c N x.Remove y (by omega) (by omega)) fun b hb => .skip (.br (fun h1 => .skip (.op y hy (.skip ?_))) fun h1 => .skip (.done rfl hs))))
              have hnr : y ∉ x.Remove := by subst hb; simpa using h1
              refine .call _ (has_c N (editS r12.A.Comms x.Remove x.Add) y (by omega) (by omega)) fun b2 hb2 => .skip (.br (fun h2 => ?_) fun h2 => .skip (.done rfl hs))
              subst hb2
              simp [edit_mem, List.mem_of_getElem? hg, hnr] at h2
            · rintro s rfl
              refine .skip (.call (fun (l : List (V8 Int)) => l = editS r12.A.Comms x.Remove x.Add) ⟨_, rfl, fun n hn => (refSort_run n (editS r12.A.Comms x.Remove x.Add) (by omega) (by omega) (edit_ok okR okA)).trans (congrArg some (edit_sorted okR okA))⟩ fun l hl => .skip ?_)
              subst hl
              refine .call _ (same_c N (editS r12.A.Comms x.Remove x.Add) (by omega) (by omega)) fun b hb => .skip (.br (fun _ => .skip ?_) fun h => by rw [hb] at h; cases h)
              exact .call _ (same2 (editS r12.A.Comms x.Remove x.Add) (by omega)) fun b hb => .skip (.done rfl hb)
  · have hne : ¬ (x.Remove = [] ∧ x.Add = []) := fun q => (len0f _).1 h1 q.1
    have hv := editCase hne
    by_cases h64 : (editS r12.A.Comms x.Remove x.Add).length > 64
    · rw [if_pos h64] at hv
      subst hv
      refine .join (fun (s : Bool ⊕ Unit) => s = .inl true) (.br (fun _ => .skip (.op () rfl (.skip (.op () rfl (.skip (.br (fun _ => .skip (.call _ (same_ans N zeroR ⟨by simp [zeroR], by simp [zeroR], by simp [zeroR]⟩ (by omega)) fun b hb => .skip (.done rfl (congrArg Sum.inl hb)))) fun h => ?_)))))) fun h => by cases h) ?_
      · rw [wrap_i64 (by omega) (by omega)] at h
        simp only [decide_eq_false_iff_not] at h
        omega
      · rintro s rfl
        exact .done rfl rfl
    · rw [if_neg h64] at hv
      subst hv
      refine .join (fun (s : Bool ⊕ Unit) => s = .inr ()) (.br (fun h => by cases h) fun _ => .skip (.done rfl rfl)) ?_
      rintro s rfl
      refine .skip (.loop (fun (a : Int) => 0 ≤ a ∧ a ≤ ((editS r12.A.Comms x.Remove x.Add).length : Int)) (fun a => (((editS r12.A.Comms x.Remove x.Add).length : Int) - a).toNat) (fun (s : Unit ⊕ Unit) => s = .inr ()) rfl ⟨by simp, by simp⟩ ?_ ?_ ?_)
      · simp; omega
      · rintro a ⟨g0, g1⟩
        refine .skip (.op () rfl (.skip (.br (fun h => .skip ?_) fun h => .skip (.done rfl rfl))))
        have h : a < ((editS r12.A.Comms x.Remove x.Add).length : Int) := by simpa [setS] using h
        obtain ⟨y, hy, hg⟩ := idx_get (editS r12.A.Comms x.Remove x.Add) (eV8 (cI .u8)) 8 a g0 h
        have hm := edit_mem.1 (List.mem_of_getElem? hg)
        have hs : RoundOk (fun (a : Int) => 0 ≤ a ∧ a ≤ ((editS r12.A.Comms x.Remove x.Add).length : Int)) (fun a => (((editS r12.A.Comms x.Remove x.Add).length : Int) - a).toNat) (fun (s : Unit ⊕ Unit) => s = .inr ()) a (.inl (Go.IntKind.wrap .i64 (a + 1))) := by
          rw [wrap_i64 (by omega) (by omega)]
          exact ⟨⟨by omega, by omega⟩, by (try simp only); omega⟩
        refine .op y hy (.skip (.call _ (has_c N x.Add y (by omega) (by omega)) fun b hb => .skip (.br (fun h1 => .skip ?_) fun h1 => .skip (.done rfl hs))))
        have hna : y ∉ x.Add := by subst hb; simpa using h1
        have hml := hm.resolve_right hna
        refine .call _ (has_c N r12.A.Comms y (by omega) (by omega)) fun b2 hb2 => .skip (.br (fun h2 => ?_) fun h2 => .skip ?_)
        · subst hb2
          simp [hml.1] at h2
        · refine .call _ (has_c N x.Remove y (by omega) (by omega)) fun b3 hb3 => .skip (.br (fun h3 => ?_) fun h3 => .skip (.done rfl hs))
          subst hb3
          simp [hml.2] at h3
      · rintro s rfl
        refine .skip (.loop (fun (a : Int) => 0 ≤ a ∧ a ≤ (x.Add.length : Int)) (fun a => ((x.Add.length : Int) - a).toNat) (fun (s : Unit ⊕ Unit) => s = .inr ()) rfl ⟨by simp, by simp⟩ ?_ ?_ ?_)
        · simp; omega
        · rintro a ⟨g0, g1⟩
          refine .skip (.op () rfl (.skip (.br (fun h => .skip ?_) fun h => .skip (.done rfl rfl))))
          simp only [decide_eq_true_eq] at h
          obtain ⟨y, hy, hg⟩ := idx_get x.Add (eV8 (cI .u8)) 8 a g0 h
          refine .op y hy (.skip (.call _ (has_c N (editS r12.A.Comms x.Remove x.Add) y (by omega) (by omega)) fun b hb => .skip (.br (fun h1 => ?_) fun h1 => .skip (.done rfl ?_))))
          · subst hb
            simp [edit_mem, List.mem_of_getElem? hg] at h1
          · rw [wrap_i64 (by omega) (by omega)]
            exact ⟨⟨by omega, by omega⟩, by (try simp only); omega⟩
        · rintro s rfl
          refine .skip (.loop (fun (a : Int) => 0 ≤ a ∧ a ≤ (r12.A.Comms.length : Int)) (fun a => ((r12.A.Comms.length : Int) - a).toNat) (fun (s : Unit ⊕ Unit) => s = .inr ()) rfl ⟨by simp, by simp⟩ ?_ ?_ ?_)
          · simp; omega
          · rintro a ⟨g0, g1⟩
            refine .skip (.op () rfl (.skip (.br (fun h => .skip ?_) fun h => .skip (.done rfl rfl))))
            simp only [decide_eq_true_eq] at h
            obtain ⟨y, hy, hg⟩ := idx_get r12.A.Comms (eV8 (cI .u8)) 8 a g0 h
            have hs : RoundOk (fun (a : Int) => 0 ≤ a ∧ a ≤ (r12.A.Comms.length : Int)) (fun a => ((r12.A.Comms.length : Int) - a).toNat) (fun (s : Unit ⊕ Unit) => s = .inr ()) a (.inl (Go.IntKind.wrap .i64 (a + 1))) := by
              rw [wrap_i64 (by omega) (by omega)]
              exact ⟨⟨by omega, by omega⟩, by (try simp only); omega⟩
            refine .op y hy (.skip (.call _ (has_c N x.Remove y (by omega) (by omega)) fun b hb => .skip (.br (fun h1 => .skip (.op y hy (.skip ?_))) fun h1 => .skip (.done rfl hs))))
            have hnr : y ∉ x.Remove := by subst hb; simpa using h1
            refine .call _ (has_c N (editS r12.A.Comms x.Remove x.Add) y (by omega) (by omega)) fun b2 hb2 => .skip (.br (fun h2 => ?_) fun h2 => .skip (.done rfl hs))
            subst hb2
            simp [edit_mem, List.mem_of_getElem? hg, hnr] at h2
          · rintro s rfl
            refine .skip (.call (fun (l : List (V8 Int)) => l = editS r12.A.Comms x.Remove x.Add) ⟨_, rfl, fun n hn => (refSort_run n (editS r12.A.Comms x.Remove x.Add) (by omega) (by omega) (edit_ok okR okA)).trans (congrArg some (edit_sorted okR okA))⟩ fun l hl => .skip ?_)
            subst hl
            refine .call _ (same_c N (editS r12.A.Comms x.Remove x.Add) (by omega) (by omega)) fun b hb => .skip (.br (fun _ => .skip ?_) fun h => by rw [hb] at h; cases h)
            exact .call _ (same2 (editS r12.A.Comms x.Remove x.Add) (by omega)) fun b hb => .skip (.done rfl hb)
end Go.L
/- A permitted route is changed as the matching rule says: PolicySets returns true for every input; the card, tied to the program's text. No conditions. -/
namespace Go.L
open Go.AM
set_option linter.unusedVariables false
theorem wf_u8 {n : Int} (h : (Go.Lit.int .u8 n).wf = true) : 0 ≤ n ∧ n < 256 := by
  simp [Go.Lit.wf] at h
  have e1 : Go.IntKind.min .u8 = 0 := rfl
  have e2 : Go.IntKind.max .u8 = 255 := rfl
  omega
def wfV8 (x : V8 Int) : Prop := (Go.Lit.int .u8 x.a0).wf = true ∧ (Go.Lit.int .u8 x.a1).wf = true ∧ (Go.Lit.int .u8 x.a2).wf = true ∧ (Go.Lit.int .u8 x.a3).wf = true ∧ (Go.Lit.int .u8 x.a4).wf = true ∧ (Go.Lit.int .u8 x.a5).wf = true ∧ (Go.Lit.int .u8 x.a6).wf = true ∧ (Go.Lit.int .u8 x.a7).wf = true
theorem okC_wf {x : V8 Int} (h : wfV8 x) : okC x := ⟨wf_u8 h.1, wf_u8 h.2.1, wf_u8 h.2.2.1, wf_u8 h.2.2.2.1, wf_u8 h.2.2.2.2.1, wf_u8 h.2.2.2.2.2.1, wf_u8 h.2.2.2.2.2.2.1, wf_u8 h.2.2.2.2.2.2.2⟩
/-- A route of zeros, and a rule. -/
def zeroV : Go.Value := .agg #[.int .i64 0, .int .u64 0, .int .u8 0, .int .u8 0, .int .u8 0, .int .u8 0, .int .u8 0, .int .u8 0, .int .u8 0, .int .u8 0, .int .u8 0, .int .u8 0, .int .u32 0, .int .u64 0, .int .u32 0, .bool false, .int .u32 0, .int .i64 0, .int .u32 0, .int .u32 0, .int .u32 0, .int .i64 0, .slice none 0 0, .int .u32 0, .bool false, .int .u32 0, .bool false, .int .u32 0, .bool false, .int .u32 0, .slice none 0 0, .slice none 0 0, .int .i64 0, .int .u32 0, .int .u32 0, .int .u32 0, .int .u32 0, .bool false]
def zeroW : Go.Value := .agg #[.slice none 0 0, .slice none 0 0, .int .u32 0, .bool false, .int .u32 0, .int .i64 0, .int .i64 0, .int .i64 0, .bool false, .bool false, .int .u32 0, .bool false, .int .u32 0, .slice none 0 0, .slice none 0 0]
theorem law_policySets (x : Rule) (r : Route) (h0 : okRule x) (h1 : okRoute r) : FnVal prog 8 [.agg (eRule x), .agg (eRoute r)] (.ret (.sc (.bool true))) := by
  obtain ⟨b, hb, h⟩ := sets_ans 3000 x r (Nat.le_refl _) (fun c hc => okC_wf (h0.2.2.2.2.2.2.2.2.2.2.2.2.2.1 c hc)) (fun c hc => okC_wf (h1.2.1.2.2.2.2.2.2.2.2.2.2.1 c hc))
  subst hb
  exact c_law19_PolicySets.ok 3000 (x, r) true (h _ (Nat.le_refl _))
end Go.L
namespace Go.Proofs.YtfgigcdbcbgpoaaDoor.policySets
open Go.ChangeShapes Go.WideShapes Go.ChangeAt Go.RowKit Go.AM Go.L
set_option linter.unusedVariables false

def kv : List Value := [(1, 0, 2), (2, 3, 12), (3, 6, 0), (4, 6, 1), (5, 6, 2), (6, 6, 3), (7, 6, 6)].flatMap fun (p : Int × Int × Int) => [.int .i64 p.1, .int .u8 p.2.1, .int .u8 p.2.2]
def kk : List Kd := (List.replicate 7 [.int .i64, .int .u8, .int .u8]).flatten
theorem globsOk {W : World} (h : laidMet Tryd.prog Rows.policySetsRow.laid W) : GlobsOk (Gh.bare W) W := by
  refine globs_one (P := Tryd.prog) (name := "leafmesh/comm.kinds") (g := 0) (vs := kv) (by kernel_rfl) (laid_cells (g := 0) (t := 104) (ks := kk) (by kernel_rfl) (by kernel_rfl) (by kernel_rfl) (by kernel_rfl) h) (by kernel_rfl) fun i cs hi => ?_
  match i, hi with
  | 0, hi => exact ⟨rfl, (Option.some.inj hi).symm⟩
theorem own : ownKnob Tryd.prog.godebug = none := by kernel_rfl
theorem slices : ((List.range Tryd.prog.types.size).all fun t => match Tryd.prog.underlying t with | some (.slice e) => decide (0 < Tryd.prog.cellsOf e) | _ => true) = true := by kernel_rfl
theorem maps : mapsRowed Tryd.prog = true := by kernel_rfl
theorem inTable : (Tryd.f8.params.toList.all fun t => Nat.ble (t + 1) Tryd.prog.types.size) = true := by kernel_rfl
set_option maxRecDepth 100000 in
theorem contract (H : Type) (enc : TypeId × Value → H) (W : World) (base : Nat) (args : Array Value) (ds gs : List (DataW H)) (before : List MemPlace)
    (hval : ∀ (j : Nat) t v, Tryd.f8.params[j]? = some t → args[j]? = some v → Value.okWide Tryd.prog W .any base t v)
    (hW : DataW.Whole enc Tryd.prog Tryd.f8.params.toList Rows.policySetsSpec.vars false W args.toList ds gs before) (hL : laidMetH Tryd.prog Rows.policySetsRow.laid W) :
    Calls Tryd.prog 8 args W fun e W' => ∃ v, e = .returned v ∧ Rows.policySetsSpec.post enc Tryd.prog Tryd.f8 false true false false W args v W' := by
  have hW' := hW
  have hlt := hW.lt
  obtain ⟨p, q, hA0, hV, rfl, hfz, hnd⟩ := hW
  have hA : DataW.TrodAll enc Tryd.prog W 0 (fun _ => true) true Tryd.f8.params.toList args.toList ds p := hA0
  clear hA0
  have hAll := hA
  rw [Tryd.params8] at hA hval
  obtain ⟨v0, r0, d0, e0, p0, q0, hv0, hd0, hp0, t0, hA⟩ := trodAll_cons hA
  obtain ⟨v1, r1, d1, e1, p1, q1, hv1, hd1, hp1, t1, hA⟩ := trodAll_cons hA
  obtain ⟨hr, hd, hq⟩ := trodAll_nil hA
  obtain rfl : args = #[v0, v1] := by apply Array.ext'; simp only [hv0, hv1, hr]
  obtain rfl : ds = [d0, d1] := by simp only [hd0, hd1, hd]
  obtain ⟨rfl, rfl⟩ := trodVars_none hV
  simp only [List.append_nil] at hW' hlt
  obtain ⟨a0, ok0, ra0⟩ := Rdb.agg rdRule Tryd.underlying66 (hval 0 _ _ rfl rfl) t0
  obtain ⟨a1, ok1, ra1⟩ := Rdb.agg rdRoute Tryd.underlying77 (hval 1 _ _ rfl rfl) t1
  refine (law_top (law_policySets a0 a1 ok0 ok1) W (globsOk hL) _ ⟨_, _, rfl, ra0, ⟨_, _, rfl, ra1, rfl⟩⟩).mono fun e W' ⟨he, hg⟩ => ?_
  subst he
  exact ⟨_, rfl, post_of_below (pa := p) (pv := []) hW' (fun _ _ _ => (trodAll_cons_mk (shut_bool Tryd.underlying4 _) trodAll_mk0))
    (fun sp hsp => trodAll_kept laid maps (slices_full_of _ slices) hg (fun t ht => Nat.le_of_ble_eq_true (List.all_eq_true.1 inTable t ht)) hAll hlt hsp) (fun _ _ => rfl) (by simp)
    hg (ok_one (by kernel_rfl) rfl (okWide_bool_mk Tryd.underlying4 _))⟩

/-- A world for the witness: the settled one, the variable holding what its initialiser lays. -/
noncomputable def laidWorld (os : Os) : World :=
  { World.holding Tryd.prog os ⟨#[], #[zeroW, zeroV], []⟩ with heap := (World.holding Tryd.prog os ⟨#[], #[zeroW, zeroV], []⟩).heap.modify 0 fun
      | .cells _ t frozen => .cells kv.toArray t frozen
      | o => o }
theorem laid_met (os : Os) : laidMet Tryd.prog Rows.policySetsRow.laid ((laidWorld os).forCall (fun _ _ => 0) ⟨#[], #[zeroW, zeroV], []⟩).memory :=
  laidMet_of_run' 8 (by kernel_rfl) (by kernel_rfl)
theorem reads (os : Os) {H : Type} (enc : TypeId × Value → H) : ∃ x, DataW.whole enc Tryd.prog ((laidWorld os).forCall (fun _ _ => 0) ⟨#[], #[zeroW, zeroV], []⟩).memory Tryd.f8.params.toList Rows.policySetsSpec.vars false (#[zeroW, zeroV] : Array Value).toList 8 = some x := by
  have h : (DataW.whole enc Tryd.prog ((laidWorld os).forCall (fun _ _ => 0) ⟨#[], #[zeroW, zeroV], []⟩).memory Tryd.f8.params.toList Rows.policySetsSpec.vars false (#[zeroW, zeroV] : Array Value).toList 8).isSome = true := by kernel_rfl
  exact Option.isSome_iff_exists.1 h

set_option maxRecDepth 100000 in
theorem lifted (os : Os) (started : os.Started) (H : Type) (enc : TypeId × Value → H) (F : Stop.Interp) :
    ReturnsInHanded {} Tryd.checked os 8 .any ((OpenSpec.ofChange Rows.policySetsSpec).preRow enc Tryd.prog Tryd.f8 Rows.policySetsRow.domain false Rows.policySetsRow.laid) (((OpenSpec.ofChange Rows.policySetsSpec).at F).post enc Tryd.prog Tryd.f8 false true false false) := by
  obtain ⟨x, hx⟩ := reads os enc
  refine returnsInHanded_of_row (C := Tryd.checked) (s := OpenSpec.ofChange Rows.policySetsSpec) own started (by kernel_rfl) Tryd.func8
    (witness_row_at (enc := enc) (C := Tryd.checked) false (laidWorld os) #[zeroW, zeroV] rfl (by kernel_rfl) (by kernel_rfl) (by kernel_rfl)
      (OpenSpec.preRow_of_cond 8 hx (by kernel_rfl) (fun k hk => by cases hk) (by kernel_rfl) (laid_met os))) ?_
  intro W base args ds gs before hval hW _ _ _ hL _ _
  exact contract H enc W base args ds gs before hval hW hL

theorem said : Rows.PolicySetsSaid :=
  OpenClaim.holds_of_cond 8 Tryd.f8 rfl rfl rfl rfl rfl rfl rfl ⟨rfl, rfl, rfl, rfl, rfl⟩ rfl rfl rfl rfl rfl (by kernel_rfl) Tryd.func8 (by kernel_rfl)
    (of_decide_eq_true (by kernel_rfl)) (by unfold Func.isWrapper; first | (rw [if_pos (by decide +kernel)]; kernel_rfl) | (rw [if_neg (by decide +kernel)]; exact ⟨rfl, rfl⟩))
    (fun os started H enc _ F => by rw [OpenClaim.pre_eq_preRow]; exact lifted os started H enc F)

theorem noStand : (Tryd.f8.params.toList.all fun t => !Tryd.prog.wantsStandIn t) = true := by kernel_rfl
theorem plain (f : FuncId) (fn : Func) (hf : Tryd.pinned.checked.prog.funcNamed Rows.policySetsRow.func = some f) (hfn : Tryd.pinned.checked.prog.funcs[f]? = some fn) :
    false = Tryd.pinned.checked.prog.looks [] ∧ ∀ (j : Nat) t, fn.params[j]? = some t → Tryd.pinned.checked.prog.wantsStandIn t = false := by
  obtain rfl : f = 8 := Option.some.inj ((show Tryd.prog.funcNamed Rows.policySetsRow.func = some 8 by kernel_rfl).symm.trans hf) |>.symm
  obtain rfl : fn = Tryd.f8 := (Option.some.inj (Tryd.func8.symm.trans hfn)).symm
  refine ⟨by kernel_rfl, fun j t ht => ?_⟩
  have := List.all_eq_true.1 noStand t (Array.mem_toList_iff.2 (Array.mem_of_getElem? ht))
  have h2 : Tryd.prog.wantsStandIn t = false := by simpa using this
  exact h2

theorem card : Rows.PolicySetsCardSaid :=
  Claim7.holds_tied_plain_at .later [] _ _ _ _ said (fun _ h => by cases h) (by kernel_rfl) (fun _ h => by cases h) policySets_row_tie rfl ⟨rfl, rfl⟩ (by kernel_rfl) rfl plain (by kernel_rfl)
end Go.Proofs.YtfgigcdbcbgpoaaDoor.policySets
