/- The getters and Sort of communities return what the document defines: CommLists returns true for every input; the card, tied to the text of the program. No conditions. -/
import Derived.Test.YtfgigcdbcbgpoaaDoorWz
import Derived.Test.YtfgigcdbcbgpoaaDoorWx
import Derived.Test.YtfgigcdbcbgpoaaDoorCk
import Derived.Test.YtfgigcdbcbgpoaaDoorAmPl
import Derived.Test.YtfgigcdbcbgpoaaDoorRe
import Derived.Test.YtfgigcdbcbgpoaaDoorAmDr
import Derived.Test.YtfgigcdbcbgpoaaDoorRows
import Derived.Test.YtfgigcdbcbgpoaaDoorCards
import Derived.Test.YtfgigcdbcbgpoaaDoorTie
import Derived.Deep.DeepHandedRow
import Derived.Lib.LaidTab
/- What the reference of communities computes. No conditions. -/
namespace Go.L
open Go.AM Go.Sort
set_option maxRecDepth 100000
set_option linter.unusedSimpArgs false
set_option linter.unusedVariables false

section
variable {X β : Type}
theorem slcZ_bind (m n b ver o : Nat) (i : Int) (k : Unit → Option β) : (slcZ m n b ver o i).run.bind k = if i = 0 then k () else none := by
  show (if i = 0 then some () else none).bind k = _
  split <;> rfl
theorem slcE_bind (m n b ver o : Nat) (i : Int) (k : Unit → Option β) : (slcE m n b ver o i).run.bind k = if i = m ∧ 0 < m then k () else none := by
  show (if i = m ∧ 0 < m then some () else none).bind k = _
  split <;> rfl
theorem appS_bind (len : Nat) (l m : List X) (e : X → List AVal) (n by_ b ver nid : Nat) (ids : List Nat) (k : Unit → Option β) : (appS len l m e n by_ b ver nid ids).run.bind k = if len ≤ l.length ∧ roomy (len + m.length) by_ = true then k () else none := by
  show (if len ≤ l.length ∧ roomy (len + m.length) by_ = true then some () else none).bind k = _
  split <;> rfl
theorem appE_bind (len : Nat) (l l2 : List X) (b2 ver2 o2 n2 : Nat) (e : X → List AVal) (n by_ b ver nid : Nat) (k : Unit → Option β) : (appE len l l2 b2 ver2 o2 n2 e n by_ b ver nid).run.bind k = if (len = l.length ∧ o2 + n2 ≤ l2.length) ∧ roomy (l.length + n2) by_ = true then k () else none := by
  show (if (len = l.length ∧ o2 + n2 ≤ l2.length) ∧ roomy (l.length + n2) by_ = true then some () else none).bind k = _
  split <;> rfl
theorem appF_bind (len : Nat) (l l2 : List X) (b2 ver2 o2 n2 : Nat) (e : X → List AVal) (n by_ b ver nid : Nat) (k : Unit → Option β) : (appF len l l2 b2 ver2 o2 n2 e n by_ b ver nid).run.bind k = if (len ≤ l.length ∧ o2 + n2 ≤ l2.length) ∧ roomy (len + n2) by_ = true then k () else none := by
  show (if (len ≤ l.length ∧ o2 + n2 ≤ l2.length) ∧ roomy (len + n2) by_ = true then some () else none).bind k = _
  split <;> rfl
end

theorem ins_strict {α : Type} (lt : α → α → Prop) (tr : ∀ a b c, lt a b → lt b c → lt a c) {out : List α} {x : α} {k : Nat} (hk : k ≤ out.length) (hp : out.Pairwise lt) (hlo : ∀ j (h : j < out.length), j < k → lt out[j] x) (hhi : ∀ h : k < out.length, lt x out[k]) :
    (out.take k ++ x :: out.drop k).Pairwise lt := by
  have hi : ∀ y ∈ out.drop k, lt x y := fun y hy => by
    obtain ⟨i, h1, rfl⟩ := List.getElem_of_mem hy
    simp only [List.length_drop] at h1
    rw [List.getElem_drop]
    by_cases h0 : i = 0
    · subst h0; exact hhi (by omega)
    · exact tr _ _ _ (hhi (by omega)) (List.pairwise_iff_getElem.1 hp k (k + i) (by omega) (by omega) (by omega))
  rw [List.pairwise_append]
  refine ⟨hp.sublist (List.take_sublist _ _), List.pairwise_cons.2 ⟨hi, hp.sublist (List.drop_sublist _ _)⟩, fun a ha b hb => ?_⟩
  obtain ⟨j, h1, rfl⟩ := List.getElem_of_mem ha
  simp only [List.length_take] at h1
  rw [List.getElem_take]
  have hax := hlo j (by omega) (by omega)
  rcases List.mem_cons.1 hb with rfl | hb
  · exact hax
  · exact tr _ _ _ hax (hi b hb)
theorem ins_mem {α : Type} {out : List α} {x y : α} (k : Nat) : y ∈ out.take k ++ x :: out.drop k ↔ y = x ∨ y ∈ out := by
  rw [List.mem_append, List.mem_cons]
  conv => rhs; rw [← List.take_append_drop k out, List.mem_append]
  constructor
  · rintro (h | h | h); exact .inr (.inl h); exact .inl h; exact .inr (.inr h)
  · rintro (h | h | h); exact .inr (.inl h); exact .inl h; exact .inr (.inr h)

def cmpL : List Int → List Int → Int
  | a :: ar, b :: br => if a < b then -1 else if a > b then 1 else cmpL ar br
  | _, _ => 0
def inB (x : Int) : Prop := 0 ≤ x ∧ x < 256
theorem byte_lt {a b : Int} (ha : inB a) (hb : inB b) : UInt8.ofNat a.toNat < UInt8.ofNat b.toNat ↔ a < b := by
  rw [UInt8.lt_iff_toNat_lt]
  simp only [UInt8.toNat_ofNat']
  obtain ⟨h1, h2⟩ := ha
  obtain ⟨h3, h4⟩ := hb
  omega
theorem cmpL_neg : ∀ (a b : List Int), a.length = b.length → (∀ x ∈ a, inB x) → (∀ x ∈ b, inB x) → (cmpL a b < 0 ↔ Lib.bytesOf a < Lib.bytesOf b)
  | [], [], _, _, _ => by simp [cmpL, Lib.bytesOf]
  | a :: ar, b :: br, hl, ha, hb => by
    simp only [Lib.bytesOf, List.map_cons, List.cons_lt_cons_iff]
    have h1 := byte_lt (ha a (by simp)) (hb b (by simp))
    have h2 := byte_lt (hb b (by simp)) (ha a (by simp))
    have ih := cmpL_neg ar br (by simpa using hl) (fun x hx => ha x (by simp [hx])) fun x hx => hb x (by simp [hx])
    simp only [Lib.bytesOf] at ih
    rw [cmpL]
    by_cases h : a < b
    · rw [if_pos h]; simp [h1.2 h]
    · rw [if_neg h]
      by_cases h' : a > b
      · rw [if_pos h']
        have n1 : ¬ UInt8.ofNat a.toNat < UInt8.ofNat b.toNat := fun q => h (h1.1 q)
        have n2 : UInt8.ofNat a.toNat ≠ UInt8.ofNat b.toNat := fun q => by have := h2.2 h'; rw [q] at this; exact absurd this (UInt8.lt_irrefl _)
        simp [n1, n2]
      · rw [if_neg h']
        have he : a = b := by omega
        subst he
        simp [ih]
theorem okC_all {x : V8 Int} (h : okC x) : ∀ y ∈ [x.a0, x.a1, x.a2, x.a3, x.a4, x.a5, x.a6, x.a7], inB y := by
  obtain ⟨h0, h1, h2, h3, h4, h5, h6, h7⟩ := h
  intro y hy
  simp only [List.mem_cons, List.not_mem_nil, or_false] at hy
  rcases hy with rfl | rfl | rfl | rfl | rfl | rfl | rfl | rfl <;> assumption
theorem compare_run (n : Nat) (a b : V8 Int) : c_ref03_Compare.S n (a, b) = some (cmpL [a.a0, a.a1, a.a2, a.a3, a.a4, a.a5, a.a6, a.a7] [b.a0, b.a1, b.a2, b.a3, b.a4, b.a5, b.a6, b.a7]) := by
  show (g_ref03_Compare a b).run n = _
  simp only [g_ref03_Compare, G.run, tsOk, if_true, cmpL, decide_eq_true_eq]
  have e : ∀ (c : Prop) [Decidable c] (x y : Int), (some (if c then x else y) : Option Int) = if c then some x else some y := fun c _ x y => by split <;> rfl
  simp only [e]
  rfl
theorem compare_b {n : Nat} (a b : V8 Int) {β : Type} (k : c_ref03_Compare.sh.El → Option β) : (c_ref03_Compare.S n (a, b)).bind k = k (cmpL [a.a0, a.a1, a.a2, a.a3, a.a4, a.a5, a.a6, a.a7] [b.a0, b.a1, b.a2, b.a3, b.a4, b.a5, b.a6, b.a7]) := by rw [compare_run]; rfl

theorem sortU_nil : sortU [] = [] := List.eq_nil_of_length_eq_zero (Nat.le_zero.1 (sortU_len []))
theorem inl_ex {σ τ : Type} {x : Option (σ ⊕ τ)} {B : σ → Prop} (h : ∃ r, x = some r ∧ ∃ s', r = Sum.inl s' ∧ B s') : ∃ s', x = some (.inl s') ∧ B s' := by
  obtain ⟨r, h1, t, rfl, h2⟩ := h; exact ⟨t, h1, h2⟩
theorem by_inlD {σ τ : Type} {X o : Option (σ ⊕ τ)} {B : σ → Prop} (h : X = o) (h2 : ∃ s', o = some (.inl s') ∧ B s') : ∃ s', X = some (.inl s') ∧ B s' := h ▸ h2
theorem by_inrD {σ τ : Type} {X o : Option (σ ⊕ τ)} {B : τ → Prop} (h : X = o) (h2 : ∃ s', o = some (.inr s') ∧ B s') : ∃ s', X = some (.inr s') ∧ B s' := h ▸ h2
theorem refSort_run (M : Nat) (l : List (V8 Int)) (hl : l.length < 100000) (hM : l.length + 3 < M) (hok : ∀ x ∈ l, okC x) : c_ref03_Sort.S M l = some (sortU l) := by
  show (g_ref03_Sort l).run M = _
  simp only [g_ref03_Sort, G.run, tsOk, if_true, lenO_bind, idxO_bind, idxS_bind, ldO_bind, slcH_bind, slcL_bind, slcZ_bind, slcE_bind, appS_bind, appE_bind, appF_bind, eqV8, eqz, ltn]
  refine bind_ex (I := fun s => ∃ i : Nat, s = ((i : Int), sortU (l.take i)) ∧ i ≤ l.length) (m := fun s => l.length - s.1.toNat) (Q := fun (t : List (V8 Int)) => t = sortU l) ⟨0, by rw [List.take_zero, sortU_nil]; rfl, Nat.zero_le _⟩ (by simp; omega) (fun s hs => ?_) (fun t ht => ?_)
  · obtain ⟨i, rfl, hi⟩ := hs
    by_cases he : i = l.length
    · left
      subst he
      rw [if_neg (by simp)]
      exact ⟨_, rfl, by rw [List.take_length]⟩
    · right
      have hil : i < l.length := by omega
      have e1 : at? l (i : Int) = some l[i] := by rw [at?_nat]; exact List.getElem?_eq_getElem hil
      have okT : ∀ x ∈ l.take i, okC x := fun x hx => hok x (List.mem_of_mem_take hx)
      have okx : okC l[i] := hok _ (List.getElem_mem hil)
      have hst := sortU_strict _ okT
      have hmem := sortU_mem (l.take i)
      have hlen := sortU_len (l.take i)
      have hnew : ∀ out', out'.Pairwise (fun a b => byV8 a < byV8 b) → (∀ y, y ∈ out' ↔ y = l[i] ∨ y ∈ sortU (l.take i)) → out' = sortU (l.take (i + 1)) := fun out' h1 h2 => by
        refine sortU_ext _ (fun x hx => hok x (List.mem_of_mem_take hx)) h1 fun y => ?_
        rw [h2, hmem, List.take_add_one, List.mem_append, List.getElem?_eq_getElem hil]
        simp [or_comm]
      have okO : ∀ x ∈ sortU (l.take i), okC x := fun x hx => okT x ((hmem x).1 hx)
      simp only [List.length_take] at hlen
      generalize sortU (l.take i) = out at *
      rw [if_pos (by simp; omega), e1]
      simp only [Option.bind_some]
      refine inl_ex (bind_exP (I := fun s => ∃ j : Nat, s = (j : Int) ∧ j ≤ out.length ∧ ∀ q (h : q < out.length), q < j → byV8 out[q] < byV8 l[i]) (m := fun s => out.length - s.toNat) (Q := fun (t : Int) => ∃ k : Nat, t = (k : Int) ∧ k ≤ out.length ∧ (∀ q (h : q < out.length), q < k → byV8 out[q] < byV8 l[i]) ∧ ∀ h : k < out.length, ¬ byV8 out[k] < byV8 l[i])
        ⟨0, rfl, Nat.zero_le _, fun q _ h => absurd h (Nat.not_lt_zero _)⟩ (by show out.length - (0 : Int).toNat < M; omega) (fun s hs => ?_) (fun t ht => ?_))
      · obtain ⟨j, rfl, hj, hlo⟩ := hs
        by_cases hjl : j < out.length
        · have c1 := cmpL_neg [out[j].a0, out[j].a1, out[j].a2, out[j].a3, out[j].a4, out[j].a5, out[j].a6, out[j].a7] [l[i].a0, l[i].a1, l[i].a2, l[i].a3, l[i].a4, l[i].a5, l[i].a6, l[i].a7] rfl (okC_all (okO _ (List.getElem_mem hjl))) (okC_all okx)
          rw [if_pos (by simp; omega), if_pos (by omega), Int.toNat_natCast, List.getElem?_eq_getElem hjl]
          simp only [Option.bind_some]
          by_cases hc : byV8 out[j] < byV8 l[i]
          · right
            refine by_inlD (compare_b _ _ _) ?_
            rw [if_pos (by simpa using c1.2 hc), W_eq (x := (j : Int) + 1) (n := j + 1) (by omega) (by omega)]
            refine ⟨_, rfl, ⟨j + 1, rfl, by omega, fun q h hq => ?_⟩, by simp only [Int.toNat_natCast]; omega⟩
            by_cases e : q = j
            · subst e; exact hc
            · exact hlo q h (by omega)
          · left
            refine by_inrD (compare_b _ _ _) ?_
            rw [if_neg (by simpa using mt c1.1 hc)]
            exact ⟨_, rfl, j, rfl, hj, hlo, fun _ => hc⟩
        · left
          rw [if_neg (by simp; omega)]
          exact ⟨_, rfl, j, rfl, hj, hlo, fun h => absurd h hjl⟩
      · obtain ⟨k, rfl, hk, hlo, hhi⟩ := ht
        have w1 : Go.IntKind.wrap .i64 ((i : Int) + 1) = ((i + 1 : Nat) : Int) := W_eq (by omega) (by omega)
        simp only [slcH_bind, slcL_bind, slcZ_bind, slcE_bind, idxS_bind, w1, Int.toNat_natCast, decide_eq_true_eq]
        have fin : ∀ out', out' = sortU (l.take (i + 1)) → ∃ r : (Int × List (V8 Int)) ⊕ List (V8 Int), some (Sum.inl (((i + 1 : Nat) : Int), out')) = some r ∧ ∃ s', r = Sum.inl s' ∧ (∃ i : Nat, s' = ((i : Int), sortU (l.take i)) ∧ i ≤ l.length) ∧ l.length - s'.1.toNat < l.length - ((i : Int)).toNat := fun out' h => by
          subst h
          exact ⟨_, rfl, _, rfl, ⟨i + 1, rfl, by omega⟩, by simp only [Int.toNat_natCast]; omega⟩
        by_cases hkl : k = out.length
        · subst hkl
          rw [if_pos (by simp), if_pos (by omega)]
          have hins : out ++ [l[i]] = sortU (l.take (i + 1)) := hnew _ (by
            have := ins_strict (fun a b : V8 Int => byV8 a < byV8 b) (fun a b c => List.lt_trans) (Nat.le_refl _) hst hlo (fun h => absurd h (Nat.lt_irrefl _))
            simpa using this) (fun y => by simp [or_comm])
          by_cases h0 : out.length = 0
          · have : out = [] := List.eq_nil_of_length_eq_zero h0
            subst this
            rw [if_pos (by simp), if_pos (by simp), if_pos ⟨⟨rfl, by simp⟩, by simp [roomy]⟩, if_pos ⟨⟨by simp, by simp⟩, by simp [roomy]⟩]
            exact fin _ (by simpa using hins)
          · rw [if_neg (by omega), if_neg (by omega), if_pos (by omega), if_pos ⟨Nat.le_refl _, by simp [roomy]; omega⟩]
            exact fin _ (by simpa using hins)
        · have hlt : k < out.length := by omega
          rw [if_neg (by simp; omega), if_pos (by omega), List.getElem?_eq_getElem hlt]
          simp only [Option.bind_some]
          by_cases hx : out[k] = l[i]
          · rw [if_neg (by simpa using hx)]
            exact fin _ (hnew _ hst fun y => ⟨.inr, fun h => by rcases h with rfl | h; rw [← hx]; exact List.getElem_mem hlt; exact h⟩)
          · have hgt : byV8 l[i] < byV8 out[k] := by
              refine Decidable.byContradiction fun hc => hx (byV8_inj (okO _ (List.getElem_mem hlt)) okx (List.le_antisymm (List.not_lt.1 hc) (List.not_lt.1 (hhi hlt))))
            have hins : out.take k ++ l[i] :: out.drop k = sortU (l.take (i + 1)) := hnew _ (ins_strict (fun a b : V8 Int => byV8 a < byV8 b) (fun a b c => List.lt_trans) (by omega) hst hlo (fun _ => hgt)) (fun y => ins_mem k)
            rw [if_pos (by simpa using hx), if_pos (by omega)]
            have hd : List.take (out.length - k) (List.drop k out) = List.drop k out := List.take_of_length_le (by simp)
            by_cases h0 : k = 0
            · subst h0
              rw [if_pos (by omega), if_pos (by omega), if_pos ⟨⟨rfl, by omega⟩, by simp [roomy]; omega⟩, if_pos ⟨⟨by omega, by omega⟩, by simp [roomy]; omega⟩]
              exact fin _ (by simpa using hins)
            · rw [if_neg (by omega), if_pos (by omega), if_pos (by omega), if_pos ⟨⟨rfl, by omega⟩, by simp [roomy]; omega⟩, if_pos ⟨⟨by omega, by omega⟩, by simp [roomy]; omega⟩]
              exact fin _ (by rw [Nat.zero_add, hd, List.drop_zero, List.take_length]; exact hins)
  · subst ht
    exact if_pos (by simp [fzRow])
end Go.L
/- The getters of communities, and the reference's. No conditions. -/
namespace Go.L
open Go.AM Go.Sort
set_option maxRecDepth 100000
set_option linter.unusedSimpArgs false
set_option linter.unusedVariables false

theorem kindR_run (n : Nat) (c : V8 Int) : c_ref03_Kind.S n c = some (kindS c) := by
  show (g_ref03_Kind c).run n = _
  simp only [g_ref03_Kind, G.run, tsOk, if_true, kindS]
  by_cases h0 : c.a0 = 0
  · by_cases h1 : c.a1 = 2
    all_goals (repeat (first | rw [if_pos (by first | (simp only [beq_iff_eq]; omega) | omega)] | rw [if_neg (by first | (simp only [beq_iff_eq]; omega) | omega)])) <;> rfl
  · by_cases h3 : c.a0 = 3
    · by_cases h1 : c.a1 = 12
      all_goals (repeat (first | rw [if_pos (by first | (simp only [beq_iff_eq]; omega) | omega)] | rw [if_neg (by first | (simp only [beq_iff_eq]; omega) | omega)])) <;> rfl
    · by_cases h6 : c.a0 = 6
      · by_cases g0 : c.a1 = 0
        · (repeat (first | rw [if_pos (by first | (simp only [beq_iff_eq]; omega) | omega)] | rw [if_neg (by first | (simp only [beq_iff_eq]; omega) | omega)])) <;> rfl
        by_cases g1 : c.a1 = 1
        · (repeat (first | rw [if_pos (by first | (simp only [beq_iff_eq]; omega) | omega)] | rw [if_neg (by first | (simp only [beq_iff_eq]; omega) | omega)])) <;> rfl
        by_cases g2 : c.a1 = 2
        · (repeat (first | rw [if_pos (by first | (simp only [beq_iff_eq]; omega) | omega)] | rw [if_neg (by first | (simp only [beq_iff_eq]; omega) | omega)])) <;> rfl
        by_cases g3 : c.a1 = 3
        · (repeat (first | rw [if_pos (by first | (simp only [beq_iff_eq]; omega) | omega)] | rw [if_neg (by first | (simp only [beq_iff_eq]; omega) | omega)])) <;> rfl
        by_cases g6 : c.a1 = 6
        all_goals (repeat (first | rw [if_pos (by first | (simp only [beq_iff_eq]; omega) | omega)] | rw [if_neg (by first | (simp only [beq_iff_eq]; omega) | omega)])) <;> rfl
      · (repeat (first | rw [if_pos (by first | (simp only [beq_iff_eq]; omega) | omega)] | rw [if_neg (by first | (simp only [beq_iff_eq]; omega) | omega)])) <;> rfl
theorem kindR_b {n : Nat} (c : V8 Int) {β : Type} (k : c_ref03_Kind.sh.El → Option β) : (c_ref03_Kind.S n c).bind k = k (kindS c) := by rw [kindR_run n]; rfl
def numC (c : V8 Int) : Int := ((((c.a2 * 256 + c.a3) * 256 + c.a4) * 256 + c.a5) * 256 + c.a6) * 256 + c.a7
theorem w64u {x : Int} (h0 : 0 ≤ x) (h1 : x < 18446744073709551616) : Go.IntKind.wrap .u64 x = x := by simp [Go.IntKind.wrap, Go.IntKind.bits, Go.IntKind.signed]; omega
def stA (a x : Int) : Int := Go.IntKind.wrap .u64 ((Go.IntKind.wrap .u64 (a * ((2 : Int) ^ (@Min.min Nat instMinNat (Int.toNat (8 : Int)) (Go.IntKind.bits .u64))))) + (Go.IntKind.wrap .u64 x))
theorem stA_eq {a x : Int} (h0 : 0 ≤ a) (h1 : a < 72057594037927936) (g0 : 0 ≤ x) (g1 : x < 256) : stA a x = a * 256 + x := by
  unfold stA
  have e : (2 : Int) ^ (@Min.min Nat instMinNat (Int.toNat (8 : Int)) (Go.IntKind.bits .u64)) = 256 := by decide
  rw [e, w64u (x := a * 256) (by omega) (by omega), w64u (x := x) (by omega) (by omega), w64u (by omega) (by omega)]
theorem number_run (n : Nat) (c : V8 Int) (h : okC c) : c_ref03_number.S n c = some (numC c) := by
  obtain ⟨h0, h1, h2, h3, h4, h5, h6, h7⟩ := h
  show (g_ref03_number c).run n = _
  simp only [g_ref03_number, G.run, tsOk, if_true]
  refine congrArg (some : Int → Option Int) ?_
  show stA (stA (stA (stA (stA (stA 0 c.a2) c.a3) c.a4) c.a5) c.a6) c.a7 = numC c
  rw [stA_eq (a := 0) (by omega) (by omega) h2.1 h2.2, stA_eq (by omega) (by omega) h3.1 h3.2, stA_eq (by omega) (by omega) h4.1 h4.2, stA_eq (by omega) (by omega) h5.1 h5.2, stA_eq (by omega) (by omega) h6.1 h6.2, stA_eq (by omega) (by omega) h7.1 h7.2]
  unfold numC; omega
theorem number_b {n : Nat} (c : V8 Int) (h : okC c) {β : Type} (k : c_ref03_number.sh.El → Option β) : (c_ref03_number.S n c).bind k = k (numC c) := by rw [number_run n c h]; rfl

/-- The first community of a kind. -/
def firstC (l : List (V8 Int)) (K : Int) : Option (V8 Int) := l.find? fun c => kindS c == K
theorem firstC_step {l : List (V8 Int)} {K : Int} {i : Nat} (hi : i < l.length) (h : firstC (l.take i) K = none) (hk : ¬ kindS l[i] = K) : firstC (l.take (i + 1)) K = none := by
  unfold firstC at *
  rw [List.take_add_one, List.getElem?_eq_getElem hi, List.find?_append, h]
  simp [hk]
theorem firstC_here {l : List (V8 Int)} {K : Int} {i : Nat} (hi : i < l.length) (h : firstC (l.take i) K = none) (hk : kindS l[i] = K) : firstC l K = some l[i] := by
  unfold firstC at *
  have e : l = l.take i ++ l[i] :: l.drop (i + 1) := by rw [← List.drop_eq_getElem_cons hi, List.take_append_drop]
  conv => lhs; rw [e]
  rw [List.find?_append, h, Option.none_or, List.find?_cons]
  simp [hk]
theorem firstC_mem {l : List (V8 Int)} {K : Int} {c : V8 Int} (h : firstC l K = some c) : c ∈ l := List.mem_of_find?_eq_some h
def lowB (a : Int) : Bool := (Go.IntKind.wrap .u8 (((@BitVec.toNat (Go.IntKind.bits .u8) ((BitVec.ofInt (Go.IntKind.bits .u8) a) &&& (BitVec.ofInt (Go.IntKind.bits .u8) (1 : Int)))) : Nat) : Int)) != (0 : Int)
def algB (a : Int) : Int := Go.IntKind.wrap .u8 (((@BitVec.toNat (Go.IntKind.bits .u8) ((BitVec.ofInt (Go.IntKind.bits .u8) a) &&& (BitVec.ofInt (Go.IntKind.bits .u8) (31 : Int)))) : Nat) : Int)
def stB6 (c : V8 Int) : Int := stB (stB (stB (stB (stB (stB 0 c.a2) c.a3) c.a4) c.a5) c.a6) c.a7
theorem body_run (n : Nat) (c : V8 Int) : c_comm_body.S n c = some (stB6 c) := by
  show (g_comm_body c).run n = _
  simp only [g_comm_body, G.run, tsOk, if_true]
  rfl
theorem body_b {n : Nat} (c : V8 Int) {β : Type} (k : c_comm_body.sh.El → Option β) : (c_comm_body.S n c).bind k = k (stB6 c) := by rw [body_run]; rfl

theorem encapOf_v (N : Nat) (l : List (V8 Int)) (hl : l.length < 100000) (hN : l.length < N) : c_comm_EncapOf.S N l = some (match firstC l 2 with | some c => (Go.IntKind.wrap .i64 (stB (stB 0 c.a6) c.a7), true) | none => ((0 : Int), false)) := by
  show (g_comm_EncapOf l).run N = _
  simp only [g_comm_EncapOf, G.run, tsOk, if_true, lenO_bind, idxO_bind, kind_b, body_b]
  refine bind_ex (I := fun s => ∃ i : Nat, s = (i : Int) ∧ i ≤ l.length ∧ firstC (l.take i) 2 = none) (m := fun s => l.length - s.toNat) (Q := fun (t : Int ⊕ Unit) => (∃ c, firstC l 2 = some c ∧ t = .inl (Go.IntKind.wrap .i64 (stB (stB 0 c.a6) c.a7))) ∨ (firstC l 2 = none ∧ t = .inr ())) ⟨0, rfl, Nat.zero_le _, rfl⟩ (by simp; omega) (fun s hs => ?_) (fun t ht => ?_)
  · obtain ⟨i, rfl, hi, hno⟩ := hs
    by_cases he : i = l.length
    · left
      subst he
      rw [if_neg (by simp)]
      exact ⟨_, rfl, .inr ⟨by rwa [List.take_length] at hno, rfl⟩⟩
    · have hil : i < l.length := by omega
      have e1 : at? l (i : Int) = some l[i] := by rw [at?_nat]; exact List.getElem?_eq_getElem hil
      rw [if_pos (by simp; omega), e1]
      simp only [Option.bind_some, W_eq (x := (i : Int) + 1) (n := i + 1) (by omega) (by omega)]
      by_cases hx : kindS l[i] = 2
      · left
        rw [if_pos (by simpa using hx)]
        exact ⟨_, rfl, .inl ⟨l[i], firstC_here hil hno hx, rfl⟩⟩
      · right
        rw [if_neg (by simpa using hx)]
        exact ⟨_, rfl, ⟨i + 1, rfl, by omega, firstC_step hil hno hx⟩, by simp only [Int.toNat_natCast]; omega⟩
  · rcases ht with ⟨c, h, rfl⟩ | ⟨h, rfl⟩
    · rw [h]; rfl
    · rw [h]; rfl
theorem encapOf_b {N : Nat} (l : List (V8 Int)) (hl : l.length < 100000) (hN : l.length < N) {β : Type} (k : c_comm_EncapOf.sh.El → Option β) : (c_comm_EncapOf.S N l).bind k = k (match firstC l 2 with | some c => (Go.IntKind.wrap .i64 (stB (stB 0 c.a6) c.a7), true) | none => ((0 : Int), false)) := by
  rw [encapOf_v N l hl hN]; rfl

theorem mobilityOf_v (N : Nat) (l : List (V8 Int)) (hl : l.length < 100000) (hN : l.length < N) : c_comm_MobilityOf.S N l = some (match firstC l 3 with | some c => (lowB c.a2, Go.IntKind.wrap .u32 (stB (stB (stB (stB 0 c.a4) c.a5) c.a6) c.a7), true) | none => (false, (0 : Int), false)) := by
  show (g_comm_MobilityOf l).run N = _
  simp only [g_comm_MobilityOf, G.run, tsOk, if_true, lenO_bind, idxO_bind, kind_b, body_b]
  refine bind_ex (I := fun s => ∃ i : Nat, s = (i : Int) ∧ i ≤ l.length ∧ firstC (l.take i) 3 = none) (m := fun s => l.length - s.toNat) (Q := fun (t : (Bool × Int) ⊕ Unit) => (∃ c, firstC l 3 = some c ∧ t = .inl (lowB c.a2, Go.IntKind.wrap .u32 (stB (stB (stB (stB 0 c.a4) c.a5) c.a6) c.a7))) ∨ (firstC l 3 = none ∧ t = .inr ())) ⟨0, rfl, Nat.zero_le _, rfl⟩ (by simp; omega) (fun s hs => ?_) (fun t ht => ?_)
  · obtain ⟨i, rfl, hi, hno⟩ := hs
    by_cases he : i = l.length
    · left
      subst he
      rw [if_neg (by simp)]
      exact ⟨_, rfl, .inr ⟨by rwa [List.take_length] at hno, rfl⟩⟩
    · have hil : i < l.length := by omega
      have e1 : at? l (i : Int) = some l[i] := by rw [at?_nat]; exact List.getElem?_eq_getElem hil
      rw [if_pos (by simp; omega), e1]
      simp only [Option.bind_some, W_eq (x := (i : Int) + 1) (n := i + 1) (by omega) (by omega)]
      by_cases hx : kindS l[i] = 3
      · left
        rw [if_pos (by simpa using hx)]
        exact ⟨_, rfl, .inl ⟨l[i], firstC_here hil hno hx, rfl⟩⟩
      · right
        rw [if_neg (by simpa using hx)]
        exact ⟨_, rfl, ⟨i + 1, rfl, by omega, firstC_step hil hno hx⟩, by simp only [Int.toNat_natCast]; omega⟩
  · rcases ht with ⟨c, h, rfl⟩ | ⟨h, rfl⟩
    · rw [h]; rfl
    · rw [h]; rfl
theorem mobilityOf_b {N : Nat} (l : List (V8 Int)) (hl : l.length < 100000) (hN : l.length < N) {β : Type} (k : c_comm_MobilityOf.sh.El → Option β) : (c_comm_MobilityOf.S N l).bind k = k (match firstC l 3 with | some c => (lowB c.a2, Go.IntKind.wrap .u32 (stB (stB (stB (stB 0 c.a4) c.a5) c.a6) c.a7), true) | none => (false, (0 : Int), false)) := by
  rw [mobilityOf_v N l hl hN]; rfl

theorem labelOf_v (N : Nat) (l : List (V8 Int)) (hl : l.length < 100000) (hN : l.length < N) : c_comm_LabelOf.S N l = some (match firstC l 4 with | some c => (lowB c.a2, Go.IntKind.wrap .u32 (stB (stB (stB 0 c.a5) c.a6) c.a7), true) | none => (false, (0 : Int), false)) := by
  show (g_comm_LabelOf l).run N = _
  simp only [g_comm_LabelOf, G.run, tsOk, if_true, lenO_bind, idxO_bind, kind_b, body_b]
  refine bind_ex (I := fun s => ∃ i : Nat, s = (i : Int) ∧ i ≤ l.length ∧ firstC (l.take i) 4 = none) (m := fun s => l.length - s.toNat) (Q := fun (t : (Bool × Int) ⊕ Unit) => (∃ c, firstC l 4 = some c ∧ t = .inl (lowB c.a2, Go.IntKind.wrap .u32 (stB (stB (stB 0 c.a5) c.a6) c.a7))) ∨ (firstC l 4 = none ∧ t = .inr ())) ⟨0, rfl, Nat.zero_le _, rfl⟩ (by simp; omega) (fun s hs => ?_) (fun t ht => ?_)
  · obtain ⟨i, rfl, hi, hno⟩ := hs
    by_cases he : i = l.length
    · left
      subst he
      rw [if_neg (by simp)]
      exact ⟨_, rfl, .inr ⟨by rwa [List.take_length] at hno, rfl⟩⟩
    · have hil : i < l.length := by omega
      have e1 : at? l (i : Int) = some l[i] := by rw [at?_nat]; exact List.getElem?_eq_getElem hil
      rw [if_pos (by simp; omega), e1]
      simp only [Option.bind_some, W_eq (x := (i : Int) + 1) (n := i + 1) (by omega) (by omega)]
      by_cases hx : kindS l[i] = 4
      · left
        rw [if_pos (by simpa using hx)]
        exact ⟨_, rfl, .inl ⟨l[i], firstC_here hil hno hx, rfl⟩⟩
      · right
        rw [if_neg (by simpa using hx)]
        exact ⟨_, rfl, ⟨i + 1, rfl, by omega, firstC_step hil hno hx⟩, by simp only [Int.toNat_natCast]; omega⟩
  · rcases ht with ⟨c, h, rfl⟩ | ⟨h, rfl⟩
    · rw [h]; rfl
    · rw [h]; rfl
theorem labelOf_b {N : Nat} (l : List (V8 Int)) (hl : l.length < 100000) (hN : l.length < N) {β : Type} (k : c_comm_LabelOf.sh.El → Option β) : (c_comm_LabelOf.S N l).bind k = k (match firstC l 4 with | some c => (lowB c.a2, Go.IntKind.wrap .u32 (stB (stB (stB 0 c.a5) c.a6) c.a7), true) | none => (false, (0 : Int), false)) := by
  rw [labelOf_v N l hl hN]; rfl

theorem importOf_v (N : Nat) (l : List (V8 Int)) (hl : l.length < 100000) (hN : l.length < N) : c_comm_ImportOf.S N l = some (match firstC l 5 with | some c => (stB6 c, true) | none => ((0 : Int), false)) := by
  show (g_comm_ImportOf l).run N = _
  simp only [g_comm_ImportOf, G.run, tsOk, if_true, lenO_bind, idxO_bind, kind_b, body_b]
  refine bind_ex (I := fun s => ∃ i : Nat, s = (i : Int) ∧ i ≤ l.length ∧ firstC (l.take i) 5 = none) (m := fun s => l.length - s.toNat) (Q := fun (t : Int ⊕ Unit) => (∃ c, firstC l 5 = some c ∧ t = .inl (stB6 c)) ∨ (firstC l 5 = none ∧ t = .inr ())) ⟨0, rfl, Nat.zero_le _, rfl⟩ (by simp; omega) (fun s hs => ?_) (fun t ht => ?_)
  · obtain ⟨i, rfl, hi, hno⟩ := hs
    by_cases he : i = l.length
    · left
      subst he
      rw [if_neg (by simp)]
      exact ⟨_, rfl, .inr ⟨by rwa [List.take_length] at hno, rfl⟩⟩
    · have hil : i < l.length := by omega
      have e1 : at? l (i : Int) = some l[i] := by rw [at?_nat]; exact List.getElem?_eq_getElem hil
      rw [if_pos (by simp; omega), e1]
      simp only [Option.bind_some, W_eq (x := (i : Int) + 1) (n := i + 1) (by omega) (by omega)]
      by_cases hx : kindS l[i] = 5
      · left
        rw [if_pos (by simpa using hx)]
        exact ⟨_, rfl, .inl ⟨l[i], firstC_here hil hno hx, rfl⟩⟩
      · right
        rw [if_neg (by simpa using hx)]
        exact ⟨_, rfl, ⟨i + 1, rfl, by omega, firstC_step hil hno hx⟩, by simp only [Int.toNat_natCast]; omega⟩
  · rcases ht with ⟨c, h, rfl⟩ | ⟨h, rfl⟩
    · rw [h]; rfl
    · rw [h]; rfl
theorem importOf_b {N : Nat} (l : List (V8 Int)) (hl : l.length < 100000) (hN : l.length < N) {β : Type} (k : c_comm_ImportOf.sh.El → Option β) : (c_comm_ImportOf.S N l).bind k = k (match firstC l 5 with | some c => (stB6 c, true) | none => ((0 : Int), false)) := by
  rw [importOf_v N l hl hN]; rfl

theorem routerOf_v (N : Nat) (l : List (V8 Int)) (hl : l.length < 100000) (hN : l.length < N) : c_comm_RouterOf.S N l = some (match firstC l 6 with | some c => (stB6 c, true) | none => ((0 : Int), false)) := by
  show (g_comm_RouterOf l).run N = _
  simp only [g_comm_RouterOf, G.run, tsOk, if_true, lenO_bind, idxO_bind, kind_b, body_b]
  refine bind_ex (I := fun s => ∃ i : Nat, s = (i : Int) ∧ i ≤ l.length ∧ firstC (l.take i) 6 = none) (m := fun s => l.length - s.toNat) (Q := fun (t : Int ⊕ Unit) => (∃ c, firstC l 6 = some c ∧ t = .inl (stB6 c)) ∨ (firstC l 6 = none ∧ t = .inr ())) ⟨0, rfl, Nat.zero_le _, rfl⟩ (by simp; omega) (fun s hs => ?_) (fun t ht => ?_)
  · obtain ⟨i, rfl, hi, hno⟩ := hs
    by_cases he : i = l.length
    · left
      subst he
      rw [if_neg (by simp)]
      exact ⟨_, rfl, .inr ⟨by rwa [List.take_length] at hno, rfl⟩⟩
    · have hil : i < l.length := by omega
      have e1 : at? l (i : Int) = some l[i] := by rw [at?_nat]; exact List.getElem?_eq_getElem hil
      rw [if_pos (by simp; omega), e1]
      simp only [Option.bind_some, W_eq (x := (i : Int) + 1) (n := i + 1) (by omega) (by omega)]
      by_cases hx : kindS l[i] = 6
      · left
        rw [if_pos (by simpa using hx)]
        exact ⟨_, rfl, .inl ⟨l[i], firstC_here hil hno hx, rfl⟩⟩
      · right
        rw [if_neg (by simpa using hx)]
        exact ⟨_, rfl, ⟨i + 1, rfl, by omega, firstC_step hil hno hx⟩, by simp only [Int.toNat_natCast]; omega⟩
  · rcases ht with ⟨c, h, rfl⟩ | ⟨h, rfl⟩
    · rw [h]; rfl
    · rw [h]; rfl
theorem routerOf_b {N : Nat} (l : List (V8 Int)) (hl : l.length < 100000) (hN : l.length < N) {β : Type} (k : c_comm_RouterOf.sh.El → Option β) : (c_comm_RouterOf.S N l).bind k = k (match firstC l 6 with | some c => (stB6 c, true) | none => ((0 : Int), false)) := by
  rw [routerOf_v N l hl hN]; rfl

theorem electionOf_v (N : Nat) (l : List (V8 Int)) (hl : l.length < 100000) (hN : l.length < N) : c_comm_ElectionOf.S N l = some (match firstC l 7 with | some c => (Go.IntKind.wrap .i64 (algB c.a2), Go.IntKind.wrap .i64 (stB (stB 0 c.a6) c.a7), true) | none => ((0 : Int), (0 : Int), false)) := by
  show (g_comm_ElectionOf l).run N = _
  simp only [g_comm_ElectionOf, G.run, tsOk, if_true, lenO_bind, idxO_bind, kind_b, body_b]
  refine bind_ex (I := fun s => ∃ i : Nat, s = (i : Int) ∧ i ≤ l.length ∧ firstC (l.take i) 7 = none) (m := fun s => l.length - s.toNat) (Q := fun (t : (Int × Int) ⊕ Unit) => (∃ c, firstC l 7 = some c ∧ t = .inl (Go.IntKind.wrap .i64 (algB c.a2), Go.IntKind.wrap .i64 (stB (stB 0 c.a6) c.a7))) ∨ (firstC l 7 = none ∧ t = .inr ())) ⟨0, rfl, Nat.zero_le _, rfl⟩ (by simp; omega) (fun s hs => ?_) (fun t ht => ?_)
  · obtain ⟨i, rfl, hi, hno⟩ := hs
    by_cases he : i = l.length
    · left
      subst he
      rw [if_neg (by simp)]
      exact ⟨_, rfl, .inr ⟨by rwa [List.take_length] at hno, rfl⟩⟩
    · have hil : i < l.length := by omega
      have e1 : at? l (i : Int) = some l[i] := by rw [at?_nat]; exact List.getElem?_eq_getElem hil
      rw [if_pos (by simp; omega), e1]
      simp only [Option.bind_some, W_eq (x := (i : Int) + 1) (n := i + 1) (by omega) (by omega)]
      by_cases hx : kindS l[i] = 7
      · left
        rw [if_pos (by simpa using hx)]
        exact ⟨_, rfl, .inl ⟨l[i], firstC_here hil hno hx, rfl⟩⟩
      · right
        rw [if_neg (by simpa using hx)]
        exact ⟨_, rfl, ⟨i + 1, rfl, by omega, firstC_step hil hno hx⟩, by simp only [Int.toNat_natCast]; omega⟩
  · rcases ht with ⟨c, h, rfl⟩ | ⟨h, rfl⟩
    · rw [h]; rfl
    · rw [h]; rfl
theorem electionOf_b {N : Nat} (l : List (V8 Int)) (hl : l.length < 100000) (hN : l.length < N) {β : Type} (k : c_comm_ElectionOf.sh.El → Option β) : (c_comm_ElectionOf.S N l).bind k = k (match firstC l 7 with | some c => (Go.IntKind.wrap .i64 (algB c.a2), Go.IntKind.wrap .i64 (stB (stB 0 c.a6) c.a7), true) | none => ((0 : Int), (0 : Int), false)) := by
  rw [electionOf_v N l hl hN]; rfl

theorem first_run (N : Nat) (l : List (V8 Int)) (K : Int) (hl : l.length < 100000) (hN : l.length < N) (hok : ∀ x ∈ l, okC x) : c_ref03_first.S N (l, K) = some (match firstC l K with | some c => (numC c, true) | none => ((0 : Int), false)) := by
  show (g_ref03_first l K).run N = _
  simp only [g_ref03_first, G.run, tsOk, if_true, lenO_bind, idxO_bind, kindR_b]
  refine bind_ex (I := fun s => ∃ i : Nat, s = (i : Int) ∧ i ≤ l.length ∧ firstC (l.take i) K = none) (m := fun s => l.length - s.toNat) (Q := fun (t : Int ⊕ Unit) => (∃ c, firstC l K = some c ∧ t = .inl (numC c)) ∨ (firstC l K = none ∧ t = .inr ())) ⟨0, rfl, Nat.zero_le _, rfl⟩ (by simp; omega) (fun s hs => ?_) (fun t ht => ?_)
  · obtain ⟨i, rfl, hi, hno⟩ := hs
    by_cases he : i = l.length
    · left
      subst he
      rw [if_neg (by simp)]
      exact ⟨_, rfl, .inr ⟨by rwa [List.take_length] at hno, rfl⟩⟩
    · have hil : i < l.length := by omega
      have e1 : at? l (i : Int) = some l[i] := by rw [at?_nat]; exact List.getElem?_eq_getElem hil
      rw [if_pos (by simp; omega), e1]
      simp only [Option.bind_some, W_eq (x := (i : Int) + 1) (n := i + 1) (by omega) (by omega)]
      by_cases hx : kindS l[i] = K
      · left
        rw [if_pos (by simpa using hx)]
        refine by_inrD (number_b _ (hok _ (List.getElem_mem hil)) _) ?_
        exact ⟨_, rfl, .inl ⟨l[i], firstC_here hil hno hx, rfl⟩⟩
      · right
        rw [if_neg (by simpa using hx)]
        exact ⟨_, rfl, ⟨i + 1, rfl, by omega, firstC_step hil hno hx⟩, by simp only [Int.toNat_natCast]; omega⟩
  · rcases ht with ⟨c, h, rfl⟩ | ⟨h, rfl⟩
    · rw [h]; rfl
    · rw [h]; rfl
theorem first_b {N : Nat} (l : List (V8 Int)) (K : Int) (hl : l.length < 100000) (hN : l.length < N) (hok : ∀ x ∈ l, okC x) {β : Type} (k : c_ref03_first.sh.El → Option β) : (c_ref03_first.S N (l, K)).bind k = k (match firstC l K with | some c => (numC c, true) | none => ((0 : Int), false)) := by
  rw [first_run N l K hl hN hok]; rfl
def andM (x m : Int) : Int := (((@BitVec.toNat (Go.IntKind.bits .u64) ((BitVec.ofInt (Go.IntKind.bits .u64) x) &&& (BitVec.ofInt (Go.IntKind.bits .u64) m))) : Nat) : Int)
theorem andM_eq {x : Int} (k : Nat) (hk : k < 64) (h0 : 0 ≤ x) (h1 : x < 18446744073709551616) {m : Int} (hm : m = ((2 ^ k - 1 : Nat) : Int)) : andM x m = x % ((2 ^ k : Nat) : Int) := by
  subst hm
  obtain ⟨p, rfl⟩ := Int.eq_ofNat_of_zero_le h0
  unfold andM
  have h2 : 2 ^ k ≤ 2 ^ 64 := Nat.pow_le_pow_right (by omega) (by omega)
  have h3 : 0 < 2 ^ k := Nat.pow_pos (by omega)
  rw [BitVec.toNat_and, BitVec.ofInt_natCast, BitVec.ofInt_natCast, BitVec.toNat_ofNat, BitVec.toNat_ofNat, Nat.mod_eq_of_lt (by simp only [Go.IntKind.bits]; omega), Nat.mod_eq_of_lt (by simp only [Go.IntKind.bits]; omega), Nat.and_two_pow_sub_one_eq_mod]
  rfl
theorem low_eq {a : Int} (h0 : 0 ≤ a) (h1 : a < 256) (m : Int) (k : Nat) (hk : k < 8) (hm : m = ((2 ^ k - 1 : Nat) : Int)) : Go.IntKind.wrap .u8 (((@BitVec.toNat (Go.IntKind.bits .u8) ((BitVec.ofInt (Go.IntKind.bits .u8) a) &&& (BitVec.ofInt (Go.IntKind.bits .u8) m))) : Nat) : Int) = a % ((2 ^ k : Nat) : Int) := by
  subst hm
  obtain ⟨p, rfl⟩ := Int.eq_ofNat_of_zero_le h0
  have h2 : 2 ^ k ≤ 2 ^ 8 := Nat.pow_le_pow_right (by omega) (by omega)
  have h3 : 0 < 2 ^ k := Nat.pow_pos (by omega)
  have h4 : p % 2 ^ k < 2 ^ k := Nat.mod_lt _ h3
  rw [BitVec.toNat_and, BitVec.ofInt_natCast, BitVec.ofInt_natCast, BitVec.toNat_ofNat, BitVec.toNat_ofNat, Nat.mod_eq_of_lt (by simp only [Go.IntKind.bits]; omega), Nat.mod_eq_of_lt (by simp only [Go.IntKind.bits]; omega), Nat.and_two_pow_sub_one_eq_mod]
  simp only [Go.IntKind.wrap, Go.IntKind.bits, Go.IntKind.signed]
  have e : (((p % 2 ^ k : Nat)) : Int) = (p : Int) % ((2 ^ k : Nat) : Int) := rfl
  have h5 : p % 2 ^ k < 256 := Nat.lt_of_lt_of_le h4 h2
  rw [← e]
  generalize p % 2 ^ k = q at h5
  simp; omega
theorem num_rng {c : V8 Int} (h : okC c) : 0 ≤ numC c ∧ numC c < 281474976710656 := by
  obtain ⟨h0, h1, h2, h3, h4, h5, h6, h7⟩ := h
  unfold numC; omega
theorem fd40 (x : Int) : Int.fdiv x ((2 : Int) ^ (@Min.min Nat instMinNat (Int.toNat (40 : Int)) (Go.IntKind.bits .u64))) = x / 1099511627776 := by
  rw [Int.fdiv_eq_ediv_of_nonneg _ (by decide)]; rfl
theorem fd32 (x : Int) : Int.fdiv x ((2 : Int) ^ (@Min.min Nat instMinNat (Int.toNat (32 : Int)) (Go.IntKind.bits .u64))) = x / 4294967296 := by
  rw [Int.fdiv_eq_ediv_of_nonneg _ (by decide)]; rfl
theorem num40 {c : V8 Int} (h : okC c) : numC c / 1099511627776 = c.a2 := by
  obtain ⟨h0, h1, h2, h3, h4, h5, h6, h7⟩ := h
  unfold numC; omega
theorem st6 {c : V8 Int} (h : okC c) : stB6 c = numC c := by
  obtain ⟨h0, h1, h2, h3, h4, h5, h6, h7⟩ := h
  unfold stB6
  rw [st4 h2 h3 h4 h5, stB_eq (by omega) (by omega) h6.1 h6.2, stB_eq (by omega) (by omega) h7.1 h7.2]
  unfold numC; omega
theorem w32m {x : Int} : Go.IntKind.wrap .u32 x = x % 4294967296 := by simp [Go.IntKind.wrap, Go.IntKind.bits, Go.IntKind.signed]

theorem encapOfR_b {N : Nat} (l : List (V8 Int)) (hl : l.length < 100000) (hN : l.length < N) (hok : ∀ x ∈ l, okC x) {β : Type} (k : c_ref03_EncapOf.sh.El → Option β) : (c_ref03_EncapOf.S N l).bind k = k (match firstC l 2 with | some c => (Go.IntKind.wrap .i64 (stB (stB 0 c.a6) c.a7), true) | none => ((0 : Int), false)) := by
  have : c_ref03_EncapOf.S N l = some (match firstC l 2 with | some c => (Go.IntKind.wrap .i64 (stB (stB 0 c.a6) c.a7), true) | none => ((0 : Int), false)) := by
    show (g_ref03_EncapOf l).run N = _
    simp only [g_ref03_EncapOf, G.run, tsOk, if_true]
    refine (first_b l 2 hl hN hok _).trans ?_
    cases h : firstC l 2 with
    | none => rfl
    | some c =>
      have hc : okC c := hok c (firstC_mem h)
      have hr := num_rng hc
      have h40 := num40 hc
      obtain ⟨h0, h1, h2, h3, h4, h5, h6, h7⟩ := hc
      refine congrArg some (Prod.ext ?_ rfl)
      show Go.IntKind.wrap .i64 (Go.IntKind.wrap .u64 (andM (numC c) 65535)) = Go.IntKind.wrap .i64 (stB (stB 0 c.a6) c.a7)
      rw [andM_eq (m := 65535) 16 (by omega) hr.1 (by omega) rfl, w64u (by omega) (by omega), st2 h6 h7]
      congr 1
      unfold numC; omega
  rw [this]; rfl

theorem mobilityOfR_b {N : Nat} (l : List (V8 Int)) (hl : l.length < 100000) (hN : l.length < N) (hok : ∀ x ∈ l, okC x) {β : Type} (k : c_ref03_MobilityOf.sh.El → Option β) : (c_ref03_MobilityOf.S N l).bind k = k (match firstC l 3 with | some c => (lowB c.a2, Go.IntKind.wrap .u32 (stB (stB (stB (stB 0 c.a4) c.a5) c.a6) c.a7), true) | none => (false, (0 : Int), false)) := by
  have : c_ref03_MobilityOf.S N l = some (match firstC l 3 with | some c => (lowB c.a2, Go.IntKind.wrap .u32 (stB (stB (stB (stB 0 c.a4) c.a5) c.a6) c.a7), true) | none => (false, (0 : Int), false)) := by
    show (g_ref03_MobilityOf l).run N = _
    simp only [g_ref03_MobilityOf, G.run, tsOk, if_true]
    refine (first_b l 3 hl hN hok _).trans ?_
    cases h : firstC l 3 with
    | none => rfl
    | some c =>
      have hc : okC c := hok c (firstC_mem h)
      have hr := num_rng hc
      have h40 := num40 hc
      obtain ⟨h0, h1, h2, h3, h4, h5, h6, h7⟩ := hc
      refine congrArg some (Prod.ext ?_ (Prod.ext ?_ rfl))
      · show ((Go.IntKind.wrap .u64 (andM (Int.fdiv (numC c) _) 1)) == (1 : Int)) = lowB c.a2
        rw [fd40, h40, andM_eq (m := 1) 1 (by omega) h2.1 (by omega) rfl, w64u (by omega) (by omega)]
        unfold lowB
        rw [low_eq h2.1 h2.2 1 1 (by omega) rfl, Bool.eq_iff_iff]
        simp; omega
      · show Go.IntKind.wrap .u32 (numC c) = Go.IntKind.wrap .u32 (stB (stB (stB (stB 0 c.a4) c.a5) c.a6) c.a7)
        rw [st4 h4 h5 h6 h7, w32m, w32m]
        unfold numC; omega
  rw [this]; rfl

theorem labelOfR_b {N : Nat} (l : List (V8 Int)) (hl : l.length < 100000) (hN : l.length < N) (hok : ∀ x ∈ l, okC x) {β : Type} (k : c_ref03_LabelOf.sh.El → Option β) : (c_ref03_LabelOf.S N l).bind k = k (match firstC l 4 with | some c => (lowB c.a2, Go.IntKind.wrap .u32 (stB (stB (stB 0 c.a5) c.a6) c.a7), true) | none => (false, (0 : Int), false)) := by
  have : c_ref03_LabelOf.S N l = some (match firstC l 4 with | some c => (lowB c.a2, Go.IntKind.wrap .u32 (stB (stB (stB 0 c.a5) c.a6) c.a7), true) | none => (false, (0 : Int), false)) := by
    show (g_ref03_LabelOf l).run N = _
    simp only [g_ref03_LabelOf, G.run, tsOk, if_true]
    refine (first_b l 4 hl hN hok _).trans ?_
    cases h : firstC l 4 with
    | none => rfl
    | some c =>
      have hc : okC c := hok c (firstC_mem h)
      have hr := num_rng hc
      have h40 := num40 hc
      obtain ⟨h0, h1, h2, h3, h4, h5, h6, h7⟩ := hc
      refine congrArg some (Prod.ext ?_ (Prod.ext ?_ rfl))
      · show ((Go.IntKind.wrap .u64 (andM (Int.fdiv (numC c) _) 1)) == (1 : Int)) = lowB c.a2
        rw [fd40, h40, andM_eq (m := 1) 1 (by omega) h2.1 (by omega) rfl, w64u (by omega) (by omega)]
        unfold lowB
        rw [low_eq h2.1 h2.2 1 1 (by omega) rfl, Bool.eq_iff_iff]
        simp; omega
      · show Go.IntKind.wrap .u32 (Go.IntKind.wrap .u64 (andM (numC c) 16777215)) = Go.IntKind.wrap .u32 (stB (stB (stB 0 c.a5) c.a6) c.a7)
        rw [andM_eq (m := 16777215) 24 (by omega) hr.1 (by omega) rfl, w64u (by omega) (by omega), st3 h5 h6 h7]
        congr 1
        unfold numC; omega
  rw [this]; rfl

theorem importOfR_b {N : Nat} (l : List (V8 Int)) (hl : l.length < 100000) (hN : l.length < N) (hok : ∀ x ∈ l, okC x) {β : Type} (k : c_ref03_ImportOf.sh.El → Option β) : (c_ref03_ImportOf.S N l).bind k = k (match firstC l 5 with | some c => (stB6 c, true) | none => ((0 : Int), false)) := by
  have : c_ref03_ImportOf.S N l = some (match firstC l 5 with | some c => (stB6 c, true) | none => ((0 : Int), false)) := by
    show (g_ref03_ImportOf l).run N = _
    simp only [g_ref03_ImportOf, G.run, tsOk, if_true]
    refine (first_b l 5 hl hN hok _).trans ?_
    cases h : firstC l 5 with
    | none => rfl
    | some c =>
      have hc : okC c := hok c (firstC_mem h)
      have hr := num_rng hc
      have h40 := num40 hc
      exact congrArg some (Prod.ext (st6 hc).symm rfl)
  rw [this]; rfl

theorem routerOfR_b {N : Nat} (l : List (V8 Int)) (hl : l.length < 100000) (hN : l.length < N) (hok : ∀ x ∈ l, okC x) {β : Type} (k : c_ref03_RouterOf.sh.El → Option β) : (c_ref03_RouterOf.S N l).bind k = k (match firstC l 6 with | some c => (stB6 c, true) | none => ((0 : Int), false)) := by
  have : c_ref03_RouterOf.S N l = some (match firstC l 6 with | some c => (stB6 c, true) | none => ((0 : Int), false)) := by
    show (g_ref03_RouterOf l).run N = _
    simp only [g_ref03_RouterOf, G.run, tsOk, if_true]
    refine (first_b l 6 hl hN hok _).trans ?_
    cases h : firstC l 6 with
    | none => rfl
    | some c =>
      have hc : okC c := hok c (firstC_mem h)
      have hr := num_rng hc
      have h40 := num40 hc
      exact congrArg some (Prod.ext (st6 hc).symm rfl)
  rw [this]; rfl

theorem electionOfR_b {N : Nat} (l : List (V8 Int)) (hl : l.length < 100000) (hN : l.length < N) (hok : ∀ x ∈ l, okC x) {β : Type} (k : c_ref03_ElectionOf.sh.El → Option β) : (c_ref03_ElectionOf.S N l).bind k = k (match firstC l 7 with | some c => (Go.IntKind.wrap .i64 (algB c.a2), Go.IntKind.wrap .i64 (stB (stB 0 c.a6) c.a7), true) | none => ((0 : Int), (0 : Int), false)) := by
  have : c_ref03_ElectionOf.S N l = some (match firstC l 7 with | some c => (Go.IntKind.wrap .i64 (algB c.a2), Go.IntKind.wrap .i64 (stB (stB 0 c.a6) c.a7), true) | none => ((0 : Int), (0 : Int), false)) := by
    show (g_ref03_ElectionOf l).run N = _
    simp only [g_ref03_ElectionOf, G.run, tsOk, if_true]
    refine (first_b l 7 hl hN hok _).trans ?_
    cases h : firstC l 7 with
    | none => rfl
    | some c =>
      have hc : okC c := hok c (firstC_mem h)
      have hr := num_rng hc
      have h40 := num40 hc
      obtain ⟨h0, h1, h2, h3, h4, h5, h6, h7⟩ := hc
      refine congrArg some (Prod.ext ?_ (Prod.ext ?_ rfl))
      · show Go.IntKind.wrap .i64 (Go.IntKind.wrap .u64 (andM (Int.fdiv (numC c) _) 31)) = Go.IntKind.wrap .i64 (algB c.a2)
        rw [fd40, h40, andM_eq (m := 31) 5 (by omega) h2.1 (by omega) rfl, w64u (by omega) (by omega)]
        unfold algB
        rw [low_eq h2.1 h2.2 31 5 (by omega) rfl]
      · show Go.IntKind.wrap .i64 (Go.IntKind.wrap .u64 (andM (numC c) 65535)) = Go.IntKind.wrap .i64 (stB (stB 0 c.a6) c.a7)
        rw [andM_eq (m := 65535) 16 (by omega) hr.1 (by omega) rfl, w64u (by omega) (by omega), st2 h6 h7]
        congr 1
        unfold numC; omega
  rw [this]; rfl

end Go.L
/- What the reference's Targets computes. No conditions. -/
namespace Go.L
open Go.AM Go.Sort
set_option maxRecDepth 100000
set_option linter.unusedSimpArgs false
set_option linter.unusedVariables false

theorem uniq_ext {a : List Int} (l : List Int) (ha : a.Pairwise (fun a b => a < b)) (hm : ∀ x, x ∈ a ↔ x ∈ l) : a = uniq l :=
  strict_ext (fun a b : Int => a < b) (fun a => Int.lt_irrefl a) (fun a b h => by omega) a (uniq l) ha (uniq_strict l) fun x => by rw [hm, uniq_mem]
theorem uniq_len (l : List Int) : (uniq l).length ≤ l.length := by
  unfold uniq Lib.compact Lib.compactUpTo
  rw [List.length_map]
  refine Nat.le_trans (List.length_filter_le _ _) ?_
  simp
theorem tgtS_ok {c : V8 Int} (h : okC c) : tgtS c = if kindS c = 1 ∧ numC c / 4294967296 = 65000 then some (Go.IntKind.wrap .u32 (numC c)) else none := by
  obtain ⟨h0, h1, h2, h3, h4, h5, h6, h7⟩ := h
  unfold tgtS
  have e1 : stB (stB 0 c.a2) c.a3 = numC c / 4294967296 := by rw [st2 h2 h3]; unfold numC; omega
  have e2 : Go.IntKind.wrap .u32 (stB (stB (stB (stB 0 c.a4) c.a5) c.a6) c.a7) = Go.IntKind.wrap .u32 (numC c) := by
    rw [st4 h4 h5 h6 h7, w32m, w32m]; unfold numC; omega
  rw [e1, e2]
theorem refTargets_run (M : Nat) (l : List (V8 Int)) (hl : l.length < 100000) (hM : l.length + 3 < M) (hok : ∀ x ∈ l, okC x) : c_ref03_Targets.S M l = some (uniq (l.filterMap tgtS)) := by
  show (g_ref03_Targets l).run M = _
  simp only [g_ref03_Targets, G.run, tsOk, if_true, lenO_bind, idxO_bind, idxS_bind, ldO_bind, slcH_bind, slcL_bind, slcZ_bind, slcE_bind, appS_bind, appE_bind, appF_bind, eqz, ltn, kindR_b]
  refine bind_ex (I := fun s => ∃ i : Nat, s = ((i : Int), uniq ((l.take i).filterMap tgtS)) ∧ i ≤ l.length) (m := fun s => l.length - s.1.toNat) (Q := fun (t : List Int) => t = uniq (l.filterMap tgtS)) ⟨0, by rw [List.take_zero]; exact congrArg (Prod.mk (0 : Int)) (List.eq_nil_of_length_eq_zero (Nat.le_zero.1 (uniq_len []))).symm, Nat.zero_le _⟩ (by simp; omega) (fun s hs => ?_) (fun t ht => ?_)
  · obtain ⟨i, rfl, hi⟩ := hs
    by_cases he : i = l.length
    · left
      subst he
      rw [if_neg (by simp)]
      exact ⟨_, rfl, by rw [List.take_length]⟩
    · right
      have hil : i < l.length := by omega
      have e1 : at? l (i : Int) = some l[i] := by rw [at?_nat]; exact List.getElem?_eq_getElem hil
      have okx : okC l[i] := hok _ (List.getElem_mem hil)
      have hts := tgtS_ok okx
      have hst := uniq_strict ((l.take i).filterMap tgtS)
      have hmem := @uniq_mem ((l.take i).filterMap tgtS)
      have hlen := Nat.le_trans (uniq_len ((l.take i).filterMap tgtS)) (List.length_filterMap_le tgtS (l.take i))
      have hstep : (l.take (i + 1)).filterMap tgtS = (l.take i).filterMap tgtS ++ (tgtS l[i]).toList := by
        rw [List.take_add_one, List.filterMap_append, List.getElem?_eq_getElem hil]
        cases h : tgtS l[i] <;> simp [h]
      have w1 : Go.IntKind.wrap .i64 ((i : Int) + 1) = ((i + 1 : Nat) : Int) := W_eq (by omega) (by omega)
      have fin0 : ∀ out', out' = uniq ((l.take (i + 1)).filterMap tgtS) → ∃ s' : Int × List Int, (some (Sum.inl (((i + 1 : Nat) : Int), out')) : Option ((Int × List Int) ⊕ List Int)) = some (Sum.inl s') ∧ (∃ i : Nat, s' = ((i : Int), uniq ((l.take i).filterMap tgtS)) ∧ i ≤ l.length) ∧ l.length - s'.1.toNat < l.length - ((i : Int)).toNat := fun out' h => by
        subst h
        exact ⟨_, rfl, ⟨i + 1, rfl, by omega⟩, by simp only [Int.toNat_natCast]; omega⟩
      rw [if_pos (by simp; omega), e1]
      simp only [Option.bind_some]
      refine by_inlD (number_b _ okx _) ?_
      simp only [fd32, w1]
      by_cases hk : kindS l[i] = 1
      · rw [if_neg (by simpa using hk)]
        by_cases hf : numC l[i] / 4294967296 = 65000
        · rw [if_neg (by simpa using hf)]
          rw [if_pos ⟨hk, hf⟩] at hts
          generalize Go.IntKind.wrap .u32 (numC l[i]) = x at *
          have hnew : ∀ out', out'.Pairwise (fun a b => a < b) → (∀ y, y ∈ out' ↔ y = x ∨ y ∈ uniq ((l.take i).filterMap tgtS)) → out' = uniq ((l.take (i + 1)).filterMap tgtS) := fun out' h1 h2 => by
            refine uniq_ext _ h1 fun y => ?_
            rw [h2, hmem, hstep, List.mem_append, hts]
            simp [or_comm]
          simp only [List.length_take] at hlen
          generalize uniq ((l.take i).filterMap tgtS) = out at *
          refine inl_ex (bind_exP (I := fun s => ∃ j : Nat, s = (j : Int) ∧ j ≤ out.length ∧ ∀ q (h : q < out.length), q < j → out[q] < x) (m := fun s => out.length - s.toNat) (Q := fun (t : Int) => ∃ k : Nat, t = (k : Int) ∧ k ≤ out.length ∧ (∀ q (h : q < out.length), q < k → out[q] < x) ∧ ∀ h : k < out.length, ¬ out[k] < x)
            ⟨0, rfl, Nat.zero_le _, fun q _ h => absurd h (Nat.not_lt_zero _)⟩ (by show out.length - (0 : Int).toNat < M; omega) (fun s hs => ?_) (fun t ht => ?_))
          · obtain ⟨j, rfl, hj, hlo⟩ := hs
            by_cases hjl : j < out.length
            · rw [if_pos (by simp; omega), if_pos (by omega), Int.toNat_natCast, List.getElem?_eq_getElem hjl]
              simp only [Option.bind_some]
              by_cases hc : out[j] < x
              · right
                rw [if_pos (by simpa using hc), W_eq (x := (j : Int) + 1) (n := j + 1) (by omega) (by omega)]
                refine ⟨_, rfl, ⟨j + 1, rfl, by omega, fun q h hq => ?_⟩, by simp only [Int.toNat_natCast]; omega⟩
                by_cases e : q = j
                · subst e; exact hc
                · exact hlo q h (by omega)
              · left
                rw [if_neg (by simpa using hc)]
                exact ⟨_, rfl, j, rfl, hj, hlo, fun _ => hc⟩
            · left
              rw [if_neg (by simp; omega)]
              exact ⟨_, rfl, j, rfl, hj, hlo, fun h => absurd h hjl⟩
          · obtain ⟨k, rfl, hk, hlo, hhi⟩ := ht
            simp only [slcH_bind, slcL_bind, slcZ_bind, slcE_bind, idxS_bind, w1, Int.toNat_natCast, decide_eq_true_eq]
            have fin : ∀ out', out' = uniq ((l.take (i + 1)).filterMap tgtS) → ∃ r : (Int × List Int) ⊕ List Int, some (Sum.inl (((i + 1 : Nat) : Int), out')) = some r ∧ ∃ s', r = Sum.inl s' ∧ (∃ i : Nat, s' = ((i : Int), uniq ((l.take i).filterMap tgtS)) ∧ i ≤ l.length) ∧ l.length - s'.1.toNat < l.length - ((i : Int)).toNat := fun out' h => by
              subst h
              exact ⟨_, rfl, _, rfl, ⟨i + 1, rfl, by omega⟩, by simp only [Int.toNat_natCast]; omega⟩
            by_cases hkl : k = out.length
            · subst hkl
              rw [if_pos (by simp), if_pos (by omega)]
              have hins : out ++ [x] = uniq ((l.take (i + 1)).filterMap tgtS) := hnew _ (by
                have := ins_strict (fun a b : Int => a < b) (fun a b c => Int.lt_trans) (Nat.le_refl _) hst hlo (fun h => absurd h (Nat.lt_irrefl _))
                simpa using this) (fun y => by simp [or_comm])
              by_cases h0 : out.length = 0
              · have : out = [] := List.eq_nil_of_length_eq_zero h0
                subst this
                rw [if_pos (by simp), if_pos (by simp), if_pos ⟨⟨rfl, by simp⟩, by simp [roomy]⟩, if_pos ⟨⟨by simp, by simp⟩, by simp [roomy]⟩]
                exact fin _ (by simpa using hins)
              · rw [if_neg (by omega), if_neg (by omega), if_pos (by omega), if_pos ⟨Nat.le_refl _, by simp [roomy]; omega⟩]
                exact fin _ (by simpa using hins)
            · have hlt : k < out.length := by omega
              rw [if_neg (by simp; omega), if_pos (by omega), List.getElem?_eq_getElem hlt]
              simp only [Option.bind_some]
              by_cases hx : out[k] = x
              · rw [if_neg (by simpa using hx)]
                exact fin _ (hnew _ hst fun y => ⟨.inr, fun h => by rcases h with rfl | h; rw [← hx]; exact List.getElem_mem hlt; exact h⟩)
              · have hgt : x < out[k] := by have := hhi hlt; omega
                have hins : out.take k ++ x :: out.drop k = uniq ((l.take (i + 1)).filterMap tgtS) := hnew _ (ins_strict (fun a b : Int => a < b) (fun a b c => Int.lt_trans) (by omega) hst hlo (fun _ => hgt)) (fun y => ins_mem k)
                rw [if_pos (by simpa using hx), if_pos (by omega)]
                have hd : List.take (out.length - k) (List.drop k out) = List.drop k out := List.take_of_length_le (by simp)
                by_cases h0 : k = 0
                · subst h0
                  rw [if_pos (by omega), if_pos (by omega), if_pos ⟨⟨rfl, by omega⟩, by simp [roomy]; omega⟩, if_pos ⟨⟨by omega, by omega⟩, by simp [roomy]; omega⟩]
                  exact fin _ (by simpa using hins)
                · rw [if_neg (by omega), if_pos (by omega), if_pos (by omega), if_pos ⟨⟨rfl, by omega⟩, by simp [roomy]; omega⟩, if_pos ⟨⟨by omega, by omega⟩, by simp [roomy]; omega⟩]
                  exact fin _ (by rw [Nat.zero_add, hd, List.drop_zero, List.take_length]; exact hins)
        · rw [if_pos (by simpa using hf)]
          rw [if_neg (fun q => hf q.2)] at hts
          exact fin0 _ (by rw [hstep, hts]; simp)
      · rw [if_pos (by simpa using hk)]
        rw [if_neg (fun q => hk q.1)] at hts
        exact fin0 _ (by rw [hstep, hts]; simp)
  · subst ht
    exact if_pos (by simp [fzRow])
end Go.L
/- The plain law of CommLists. No conditions. -/
namespace Go.L
open Go.AM Go.Sort
set_option maxRecDepth 100000
set_option linter.unusedSimpArgs false
set_option linter.unusedVariables false

theorem refSort_b {M : Nat} (l : List (V8 Int)) (hl : l.length < 100000) (hM : l.length + 3 < M) (hok : ∀ x ∈ l, okC x) {β : Type} (k : c_ref03_Sort.sh.El → Option β) : (c_ref03_Sort.S M l).bind k = k (sortU l) := by rw [refSort_run M l hl hM hok]; rfl
theorem refTargets_b {M : Nat} (l : List (V8 Int)) (hl : l.length < 100000) (hM : l.length + 3 < M) (hok : ∀ x ∈ l, okC x) {β : Type} (k : c_ref03_Targets.sh.El → Option β) : (c_ref03_Targets.S M l).bind k = k (uniq (l.filterMap tgtS)) := by rw [refTargets_run M l hl hM hok]; rfl
theorem targets_b {M : Nat} (l : List (V8 Int)) (hl : l.length < 1000) (hM : l.length + 10 < M) {β : Type} (k : c_comm_Targets.sh.El → Option β) : (c_comm_Targets.S M l).bind k = k (uniq (l.filterMap tgtS)) := by rw [targets_run M l hl hM]; rfl
theorem sameU_run (M : Nat) (a b : List Int) (hl : a.length < 100000) (hN : a.length + 1 < M) : c_kit_Same_uint32.S M (a, b) = some (decide (a = b)) := by
  show (g_kit_Same_uint32 a b).run M = _
  simp only [g_kit_Same_uint32, G.run, tsOk, if_true, lenO_bind, idxO_bind]
  by_cases hlen : a.length = b.length
  · rw [if_neg (by simp; omega)]
    refine bind_ex (I := fun s => ∃ i : Nat, s = (i : Int) ∧ i ≤ a.length ∧ ∀ j, j < i → a[j]? = b[j]?) (m := fun s => a.length - s.toNat) (Q := fun t => (t = .inl () ∧ a ≠ b) ∨ (t = .inr () ∧ a = b)) ⟨0, rfl, Nat.zero_le _, fun j hj => absurd hj (Nat.not_lt_zero _)⟩ (by simp; omega) (fun s hs => ?_) (fun t ht => ?_)
    · obtain ⟨i, rfl, hi, hno⟩ := hs
      by_cases he : i = a.length
      · left
        subst he
        rw [if_neg (by simp)]
        refine ⟨_, rfl, .inr ⟨rfl, ?_⟩⟩
        apply List.ext_getElem?
        intro j
        by_cases hj : j < a.length
        · exact hno j hj
        · rw [List.getElem?_eq_none (by omega), List.getElem?_eq_none (by omega)]
      · have hil : i < a.length := by omega
        have hib : i < b.length := by omega
        have e1 : at? a (i : Int) = some a[i] := by rw [at?_nat]; exact List.getElem?_eq_getElem hil
        have e2 : at? b (i : Int) = some b[i] := by rw [at?_nat]; exact List.getElem?_eq_getElem hib
        rw [if_pos (by simp; omega), e1, e2]
        simp only [Option.bind_some, W_eq (x := (i : Int) + 1) (n := i + 1) (by omega) (by omega)]
        by_cases hx : a[i] = b[i]
        · right
          rw [if_neg (by simpa using hx)]
          refine ⟨_, rfl, ⟨i + 1, rfl, by omega, fun j hj => ?_⟩, by simp only [Int.toNat_natCast]; omega⟩
          by_cases hji : j = i
          · subst hji; rw [List.getElem?_eq_getElem hil, List.getElem?_eq_getElem hib, hx]
          · exact hno j (by omega)
        · left
          rw [if_pos (by simpa using hx)]
          exact ⟨_, rfl, .inl ⟨rfl, fun e => hx (by subst e; rfl)⟩⟩
    · rcases ht with ⟨rfl, h⟩ | ⟨rfl, h⟩
      · rw [decide_eq_false h]; rfl
      · rw [decide_eq_true h]; rfl
  · rw [if_pos (by simp; omega), decide_eq_false (fun e => hlen (by rw [e]))]
    rfl
theorem sameU_b {M : Nat} (a b : List Int) (hl : a.length < 100000) (hN : a.length + 1 < M) {β : Type} (k : c_kit_Same_uint32.sh.El → Option β) : (c_kit_Same_uint32.S M (a, b)).bind k = k (decide (a = b)) := by
  rw [sameU_run M a b hl hN]; rfl

theorem eqV8n (x y : V8 Int) : ((x.a0 == y.a0) && ((x.a1 == y.a1) && ((x.a2 == y.a2) && ((x.a3 == y.a3) && ((x.a4 == y.a4) && ((x.a5 == y.a5) && ((x.a6 == y.a6) && (x.a7 == y.a7)))))))) = decide (x = y) := by
  rw [← eqV8]; simp only [Bool.and_true]
theorem ne_self_b (a : Int) : ¬ (a != a) = true := by simp
theorem eq_self_b (a : Bool) : ¬ (!(a == a)) = true := by simp
theorem commLists_cons (M : Nat) (hM : 500 ≤ M) (x : V8 Int) (l0 : List (V8 Int)) (hok : ∀ y ∈ x :: l0, okC y) : (g_law03_CommLists (x :: l0)).run M = some true := by
  obtain ⟨l, hl⟩ : ∃ l, l = x :: l0 := ⟨_, rfl⟩
  have hne : l.isEmpty = false := by rw [hl]; rfl
  rw [← hl] at hok ⊢
  clear hl
  simp only [g_law03_CommLists, G.run, tsOk, if_true, lives03_bb, lenO_bind, Bool.not_true, Bool.false_eq_true, if_false, appO_bind, List.nil_append, List.length_nil, fzRow, List.length_map, decide_true, Bool.and_true]
  by_cases h60 : l.length > 60
  · rw [if_pos (by simp; omega)]; rfl
  rw [if_neg (by simp; omega)]
  have hA : l.length ≤ 60 := by omega
  rw [if_pos ⟨trivial, by simp [roomy]; omega⟩]
  refine (encapOf_b (N := M) l (by omega) (by omega) _).trans ?_
  refine (encapOfR_b (N := M) l (by omega) (by omega) hok _).trans ?_
  refine (mobilityOf_b (N := M) l (by omega) (by omega) _).trans ?_
  refine (mobilityOfR_b (N := M) l (by omega) (by omega) hok _).trans ?_
  refine (labelOf_b (N := M) l (by omega) (by omega) _).trans ?_
  refine (labelOfR_b (N := M) l (by omega) (by omega) hok _).trans ?_
  refine (importOf_b (N := M) l (by omega) (by omega) _).trans ?_
  refine (importOfR_b (N := M) l (by omega) (by omega) hok _).trans ?_
  refine (if_neg (ne_self_b _)).trans ?_
  refine (if_neg (eq_self_b _)).trans ?_
  refine (if_neg (eq_self_b _)).trans ?_
  refine (if_neg (ne_self_b _)).trans ?_
  refine (if_neg (eq_self_b _)).trans ?_
  refine (if_neg (eq_self_b _)).trans ?_
  refine (if_neg (ne_self_b _)).trans ?_
  refine (if_neg (eq_self_b _)).trans ?_
  refine (if_neg (ne_self_b _)).trans ?_
  refine (if_neg (eq_self_b _)).trans ?_
  refine (routerOf_b (N := M) l (by omega) (by omega) _).trans ?_
  refine (routerOfR_b (N := M) l (by omega) (by omega) hok _).trans ?_
  refine (electionOf_b (N := M) l (by omega) (by omega) _).trans ?_
  refine (electionOfR_b (N := M) l (by omega) (by omega) hok _).trans ?_
  refine (if_neg (ne_self_b _)).trans ?_
  refine (if_neg (eq_self_b _)).trans ?_
  refine (if_neg (ne_self_b _)).trans ?_
  refine (if_neg (ne_self_b _)).trans ?_
  refine (if_neg (eq_self_b _)).trans ?_
  refine (targets_b (M := M) l (by omega) (by omega) _).trans ?_
  refine (refTargets_b (M := M) l (by omega) (by omega) hok _).trans ?_
  have hul := Nat.le_trans (uniq_len (l.filterMap tgtS)) (List.length_filterMap_le tgtS l)
  refine (sameU_b (M := M) _ _ (by omega) (by omega) _).trans ?_
  rw [decide_eq_true rfl, if_neg (by simp)]
  rw [show (nilO l (eV8 (cI .u8)) true).run = some () from by unfold nilO; simp only [hne, Bool.false_eq_true, if_false], Option.bind_some]
  rw [if_pos ⟨trivial, by simp [roomy]; omega⟩]
  have hsl : (sortCv l).length = l.length := (sortCv_ok l).1.length_eq
  refine (sortC_b M l.length l rfl (by omega) _).trans ?_
  refine (comp_b M l.length (sortCv l) hsl (by omega) (by omega) _).trans ?_
  refine (refSort_b (M := M) l (by omega) (by omega) hok _).trans ?_
  have hU : Lib.compact (sortCv l) = sortU l := rfl
  rw [hU]
  have hlen := sortU_len l
  generalize sortU l = r at *
  have hrr : ¬ (((List.length r : Nat) : Int) != ((List.length r : Nat) : Int)) = true := by simp
  refine (if_neg hrr).trans ?_
  simp only [eqV8n]
  refine bind_ex (I := fun s => ∃ i : Nat, s = (i : Int) ∧ i ≤ r.length) (m := fun s => r.length - s.toNat) (Q := fun (t : Unit ⊕ Unit) => t = .inr ()) ⟨0, rfl, Nat.zero_le _⟩ (by show r.length - (0 : Int).toNat < M; omega) (fun s hs => ?_) (fun t ht => ?_)
  · obtain ⟨i, rfl, hi⟩ := hs
    by_cases he : i = r.length
    · left
      subst he
      rw [if_neg (by simp)]
      exact ⟨_, rfl, rfl⟩
    · right
      have hil : i < r.length := by omega
      have e1 : at? r (i : Int) = some r[i] := by rw [at?_nat]; exact List.getElem?_eq_getElem hil
      rw [if_pos (by simp; omega)]
      simp only [idxS_bind, ldO_bind, idxO_bind]
      rw [if_pos (by omega), Int.toNat_natCast, List.getElem?_eq_getElem hil, e1]
      simp only [Option.bind_some]
      rw [if_neg (by simp), W_eq (x := (i : Int) + 1) (n := i + 1) (by omega) (by omega)]
      exact ⟨_, rfl, ⟨i + 1, rfl, by omega⟩, by simp only [Int.toNat_natCast]; omega⟩
  · subst ht
    simp only [Sum.elim, G.run, tsOk, if_true, lenO_bind, idxO_bind, eqV8n, eqV8]
    refine bind_ex (I := fun s => ∃ (i : Nat) (q : List (V8 Int)), s = ((i : Int), q) ∧ i ≤ r.length ∧ q.length = r.length) (m := fun s => r.length - s.1.toNat) (Q := fun (t : List (V8 Int)) => True) ⟨0, r, rfl, Nat.zero_le _, rfl⟩ (by show r.length - (0 : Int).toNat < M; omega) (fun s hs => ?_) (fun t ht => ?_)
    · obtain ⟨i, q, rfl, hi, hq⟩ := hs
      by_cases he : i = r.length
      · left
        subst he
        rw [if_neg (by simp)]
        exact ⟨_, rfl, trivial⟩
      · right
        have hil : i < r.length := by omega
        rw [if_pos (by simp; omega)]
        simp only [idxS_bind, stO_bind]
        rw [if_pos (by omega), Int.toNat_natCast, List.getElem?_eq_getElem (show i < q.length by omega)]
        simp only [Option.bind_some]
        rw [W_eq (x := (i : Int) + 1) (n := i + 1) (by omega) (by omega)]
        exact ⟨_, rfl, ⟨i + 1, _, rfl, by omega, by rw [List.length_set]; exact hq⟩, by simp only [Int.toNat_natCast]; omega⟩
    · have hll : ¬ (((List.length l : Nat) : Int) != ((List.length l : Nat) : Int)) = true := by simp
      refine (if_neg hll).trans ?_
      refine bind_ex (I := fun s => ∃ i : Nat, s = (i : Int) ∧ i ≤ l.length) (m := fun s => l.length - s.toNat) (Q := fun (t : Unit ⊕ Unit) => t = .inr ()) ⟨0, rfl, Nat.zero_le _⟩ (by show l.length - (0 : Int).toNat < M; omega) (fun s hs => ?_) (fun t ht => ?_)
      · obtain ⟨i, rfl, hi⟩ := hs
        by_cases he : i = l.length
        · left
          subst he
          rw [if_neg (by simp)]
          exact ⟨_, rfl, rfl⟩
        · right
          have hil : i < l.length := by omega
          have e1 : at? l (i : Int) = some l[i] := by rw [at?_nat]; exact List.getElem?_eq_getElem hil
          rw [if_pos (by simp; omega), e1]
          simp only [Option.bind_some]
          rw [if_neg (by simp), W_eq (x := (i : Int) + 1) (n := i + 1) (by omega) (by omega)]
          exact ⟨_, rfl, ⟨i + 1, rfl, by omega⟩, by simp only [Int.toNat_natCast]; omega⟩
      · subst ht
        rfl
theorem okNil : ∀ x ∈ ([] : List (V8 Int)), okC x := fun _ h => by cases h
theorem commLists_nil0 (M : Nat) (hM : 500 ≤ M) : g0_law03_CommLists.run M = some true := by
  simp only [g0_law03_CommLists, G.run, tsOk, if_true, lives03_bb, lenO_bind, Bool.not_true, Bool.false_eq_true, if_false, appO_bind, fzRow, List.length_map, List.length_nil, decide_true, Bool.and_true]
  refine (encapOf_b (N := M) [] (by simp) (by simp; omega) _).trans ?_
  refine (encapOfR_b (N := M) [] (by simp) (by simp; omega) okNil _).trans ?_
  refine (mobilityOf_b (N := M) [] (by simp) (by simp; omega) _).trans ?_
  refine (mobilityOfR_b (N := M) [] (by simp) (by simp; omega) okNil _).trans ?_
  refine (labelOf_b (N := M) [] (by simp) (by simp; omega) _).trans ?_
  refine (labelOfR_b (N := M) [] (by simp) (by simp; omega) okNil _).trans ?_
  refine (importOf_b (N := M) [] (by simp) (by simp; omega) _).trans ?_
  refine (importOfR_b (N := M) [] (by simp) (by simp; omega) okNil _).trans ?_
  refine (if_neg (ne_self_b _)).trans ?_
  refine (if_neg (eq_self_b _)).trans ?_
  refine (if_neg (eq_self_b _)).trans ?_
  refine (if_neg (ne_self_b _)).trans ?_
  refine (if_neg (eq_self_b _)).trans ?_
  refine (if_neg (eq_self_b _)).trans ?_
  refine (if_neg (ne_self_b _)).trans ?_
  refine (if_neg (eq_self_b _)).trans ?_
  refine (if_neg (ne_self_b _)).trans ?_
  refine (if_neg (eq_self_b _)).trans ?_
  refine (routerOf_b (N := M) [] (by simp) (by simp; omega) _).trans ?_
  refine (routerOfR_b (N := M) [] (by simp) (by simp; omega) okNil _).trans ?_
  refine (electionOf_b (N := M) [] (by simp) (by simp; omega) _).trans ?_
  refine (electionOfR_b (N := M) [] (by simp) (by simp; omega) okNil _).trans ?_
  refine (if_neg (ne_self_b _)).trans ?_
  refine (if_neg (eq_self_b _)).trans ?_
  refine (if_neg (ne_self_b _)).trans ?_
  refine (if_neg (ne_self_b _)).trans ?_
  refine (if_neg (eq_self_b _)).trans ?_
  refine (targets_b (M := M) [] (by simp) (by simp; omega) _).trans ?_
  refine (refTargets_b (M := M) [] (by simp) (by simp; omega) okNil _).trans ?_
  have hu : (uniq (List.filterMap tgtS [])).length = 0 := Nat.le_zero.1 (uniq_len [])
  refine (sameU_b (M := M) _ _ (by omega) (by omega) _).trans ?_
  rw [decide_eq_true rfl, if_neg (by simp)]
  refine (commSort_b M [] (by simp) (by simp; omega) _).trans ?_
  refine (refSort_b (M := M) [] (by simp) (by simp; omega) okNil _).trans ?_
  rw [sortU_nil]
  refine (sameC_b (M := M) [] [] (by simp) (by simp; omega) _).trans ?_
  rw [decide_eq_true rfl]
  obtain ⟨N, rfl⟩ : ∃ N, M = N + 1 := ⟨M - 1, by omega⟩
  simp only [iterO, List.length_nil, lenO_bind]
  rw [if_neg (by simp)]
  simp only [Option.bind_some, if_true]
  refine (sameC_b (M := N + 1) [] [] (by simp) (by simp; omega) _).trans ?_
  rw [decide_eq_true rfl]; rfl
theorem commLists_nil1 (M : Nat) (hM : 500 ≤ M) : g1_law03_CommLists.run M = some true := by
  simp only [g1_law03_CommLists, G.run, tsOk, if_true, lives03_bb, lenO_bind, Bool.not_true, Bool.false_eq_true, if_false, appO_bind, fzRow, List.length_map, List.length_nil, decide_true, Bool.and_true]
  refine (encapOf_b (N := M) [] (by simp) (by simp; omega) _).trans ?_
  refine (encapOfR_b (N := M) [] (by simp) (by simp; omega) okNil _).trans ?_
  refine (mobilityOf_b (N := M) [] (by simp) (by simp; omega) _).trans ?_
  refine (mobilityOfR_b (N := M) [] (by simp) (by simp; omega) okNil _).trans ?_
  refine (labelOf_b (N := M) [] (by simp) (by simp; omega) _).trans ?_
  refine (labelOfR_b (N := M) [] (by simp) (by simp; omega) okNil _).trans ?_
  refine (importOf_b (N := M) [] (by simp) (by simp; omega) _).trans ?_
  refine (importOfR_b (N := M) [] (by simp) (by simp; omega) okNil _).trans ?_
  refine (if_neg (ne_self_b _)).trans ?_
  refine (if_neg (eq_self_b _)).trans ?_
  refine (if_neg (eq_self_b _)).trans ?_
  refine (if_neg (ne_self_b _)).trans ?_
  refine (if_neg (eq_self_b _)).trans ?_
  refine (if_neg (eq_self_b _)).trans ?_
  refine (if_neg (ne_self_b _)).trans ?_
  refine (if_neg (eq_self_b _)).trans ?_
  refine (if_neg (ne_self_b _)).trans ?_
  refine (if_neg (eq_self_b _)).trans ?_
  refine (routerOf_b (N := M) [] (by simp) (by simp; omega) _).trans ?_
  refine (routerOfR_b (N := M) [] (by simp) (by simp; omega) okNil _).trans ?_
  refine (electionOf_b (N := M) [] (by simp) (by simp; omega) _).trans ?_
  refine (electionOfR_b (N := M) [] (by simp) (by simp; omega) okNil _).trans ?_
  refine (if_neg (ne_self_b _)).trans ?_
  refine (if_neg (eq_self_b _)).trans ?_
  refine (if_neg (ne_self_b _)).trans ?_
  refine (if_neg (ne_self_b _)).trans ?_
  refine (if_neg (eq_self_b _)).trans ?_
  refine (targets_b (M := M) [] (by simp) (by simp; omega) _).trans ?_
  refine (refTargets_b (M := M) [] (by simp) (by simp; omega) okNil _).trans ?_
  have hu : (uniq (List.filterMap tgtS [])).length = 0 := Nat.le_zero.1 (uniq_len [])
  refine (sameU_b (M := M) _ _ (by omega) (by omega) _).trans ?_
  rw [decide_eq_true rfl, if_neg (by simp)]
  refine (commSort_b M [] (by simp) (by simp; omega) _).trans ?_
  refine (refSort_b (M := M) [] (by simp) (by simp; omega) okNil _).trans ?_
  rw [sortU_nil]
  refine (sameC_b (M := M) [] [] (by simp) (by simp; omega) _).trans ?_
  rw [decide_eq_true rfl]
  obtain ⟨N, rfl⟩ : ∃ N, M = N + 1 := ⟨M - 1, by omega⟩
  simp only [iterO, List.length_nil, lenO_bind]
  rw [if_neg (by simp)]
  simp only [Option.bind_some, if_true]
  refine (sameC_b (M := N + 1) [] [] (by simp) (by simp; omega) _).trans ?_
  rw [decide_eq_true rfl]; rfl

theorem law_commListsV (l : List (V8 Int)) (hok : ∀ y ∈ l, okC y) : FnVal prog 7 [.lst (l.map (eV8 (cI .u8)))] (.ret (.sc (.bool true))) := by
  cases l with
  | nil => exact nil_law03_CommLists (commLists_nil0 500 (by decide)) (commLists_nil1 500 (by decide))
  | cons x l => exact c_law03_CommLists.ok 500 (x :: l) true (commLists_cons 500 (by decide) x l hok)
end Go.L
/- The getters and Sort of communities return what the document defines: CommLists returns true for every input; the card, tied to the program's text. No conditions. -/
namespace Go.L
open Go.AM
set_option linter.unusedVariables false
theorem wf_u8 {n : Int} (h : (Go.Lit.int .u8 n).wf = true) : 0 ≤ n ∧ n < 256 := by
  simp [Go.Lit.wf] at h
  have e1 : Go.IntKind.min .u8 = 0 := rfl
  have e2 : Go.IntKind.max .u8 = 255 := rfl
  omega
def wfV8 (x : V8 Int) : Prop := (Go.Lit.int .u8 x.a0).wf = true ∧ (Go.Lit.int .u8 x.a1).wf = true ∧ (Go.Lit.int .u8 x.a2).wf = true ∧ (Go.Lit.int .u8 x.a3).wf = true ∧ (Go.Lit.int .u8 x.a4).wf = true ∧ (Go.Lit.int .u8 x.a5).wf = true ∧ (Go.Lit.int .u8 x.a6).wf = true ∧ (Go.Lit.int .u8 x.a7).wf = true
theorem okC_wf {x : V8 Int} (h : wfV8 x) : okC x := ⟨wf_u8 h.1, wf_u8 h.2.1, wf_u8 h.2.2.1, wf_u8 h.2.2.2.1, wf_u8 h.2.2.2.2.1, wf_u8 h.2.2.2.2.2.1, wf_u8 h.2.2.2.2.2.2.1, wf_u8 h.2.2.2.2.2.2.2⟩
theorem law_commLists (l : List (V8 Int)) (h0 : ∀ x ∈ l, wfV8 x) : FnVal prog 7 [.lst (l.map (eV8 (cI .u8)))] (.ret (.sc (.bool true))) :=
  law_commListsV l fun x hx => okC_wf (h0 x hx)
end Go.L
namespace Go.Proofs.YtfgigcdbcbgpoaaDoor.commLists
open Go.ChangeShapes Go.WideShapes Go.ChangeAt Go.RowKit Go.AM Go.L
set_option linter.unusedVariables false

def kv : List Value := [(1, 0, 2), (2, 3, 12), (3, 6, 0), (4, 6, 1), (5, 6, 2), (6, 6, 3), (7, 6, 6)].flatMap fun (p : Int × Int × Int) => [.int .i64 p.1, .int .u8 p.2.1, .int .u8 p.2.2]
def kk : List Kd := (List.replicate 7 [.int .i64, .int .u8, .int .u8]).flatten
theorem globsOk {W : World} (h : laidMet Tryd.prog Rows.commListsRow.laid W) : GlobsOk (Gh.bare W) W := by
  refine globs_one (P := Tryd.prog) (name := "leafmesh/comm.kinds") (g := 0) (vs := kv) (by kernel_rfl) (laid_cells (g := 0) (t := 104) (ks := kk) (by kernel_rfl) (by kernel_rfl) (by kernel_rfl) (by kernel_rfl) h) (by kernel_rfl) fun i cs hi => ?_
  match i, hi with
  | 0, hi => exact ⟨rfl, (Option.some.inj hi).symm⟩
theorem own : ownKnob Tryd.prog.godebug = none := by kernel_rfl
theorem slices : ((List.range Tryd.prog.types.size).all fun t => match Tryd.prog.underlying t with | some (.slice e) => decide (0 < Tryd.prog.cellsOf e) | _ => true) = true := by kernel_rfl
theorem maps : mapsRowed Tryd.prog = true := by kernel_rfl
theorem inTable : (Tryd.f7.params.toList.all fun t => Nat.ble (t + 1) Tryd.prog.types.size) = true := by kernel_rfl
set_option maxRecDepth 100000 in
theorem contract (H : Type) (enc : TypeId × Value → H) (W : World) (base : Nat) (args : Array Value) (ds gs : List (DataW H)) (before : List MemPlace)
    (hval : ∀ (j : Nat) t v, Tryd.f7.params[j]? = some t → args[j]? = some v → Value.okWide Tryd.prog W .any base t v)
    (hW : DataW.Whole enc Tryd.prog Tryd.f7.params.toList Rows.commListsSpec.vars false W args.toList ds gs before) (hL : laidMetH Tryd.prog Rows.commListsRow.laid W) :
    Calls Tryd.prog 7 args W fun e W' => ∃ v, e = .returned v ∧ Rows.commListsSpec.post enc Tryd.prog Tryd.f7 false true false false W args v W' := by
  have hW' := hW
  have hlt := hW.lt
  obtain ⟨p, q, hA0, hV, rfl, hfz, hnd⟩ := hW
  have hA : DataW.TrodAll enc Tryd.prog W 0 (fun _ => true) true Tryd.f7.params.toList args.toList ds p := hA0
  clear hA0
  have hAll := hA
  rw [Tryd.params7] at hA hval
  obtain ⟨v0, r0, d0, e0, p0, q0, hv0, hd0, hp0, t0, hA⟩ := trodAll_cons hA
  obtain ⟨hr, hd, hq⟩ := trodAll_nil hA
  obtain rfl : args = #[v0] := by apply Array.ext'; simp only [hv0, hr]
  obtain rfl : ds = [d0] := by simp only [hd0, hd]
  obtain ⟨rfl, rfl⟩ := trodVars_none hV
  simp only [List.append_nil] at hW' hlt
  obtain ⟨a0, ok0, ra0⟩ := Rdb.cell (c := (cL (eV8 (cI .u8)))) (Rdb.slice Tryd.underlying25 (by kernel_rfl) (by kernel_rfl) (Rdb.array8 (c := cI .u8) Tryd.underlying29 (by kernel_rfl) (by kernel_rfl) (Rdb.int Tryd.underlying5 (by kernel_rfl)))) (by kernel_rfl) (hval 0 _ _ rfl rfl) t0
  refine (law_top (law_commLists a0 ok0) W (globsOk hL) _ ⟨_, _, rfl, ra0, rfl⟩).mono fun e W' ⟨he, hg⟩ => ?_
  subst he
  exact ⟨_, rfl, post_of_below (pa := p) (pv := []) hW' (fun _ _ _ => (trodAll_cons_mk (shut_bool Tryd.underlying4 _) trodAll_mk0))
    (fun sp hsp => trodAll_kept laid maps (slices_full_of _ slices) hg (fun t ht => Nat.le_of_ble_eq_true (List.all_eq_true.1 inTable t ht)) hAll hlt hsp) (fun _ _ => rfl) (by simp)
    hg (ok_one (by kernel_rfl) rfl (okWide_bool_mk Tryd.underlying4 _))⟩

/-- A world for the witness: the settled one, the variable holding what its initialiser lays. -/
noncomputable def laidWorld (os : Os) : World :=
  { World.holding Tryd.prog os ⟨#[], #[.slice none 0 0], []⟩ with heap := (World.holding Tryd.prog os ⟨#[], #[.slice none 0 0], []⟩).heap.modify 0 fun
      | .cells _ t frozen => .cells kv.toArray t frozen
      | o => o }
theorem laid_met (os : Os) : laidMet Tryd.prog Rows.commListsRow.laid ((laidWorld os).forCall (fun _ _ => 0) ⟨#[], #[.slice none 0 0], []⟩).memory :=
  laidMet_of_run' 8 (by kernel_rfl) (by kernel_rfl)
theorem reads (os : Os) {H : Type} (enc : TypeId × Value → H) : ∃ x, DataW.whole enc Tryd.prog ((laidWorld os).forCall (fun _ _ => 0) ⟨#[], #[.slice none 0 0], []⟩).memory Tryd.f7.params.toList Rows.commListsSpec.vars false (#[.slice none 0 0] : Array Value).toList 8 = some x := by
  have h : (DataW.whole enc Tryd.prog ((laidWorld os).forCall (fun _ _ => 0) ⟨#[], #[.slice none 0 0], []⟩).memory Tryd.f7.params.toList Rows.commListsSpec.vars false (#[.slice none 0 0] : Array Value).toList 8).isSome = true := by kernel_rfl
  exact Option.isSome_iff_exists.1 h

set_option maxRecDepth 100000 in
theorem lifted (os : Os) (started : os.Started) (H : Type) (enc : TypeId × Value → H) (F : Stop.Interp) :
    ReturnsInHanded {} Tryd.checked os 7 .any ((OpenSpec.ofChange Rows.commListsSpec).preRow enc Tryd.prog Tryd.f7 Rows.commListsRow.domain false Rows.commListsRow.laid) (((OpenSpec.ofChange Rows.commListsSpec).at F).post enc Tryd.prog Tryd.f7 false true false false) := by
  obtain ⟨x, hx⟩ := reads os enc
  refine returnsInHanded_of_row (C := Tryd.checked) (s := OpenSpec.ofChange Rows.commListsSpec) own started (by kernel_rfl) Tryd.func7
    (witness_row_at (enc := enc) (C := Tryd.checked) false (laidWorld os) #[.slice none 0 0] rfl (by kernel_rfl) (by kernel_rfl) (by kernel_rfl)
      (OpenSpec.preRow_of_cond 8 hx (by kernel_rfl) (fun k hk => by cases hk) (by kernel_rfl) (laid_met os))) ?_
  intro W base args ds gs before hval hW _ _ _ hL _ _
  exact contract H enc W base args ds gs before hval hW hL

theorem said : Rows.CommListsSaid :=
  OpenClaim.holds_of_cond 7 Tryd.f7 rfl rfl rfl rfl rfl rfl rfl ⟨rfl, rfl, rfl, rfl, rfl⟩ rfl rfl rfl rfl rfl (by kernel_rfl) Tryd.func7 (by kernel_rfl)
    (of_decide_eq_true (by kernel_rfl)) (by unfold Func.isWrapper; first | (rw [if_pos (by decide +kernel)]; kernel_rfl) | (rw [if_neg (by decide +kernel)]; exact ⟨rfl, rfl⟩))
    (fun os started H enc _ F => by rw [OpenClaim.pre_eq_preRow]; exact lifted os started H enc F)

theorem noStand : (Tryd.f7.params.toList.all fun t => !Tryd.prog.wantsStandIn t) = true := by kernel_rfl
theorem plain (f : FuncId) (fn : Func) (hf : Tryd.pinned.checked.prog.funcNamed Rows.commListsRow.func = some f) (hfn : Tryd.pinned.checked.prog.funcs[f]? = some fn) :
    false = Tryd.pinned.checked.prog.looks [] ∧ ∀ (j : Nat) t, fn.params[j]? = some t → Tryd.pinned.checked.prog.wantsStandIn t = false := by
  obtain rfl : f = 7 := Option.some.inj ((show Tryd.prog.funcNamed Rows.commListsRow.func = some 7 by kernel_rfl).symm.trans hf) |>.symm
  obtain rfl : fn = Tryd.f7 := (Option.some.inj (Tryd.func7.symm.trans hfn)).symm
  refine ⟨by kernel_rfl, fun j t ht => ?_⟩
  have := List.all_eq_true.1 noStand t (Array.mem_toList_iff.2 (Array.mem_of_getElem? ht))
  have h2 : Tryd.prog.wantsStandIn t = false := by simpa using this
  exact h2

theorem card : Rows.CommListsCardSaid :=
  Claim7.holds_tied_plain_at .later [] _ _ _ _ said (fun _ h => by cases h) (by kernel_rfl) (fun _ h => by cases h) commLists_row_tie rfl ⟨rfl, rfl⟩ (by kernel_rfl) rfl plain (by kernel_rfl)
end Go.Proofs.YtfgigcdbcbgpoaaDoor.commLists
