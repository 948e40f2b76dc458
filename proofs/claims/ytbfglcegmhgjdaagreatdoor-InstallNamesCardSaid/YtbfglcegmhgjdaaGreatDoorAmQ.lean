/- Operations whose order is open: when the footprints of those that may change places are apart, every order comes to the same. No program. -/
import Derived.Test.YtbfglcegmhgjdaaGreatDoorAmJ
namespace Go.AM

section
variable {S L V : Type} {get : S → L → V} {st : Nat → S} {n N : Nat} {Rd W : Nat → L → Prop} {bef : Nat → Nat → Prop}

/-- The state behind those of the operations that are done: each place holds what the last of them wrote there. -/
def Agrees (get : S → L → V) (st : Nat → S) (W : Nat → L → Prop) (s : S) (D : Nat → Prop) : Prop :=
  ∀ l, (∃ k, D k ∧ W k l ∧ (∀ k', D k' → k < k' → ¬ W k' l) ∧ get s l = get (st (k + 1)) l) ∨ ((∀ k, D k → ¬ W k l) ∧ get s l = get (st 0) l)

theorem agree_uniq {s s' : S} {D D' : Nat → Prop} (h : Agrees get st W s D) (h' : Agrees get st W s' D') {l : L} (hd : ∀ k, W k l → (D k ↔ D' k)) : get s l = get s' l := by
  rcases h l with ⟨k, h1, h2, h3, h4⟩ | ⟨h1, h2⟩ <;> rcases h' l with ⟨k', g1, g2, g3, g4⟩ | ⟨g1, g2⟩
  · grind
  · exact absurd h2 (g1 k ((hd k h2).1 h1))
  · grind
  · exact h2.trans g2.symm

theorem agree_first : Agrees get st W (st 0) (fun _ => False) := fun _ => .inr ⟨fun _ h => h.elim, rfl⟩

theorem agree_prefix (frame : ∀ j, j < n → ∀ l, ¬ W j l → get (st (j + 1)) l = get (st j) l) : ∀ j, j ≤ n → Agrees get st W (st j) (fun k => k < j)
  | 0, _, _ => .inr ⟨fun k h => absurd h (by omega), rfl⟩
  | j + 1, hj, l => by
    by_cases hw : W j l
    · grind
    · have hf := frame j (by omega) l hw
      rcases agree_prefix frame j (by omega) l with ⟨k, h1, h2, h3, h4⟩ | ⟨h1, h2⟩
      · grind
      grind

variable {s : S} {D : Nat → Prop} {j : Nat}

theorem agree_read (frame : ∀ j, j < n → ∀ l, ¬ W j l → get (st (j + 1)) l = get (st j) l)
    (ind : ∀ i j, i < j → j < N → ¬ bef i j → ∀ l, ¬ (W i l ∧ Rd j l) ∧ ¬ (W i l ∧ W j l) ∧ ¬ (Rd i l ∧ W j l))
    (h : Agrees get st W s D) (hD : ∀ k, D k → k < N) (hdown : ∀ k k', D k → bef k' k → D k') (hj : j ≤ n) (hjN : j < N) (hnot : ¬ D j) (hready : ∀ k, bef k j → D k)
    {l : L} (hr : Rd j l) : get s l = get (st j) l := by
  refine agree_uniq h (agree_prefix frame j hj) fun k hw => ⟨fun hk => ?_, fun hk => ?_⟩
  · grind
  grind

theorem agree_step (ind : ∀ i j, i < j → j < N → ¬ bef i j → ∀ l, ¬ (W i l ∧ Rd j l) ∧ ¬ (W i l ∧ W j l) ∧ ¬ (Rd i l ∧ W j l))
    (h : Agrees get st W s D) (hD : ∀ k, D k → k < N) (hdown : ∀ k k', D k → bef k' k → D k') (hnot : ¬ D j)
    {s' : S} (hw : ∀ l, W j l → get s' l = get (st (j + 1)) l) (hf : ∀ l, ¬ W j l → get s' l = get s l) : Agrees get st W s' (fun k => D k ∨ k = j) := by
  intro l
  by_cases hwl : W j l
  · grind
  · rcases h l with ⟨k, h1, h2, h3, h4⟩ | ⟨h1, h2⟩
    · grind
    grind

end

/-! ### What comes before what -/

theorem foldl_or_bit (ops : List Edge) (look : Nat → Nat) (i : Nat) : ∀ (acc : Nat), (ops.foldl (fun s e => if Region.binds .any e then s ||| 2 ^ e.on ||| look e.on else s) acc).testBit i = true →
    acc.testBit i = true ∨ ∃ e ∈ ops, Region.binds .any e = true ∧ (e.on = i ∨ (look e.on).testBit i = true) := by
  induction ops with
  | nil => intro acc h; exact .inl h
  | cons e es ih =>
    grind

theorem beforeL_bit : ∀ (l : List Oper) (j : Nat) (acc : List Nat), acc.length = j →
    (∀ (m : Nat) (i : Nat), (CheckFast.beforeL l j acc)[m]? = none ∨ (m < j ∧ (CheckFast.beforeL l j acc)[m]? = acc[j - 1 - m]?) ∨
      (j ≤ m ∧ ∃ o v, l[m - j]? = some o ∧ (CheckFast.beforeL l j acc)[m]? = some v ∧ (v.testBit i = true → ∃ e ∈ o.after, Region.binds .any e = true ∧ (e.on = i ∨ (e.on < m ∧ ∃ u, (CheckFast.beforeL l j acc)[e.on]? = some u ∧ u.testBit i = true)))))
  | [], j, acc, hl, m, i => by
    simp only [CheckFast.beforeL]
    grind
  | o :: l, j, acc, hl, m, i => by
    simp only [CheckFast.beforeL, CheckFast.force_eq]
    generalize hv : CheckFast.one (fun i => if i < j then acc.getD (j - 1 - i) 0 else 0) o = v
    have ih := beforeL_bit l (j + 1) (v :: acc) (by simp [hl])
    have hprev : ∀ m', m' < j → (CheckFast.beforeL l (j + 1) (v :: acc))[m']? = none ∨ (CheckFast.beforeL l (j + 1) (v :: acc))[m']? = acc[j - 1 - m']? := by
      intro m' hm'
      rcases ih m' i with h | ⟨_, h⟩ | ⟨h, _⟩
      · exact .inl h
      · grind
      · omega
    have hlen : ∀ (l : List Oper) (j : Nat) (acc : List Nat), acc.length = j → (CheckFast.beforeL l j acc).length = j + l.length := by
      intro l
      induction l with
      | nil => intro j acc h; simp [CheckFast.beforeL, h]
      | cons o l ih => intro j acc h; simp only [CheckFast.beforeL, CheckFast.force_eq]; rw [ih _ _ (by simp [h])]; simp; omega
    rcases ih m i with h | ⟨h1, h⟩ | ⟨h1, o', v', h2, h3, h4⟩
    · exact .inl h
    · by_cases hm : m = j
      · subst hm
        right; right
        refine ⟨Nat.le_refl _, o, v, by simp, ?_, fun hb => ?_⟩
        · rw [h]; simp
        · rw [← hv] at hb
          unfold CheckFast.one at hb
          rw [← Array.foldl_toList] at hb
          rcases foldl_or_bit o.after.toList (fun i => if i < m then acc.getD (m - 1 - i) 0 else 0) i 0 hb with hb | ⟨e, he, hbi, hb⟩
          · simp at hb
          grind
      grind
    grind

/-- What comes before an operation is an operation that it names, or comes before one of these. -/
theorem before_bit {ops : Array Oper} {j i : Nat} (h : ((CheckFast.beforeF ops).getD j 0).testBit i = true) :
    ∃ o, ops[j]? = some o ∧ ∃ e ∈ o.after, Region.binds .any e = true ∧ (e.on = i ∨ (e.on < j ∧ ((CheckFast.beforeF ops).getD e.on 0).testBit i = true)) := by
  have hg : ∀ m, (CheckFast.beforeF ops).getD m 0 = ((CheckFast.beforeL ops.toList 0 [])[m]?).getD 0 := by
    intro m; simp [CheckFast.beforeF]
  rw [hg] at h
  rcases beforeL_bit ops.toList 0 [] rfl j i with h1 | ⟨h1, _⟩ | ⟨_, o, v, h2, h3, h4⟩
  · rw [h1] at h; simp at h
  · omega
  grind

theorem before_closed {ops : Array Oper} {D : Nat → Prop} (hdown : ∀ k o e, D k → ops[k]? = some o → e ∈ o.after → Region.binds .any e = true → D e.on) (j : Nat) {i : Nat}
    (hj : ∀ o e, ops[j]? = some o → e ∈ o.after → Region.binds .any e = true → D e.on) (h : ((CheckFast.beforeF ops).getD j 0).testBit i = true) : D i := by
  induction j using Nat.strongRecOn with
  | _ j ih =>
    obtain ⟨o, ho, e, he, hb, hx⟩ := before_bit h
    grind

end Go.AM
