/- Guides run in every order that loops over maps may take. No program. -/
import Derived.Test.YtpgpmlaafigpaaaGreatDoorAmGr
namespace Go.AM

def bindL {α β : Type} : List α → (α → Option (List β)) → Option (List β)
  | [], _ => some []
  | a :: as, f => match f a with
    | some l => match bindL as f with
      | some m => some (l ++ m)
      | none => none
    | none => none

theorem bindL_some {α β : Type} {f : α → Option (List β)} : ∀ {l : List α} {m : List β}, bindL l f = some m → ∀ a ∈ l, ∃ la, f a = some la ∧ ∀ x ∈ la, x ∈ m
  | [], _, _, a, ha => by cases ha
  | b :: l, m, h, a, ha => by
    simp only [bindL] at h
    split at h
    · rename_i lb hb
      split at h
      · rename_i mm hm
        simp only [Option.some.injEq] at h
        subst h
        rcases List.mem_cons.1 ha with rfl | ha
        · exact ⟨lb, hb, fun x hx => List.mem_append_left _ hx⟩
        · obtain ⟨la, h1, h2⟩ := bindL_some hm a ha
          exact ⟨la, h1, fun x hx => List.mem_append_right _ (h2 x hx)⟩
      · cases h
    · cases h

def iterL {σ τ : Type} (f : σ → Option (List (σ ⊕ τ))) : Nat → σ → Option (List τ)
  | 0, _ => none
  | n + 1, a => match f a with
    | some l => bindL l fun
      | .inl a' => iterL f n a'
      | .inr t => some [t]
    | none => none

theorem iterL_some {σ τ : Type} {f : σ → Option (List (σ ⊕ τ))} {F : σ → ((σ ⊕ τ) → Prop) → Prop} (hF : ∀ a l (q : σ ⊕ τ → Prop), f a = some l → (∀ x ∈ l, q x) → F a q) :
    ∀ (n : Nat) (a : σ) (l : List τ) (p : τ → Prop), iterL f n a = some l → (∀ t ∈ l, p t) → iterP F n a p
  | 0, _, _, _, h, _ => by cases h
  | n + 1, a, l, p, h, hp => by
    simp only [iterL] at h
    split at h
    · rename_i l0 h0
      refine hF a l0 _ h0 fun x hx => ?_
      obtain ⟨la, h1, h2⟩ := bindL_some h x hx
      cases x with
      | inl a' => exact iterL_some hF n a' la p h1 fun t ht => hp t (h2 t ht)
      | inr t =>
        simp only [Option.some.injEq] at h1
        subst h1
        exact hp t (h2 t (by simp))
    · cases h

def leftN (n : Nat) (seen : List Nat) : List Nat := (List.range n).filter fun i => !seen.contains i

set_option linter.unusedSectionVars false
section
variable {P : Program} [Globs]

/-- What may come out. -/
def G.runs (n : Nat) : {ρ : Type} → G P ρ → Option (List ρ)
  | _, .stop => none
  | _, .done ts r => if tsOk ts then some [r] else none
  | _, .fail => none
  | _, .skip _ g => g.runs n
  | _, .br _ c t f => if c then t.runs n else f.runs n
  | _, .eqi _ _ x c t f => if x = c then t.runs n else f.runs n
  | _, .sp c t f => if c then t.runs n else f.runs n
  | _, .op t k => t.run.bind fun x => (k x).runs n
  | _, .call c x k => (c.S n x).bind fun r => (k r).runs n
  | _, .callR c x k => (c.S n x).bind fun r => (k r).runs n
  | _, .call1 c _ _ _ x k => (c.S n x).bind fun r => (k r).runs n
  | _, .tidy l g => if tsOk l then g.runs n else none
  | _, .loop _ hd _ _ a0 body k => if tsOk hd then (iterL (fun a => (body a).runs n) n a0).bind fun ts => bindL ts fun t => (k t).runs n else none
  | _, .unroll _ g => g.runs n
  | _, .shutG _ _ g => g.runs n
  | _, .join _ _ g k => (g.runs n).bind fun ts => bindL ts fun t => (k t).runs n
  | _, .pick z seen k => match leftN z.n seen with
    | [] => (k none).runs n
    | l => bindL l fun i => (k (some i)).runs n
  | _, .inl _ g => g.runs n

theorem G.can_mono (n : Nat) : ∀ {ρ : Type} (g : G P ρ) {p q : ρ → Prop}, (∀ r, p r → q r) → g.can n p → g.can n q
  | _, .stop, _, _, _, h => h
  | _, .done ts r, _, _, hpq, h => ⟨h.1, hpq _ h.2⟩
  | _, .fail, _, _, _, h => h
  | _, .skip _ g, _, _, hpq, h => G.can_mono n g hpq h
  | _, .br _ c t f, _, _, hpq, h => by
    simp only [G.can] at h ⊢
    split at h
    · rename_i hc; rw [if_pos hc]; exact G.can_mono n t hpq h
    · rename_i hc; rw [if_neg hc]; exact G.can_mono n f hpq h
  | _, .eqi _ _ x c t f, _, _, hpq, h => by
    simp only [G.can] at h ⊢
    split at h
    · rename_i hc; rw [if_pos hc]; exact G.can_mono n t hpq h
    · rename_i hc; rw [if_neg hc]; exact G.can_mono n f hpq h
  | _, .sp c t f, _, _, hpq, h => by
    simp only [G.can] at h ⊢
    split at h
    · rename_i hc; rw [if_pos hc]; exact G.can_mono n t hpq h
    · rename_i hc; rw [if_neg hc]; exact G.can_mono n f hpq h
  | _, .op t k, _, _, hpq, h => by
    obtain ⟨x, h1, h2⟩ := h
    exact ⟨x, h1, G.can_mono n (k x) hpq h2⟩
  | _, .call c x k, _, _, hpq, h => by
    obtain ⟨r, h1, h2⟩ := h
    exact ⟨r, h1, G.can_mono n (k r) hpq h2⟩
  | _, .callR c x k, _, _, hpq, h => by
    obtain ⟨r, h1, h2⟩ := h
    exact ⟨r, h1, G.can_mono n (k r) hpq h2⟩
  | _, .call1 c _ _ _ x k, _, _, hpq, h => by
    obtain ⟨r, h1, h2⟩ := h
    exact ⟨r, h1, G.can_mono n (k r) hpq h2⟩
  | _, .tidy l g, _, _, hpq, h => ⟨h.1, G.can_mono n g hpq h.2⟩
  | _, .loop _ hd _ _ a0 body k, p, q, hpq, h => by
    refine ⟨h.1, ?_⟩
    have mono : ∀ (m : Nat) (a : _), iterP (fun a q => (body a).can n q) m a (fun t => (k t).can n p) → iterP (fun a q => (body a).can n q) m a (fun t => (k t).can n q) := by
      intro m
      induction m with
      | zero => exact fun a h => h.elim
      | succ m ih =>
        intro a h
        refine G.can_mono n (body a) (fun v hv => ?_) h
        cases v with
        | inl a' => exact ih a' hv
        | inr t => exact G.can_mono n (k t) hpq hv
    exact mono n a0 h.2
  | _, .unroll _ g, _, _, hpq, h => G.can_mono n g hpq h
  | _, .shutG _ _ g, _, _, hpq, h => G.can_mono n g hpq h
  | _, .join _ _ g k, _, _, hpq, h => G.can_mono n g (fun t ht => G.can_mono n (k t) hpq ht) h
  | _, .pick z seen k, _, _, hpq, h => ⟨fun ha => G.can_mono n (k none) hpq (h.1 ha), fun i hi hn => G.can_mono n (k (some i)) hpq (h.2 i hi hn)⟩
  | _, .inl _ g, _, _, hpq, h => G.can_mono n g hpq h

theorem G.runs_can (n : Nat) : ∀ {ρ : Type} (g : G P ρ) (l : List ρ) (p : ρ → Prop), g.runs n = some l → (∀ r ∈ l, p r) → g.can n p
  | _, .stop, _, _, h, _ => by cases h
  | _, .done ts r, l, p, h, hp => by
    simp only [G.runs, Option.ite_none_right_eq_some, Option.some.injEq] at h
    obtain ⟨h1, rfl⟩ := h
    exact ⟨h1, hp r (by simp)⟩
  | _, .fail, _, _, h, _ => by cases h
  | _, .skip _ g, l, p, h, hp => G.runs_can n g l p h hp
  | _, .br _ c t f, l, p, h, hp => by
    simp only [G.runs] at h
    simp only [G.can]
    split at h
    · rename_i hc; rw [if_pos hc]; exact G.runs_can n t l p h hp
    · rename_i hc; rw [if_neg hc]; exact G.runs_can n f l p h hp
  | _, .eqi _ _ x c t f, l, p, h, hp => by
    simp only [G.runs] at h
    simp only [G.can]
    split at h
    · rename_i hc; rw [if_pos hc]; exact G.runs_can n t l p h hp
    · rename_i hc; rw [if_neg hc]; exact G.runs_can n f l p h hp
  | _, .sp c t f, l, p, h, hp => by
    simp only [G.runs] at h
    simp only [G.can]
    split at h
    · rename_i hc; rw [if_pos hc]; exact G.runs_can n t l p h hp
    · rename_i hc; rw [if_neg hc]; exact G.runs_can n f l p h hp
  | _, .op t k, l, p, h, hp => by
    obtain ⟨x, h1, h2⟩ := Option.bind_eq_some_iff.1 (show t.run.bind (fun x => (k x).runs n) = some l from h)
    exact ⟨x, h1, G.runs_can n (k x) l p h2 hp⟩
  | _, .call c x k, l, p, h, hp => by
    obtain ⟨r, h1, h2⟩ := Option.bind_eq_some_iff.1 (show (c.S n x).bind (fun r => (k r).runs n) = some l from h)
    exact ⟨r, h1, G.runs_can n (k r) l p h2 hp⟩
  | _, .callR c x k, l, p, h, hp => by
    obtain ⟨r, h1, h2⟩ := Option.bind_eq_some_iff.1 (show (c.S n x).bind (fun r => (k r).runs n) = some l from h)
    exact ⟨r, h1, G.runs_can n (k r) l p h2 hp⟩
  | _, .call1 c _ _ _ x k, l, p, h, hp => by
    obtain ⟨r, h1, h2⟩ := Option.bind_eq_some_iff.1 (show (c.S n x).bind (fun r => (k r).runs n) = some l from h)
    exact ⟨r, h1, G.runs_can n (k r) l p h2 hp⟩
  | _, .tidy ts g, l, p, h, hp => by
    simp only [G.runs, Option.ite_none_right_eq_some] at h
    exact ⟨h.1, G.runs_can n g l p h.2 hp⟩
  | _, .loop _ hd _ _ a0 body k, l, p, h, hp => by
    simp only [G.runs, Option.ite_none_right_eq_some] at h
    obtain ⟨h1, h⟩ := h
    obtain ⟨ts, h2, h3⟩ := Option.bind_eq_some_iff.1 h
    refine ⟨h1, iterL_some (fun a l q h hq => G.runs_can n (body a) l q h hq) n a0 ts _ h2 fun t ht => ?_⟩
    obtain ⟨la, h4, h5⟩ := bindL_some h3 t ht
    exact G.runs_can n (k t) la p h4 fun r hr => hp r (h5 r hr)
  | _, .unroll _ g, l, p, h, hp => G.runs_can n g l p h hp
  | _, .shutG _ _ g, l, p, h, hp => G.runs_can n g l p h hp
  | _, .join _ _ g k, l, p, h, hp => by
    obtain ⟨ts, h2, h3⟩ := Option.bind_eq_some_iff.1 (show (g.runs n).bind (fun ts => bindL ts fun t => (k t).runs n) = some l from h)
    refine G.runs_can n g ts _ h2 fun t ht => ?_
    obtain ⟨la, h4, h5⟩ := bindL_some h3 t ht
    exact G.runs_can n (k t) la p h4 fun r hr => hp r (h5 r hr)
  | _, .pick z seen k, l, p, h, hp => by
    have hm : ∀ i, i ∈ leftN z.n seen ↔ i < z.n ∧ i ∉ seen := fun i => by simp [leftN]
    simp only [G.runs] at h
    refine ⟨fun ha => ?_, fun i hi hn => ?_⟩
    · have h0 : leftN z.n seen = [] := by
        rw [List.eq_nil_iff_forall_not_mem]
        exact fun i hi => ((hm i).1 hi).2 (ha i ((hm i).1 hi).1)
      rw [h0] at h
      exact G.runs_can n (k none) l p h hp
    · have hin := (hm i).2 ⟨hi, hn⟩
      split at h
      · rename_i h0; rw [h0] at hin; cases hin
      · obtain ⟨la, h4, h5⟩ := bindL_some h i hin
        exact G.runs_can n (k (some i)) la p h4 fun r hr => hp r (h5 r hr)
  | _, .inl _ g, l, p, h, hp => G.runs_can n g l p h hp

def sameR : ARes → ARes → Bool
  | .ret a, .ret b => same a b
  | .pan a, .pan b => same a b
  | _, _ => false
theorem sameR_eq {a b : ARes} (h : sameR a b = true) : a = b := by
  cases a <;> cases b <;> simp only [sameR, Bool.false_eq_true] at h
  · rw [same_eq _ _ h]
  · rw [same_eq _ _ h]

/-- The first, if all come to the same. -/
def oneOf {ρ : Type} (out : ρ → ARes) : List ρ → Option ρ
  | [] => none
  | r :: rs => if rs.all (fun x => sameR (out x) (out r)) then some r else none

/-- What comes out, where every order comes to the same. -/
def CtrN.one (c : CtrN P) : Ctr P := c.all (fun n x => ((c.g x).runs n).bind (oneOf c.out)) fun n x r h => by
  obtain ⟨l, h1, h2⟩ := Option.bind_eq_some_iff.1 h
  refine ⟨n, G.runs_can n (c.g x) l _ h1 fun y hy => ?_⟩
  cases l with
  | nil => cases h2
  | cons r0 rs =>
    simp only [oneOf, Option.ite_none_right_eq_some, Option.some.injEq] at h2
    obtain ⟨h2, rfl⟩ := h2
    rcases List.mem_cons.1 hy with rfl | hy
    · rfl
    · exact sameR_eq (List.all_eq_true.1 h2 y hy)

end
end Go.AM
