/- Regions. No program. -/
import Derived.Test.YtbfglcegmhgjdaaGreatDoorAmT
namespace Go.AM

section
set_option linter.unusedSectionVars false
variable [Globs] {P : Program} {cfg : Cfg} {orc : Nat → Orc} {ops : Array Oper} {g : Gh} {H : List ABlk} {w : World} {n0 : Nat}

theorem reserve_get {m b : Nat} {x : ABlk} (h : (H ++ List.replicate m ABlk.unborn)[b]? = some x) : H[b]? = some x ∨ (H.length ≤ b ∧ x = .unborn) := by
  grind

theorem Inv.reserve (hi : Inv g H w) (m : Nat) : Inv g (H ++ List.replicate m .unborn) w ∧ Later g H w g (H ++ List.replicate m .unborn) w := by
  refine ⟨⟨?_, ?_, ?_, ?_, ?_, hi.stold, hi.globs⟩, ⟨Ext.refl g w, Nat.le_refl _, fun _ _ _ => rfl, ?_, by simp, rfl, ⟨rfl, Nat.le_refl _⟩, rfl, fun _ _ _ h => .inl h, ?_, fun _ ver _ z h => .inl ⟨ver, z, h⟩⟩⟩
  · intro b x h
    rcases reserve_get h with h | ⟨_, rfl⟩
    · exact hi.good b x h
    · trivial
  · intro b b' x x' v v' k z z' h h' hv hv'
    rcases reserve_get h with h | ⟨_, rfl⟩
    · rcases reserve_get h' with h' | ⟨_, rfl⟩
      · exact hi.inj b b' x x' v v' k z z' h h' hv hv'
      · cases hv'
    · cases hv
  · intro b ver h
    rcases h with h | h
    · rcases reserve_get h with h | ⟨h, _⟩
      · exact hi.fresh b ver (.inl h)
      · exact hi.fresh b ver (.inr h)
    · exact hi.fresh b ver (.inr (by simp at h; omega))
  · intro b x v ver' h hv
    rcases reserve_get h with h | ⟨_, rfl⟩
    · exact hi.next b x v ver' h hv
    · cases hv
  · intro b x v k z o h hv
    rcases reserve_get h with h | ⟨_, rfl⟩
    · exact hi.free b x v k z o h hv
    · cases hv
  · rintro k _ ⟨b, x, v, z, h, hv, hz⟩
    rcases reserve_get h with h | ⟨_, rfl⟩
    · exact ⟨b, x, v, z, h, hv, hz⟩
    · cases hv
  grind

theorem numbered_get : ∀ (l : List Oper) (n j : Nat), ((numbered n l)[j]?).map (fun (p : Oper × Nat) => p.1) = l[j]?
  | [], _, _ => by simp [numbered]
  | o :: l, n, 0 => by simp [numbered, natF_eq]
  | o :: l, n, j + 1 => by simp only [numbered, natF_eq, List.getElem?_cons_succ]; exact numbered_get l _ j

theorem numbered_len : ∀ (l : List Oper) (n : Nat), (numbered n l).length = l.length
  | [], _ => rfl
  | o :: l, n => by simp [numbered, natF_eq, numbered_len l]

/-- What a region comes to. -/
def RegPost (Q : Exit → Act → World → Prop) (g : Gh) (H : List ABlk) (w : World) : OpRes → Prop
  | .ok s' => ∀ g' a' w', Sim g' s' a' w' → Later g H w g' s'.H w' → Q .normal a' w'
  | .pan v s' => ∀ g' a' w' x, v.flat = true → Sim g' s' a' w' → Later g H w g' s'.H w' → R g' w' v x → Q (.panic [{ v := x, recovered := false }]) a' w'

theorem RegPost.later {Q : Exit → Act → World → Prop} {g1 : Gh} {H1 : List ABlk} {w1 : World} {r : OpRes} (h : RegPost Q g H w r) (hl : Later g H w g1 H1 w1) : RegPost Q g1 H1 w1 r := by
  cases r with
  | ok s' => exact fun g' a' w' hs hl' => h g' a' w' hs (hl.trans hl')
  | pan v s' => exact fun g' a' w' x hv hs hl' hr => h g' a' w' x hv hs (hl.trans hl') hr

theorem runOps_sound {ro : Option Nat} (hcalm : ∀ (k : Nat) (o : Oper), ops[k]? = some o → Calm ro o) (ho : ∀ k, OrcOk P (orc k)) {Q : Exit → Act → World → Prop} : ∀ (l : List (Oper × Nat)) (k : Nat) (s : St) (g : Gh) (a : Act) (w : World) (r : OpRes) (feet : List Foot),
    (∀ (j : Nat), (l[j]?).map (fun (p : Oper × Nat) => p.1) = (ops.toList.drop k)[j]?) → runOps P cfg orc ops n0 k l s = some (r, feet) → Sim g s a w → RegPost Q g s.H w r → wpOpsIn (Fr ro) 0 P ops Q (List.range' k l.length) a w
  | [], k, s, g, a, w, r, feet, _, h, hs, hp => by
    simp only [runOps, Option.some.injEq, Prod.mk.injEq] at h
    obtain ⟨rfl, _⟩ := h
    exact hp g a w hs (Later.refl _ _ _)
  | (o, nid) :: rest, k, s, g, a, w, r, feet, hl, h, hs, hp => by
    simp only [List.length_cons, List.range'_succ, wpOpsIn_cons]
    have hi : ops[k]? = some o := by
      have := hl 0
      simp at this
      exact this.symm
    simp only [runOps] at h
    split at h
    · rename_i s1 f hst
      split at h
      · rename_i r1 fs hrest
        simp only [Option.some.injEq, Prod.mk.injEq] at h
        obtain ⟨rfl, _⟩ := h
        refine step_sound (ho k) hs hi (hcalm _ _ hi) hst fun g' a' w' hs' hla => ?_
        exact runOps_sound hcalm ho rest (k + 1) s1 g' a' w' r1 fs (fun j => by
          have := hl (j + 1)
          grind) hrest hs' (hp.later hla)
      · cases h
    · rename_i v s1 f hst
      simp only [Option.some.injEq, Prod.mk.injEq] at h
      obtain ⟨rfl, _⟩ := h
      exact step_sound (ho k) hs hi (hcalm _ _ hi) hst fun g' w' x hv hs' hla hr => hp g' a w' x hv hs' hla hr
    · cases h

theorem runOps_trace : ∀ (k : Nat) (l : List (Oper × Nat)) (s : St) (r : OpRes) (feet : List Foot), runOps P cfg orc ops n0 k l s = some (r, feet) → ∃ (n : Nat) (st : Nat → St), st 0 = s ∧
    (∀ j, j < n → ∃ o nid f, l[j]? = some (o, nid) ∧ feet[j]? = some f ∧ stepOp P cfg (orc (k + j)) ops n0 o nid (st j) = some (.ok (st (j + 1)), f)) ∧
    ((∃ s', r = .ok s' ∧ n = l.length ∧ feet.length = n ∧ st n = s') ∨
     (∃ v s' o nid f, r = .pan v s' ∧ feet.length = n + 1 ∧ l[n]? = some (o, nid) ∧ feet[n]? = some f ∧ stepOp P cfg (orc (k + n)) ops n0 o nid (st n) = some (.pan v s', f)))
  | _, [], s, r, feet, h => by
    simp only [runOps, Option.some.injEq, Prod.mk.injEq] at h
    obtain ⟨rfl, rfl⟩ := h
    exact ⟨0, fun _ => s, rfl, fun j hj => absurd hj (by omega), .inl ⟨s, rfl, rfl, rfl, rfl⟩⟩
  | k, (o, nid) :: rest, s, r, feet, h => by
    simp only [runOps] at h
    split at h
    · rename_i s1 f hst
      split at h
      · rename_i r1 fs hrest
        simp only [Option.some.injEq, Prod.mk.injEq] at h
        obtain ⟨rfl, rfl⟩ := h
        obtain ⟨n, st, h0, h1, h2⟩ := runOps_trace (k + 1) rest s1 r1 fs hrest
        refine ⟨n + 1, fun j => match j with | 0 => s | j + 1 => st j, rfl, ?_, ?_⟩
        · grind
        grind
      · cases h
    · rename_i v s1 f hst
      simp only [Option.some.injEq, Prod.mk.injEq] at h
      obtain ⟨rfl, rfl⟩ := h
      exact ⟨0, fun _ => s, rfl, fun j hj => absurd hj (by omega), .inr ⟨v, s1, o, nid, f, rfl, rfl, rfl, rfl, hst⟩⟩
    · cases h

theorem junk_get : ∀ (l : List Oper) (A : List AVal) (t : Nat) (v : AVal), (l.foldl (fun A o => putA A o.dst .junk) A)[t]? = some v → v = .junk ∨ (A[t]? = some v ∧ ∀ o ∈ l, o.dst ≠ some t)
  | [], A, t, v, h => .inr ⟨h, fun _ hm => by cases hm⟩
  | o :: l, A, t, v, h => by
    simp only [List.foldl_cons] at h
    rcases junk_get l _ t v h with h | ⟨h, h2⟩
    · exact .inl h
    grind [putA, putA_not]

theorem junk_len : ∀ (l : List Oper) (A : List AVal), (l.foldl (fun A o => putA A o.dst .junk) A).length = A.length
  | [], _ => rfl
  | o :: l, A => by simp only [List.foldl_cons]; rw [junk_len l, putA_len]

end
end Go.AM
