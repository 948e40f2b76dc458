/- Values by their content; values without memory; what a call by content and a call by reference leave behind. No program. -/
import Derived.Test.YtbfglcegmhgjdaaGreatDoorAmL
namespace Go.AM

section
set_option linter.unusedSectionVars false
variable [Globs] {g g2 : Gh} {w w2 : World}

mutual
/-- A value that names no block of ours, under other knowledge of the same memory. -/
theorem R_pure (hst : ∀ k o, g.st k o → g2.st k o) : ∀ (v : AVal) (x : Value), v.pure = true → R g w v x → R g2 w v x
  | .sc _, x, _, hr => by simpa [R] using hr
  | .agg cs, x, hp, hr => by
      simp only [R, AVal.pure] at hr hp ⊢
      obtain ⟨vs, e, h1, hl⟩ := hr
      exact ⟨vs, e, h1, RL_pure hst cs vs hp hl⟩
  | .tup cs, x, hp, hr => by
      simp only [R, AVal.pure] at hr hp ⊢
      obtain ⟨vs, e, hl⟩ := hr
      exact ⟨vs, e, RL_pure hst cs vs hp hl⟩
  | .ptr b ver i o, x, hp, _ => by simp [AVal.pure] at hp
  | .cptr cs o, x, _, hr => by
      simp only [R] at hr ⊢
      obtain ⟨k, off, e, hp, hc⟩ := hr
      exact ⟨k, off, e, hp, RC_pure hst cs k off hp hc⟩
  | .sl b ver sz o n, x, hp, _ => by simp [AVal.pure] at hp
  | .lst rows, x, _, hr => by
      simp only [R] at hr ⊢
      obtain ⟨a, cap, e, hle, hr⟩ := hr
      refine ⟨a, cap, e, hle, ?_⟩
      rcases hr with h0 | ⟨k, off, sz, ha, hc⟩
      · exact .inl h0
      · exact .inr ⟨k, off, sz, ha, RR_pure hst rows k off sz hc⟩
  | .tls rows, x, _, hr => by
      simp only [R] at hr ⊢
      obtain ⟨k, sz, e, hr⟩ := hr
      exact ⟨k, sz, e, RR_pure hst rows k 0 sz hr⟩
  | .fn f a b, x, hp, hr => by
      simp only [R, AVal.pure, Bool.and_eq_true] at hr hp ⊢
      obtain ⟨va, vb, e, h1, h2⟩ := hr
      exact ⟨va, vb, e, RL_pure hst a va hp.1 h1, RL_pure hst b vb hp.2 h2⟩
  | .ifc t v, x, hp, hr => by
      simp only [R, AVal.pure] at hr hp ⊢
      obtain ⟨y, e, h1⟩ := hr
      exact ⟨y, e, R_pure hst v y hp h1⟩
  | .mp b, x, hp, _ => by simp [AVal.pure] at hp
  | .yld b, x, hp, _ => by simp [AVal.pure] at hp
  | .sa .., x, hp, _ => by simp [AVal.pure] at hp
  | .glob i o, x, _, hr => by simpa [R] using hr
  | .emp, x, _, hr => by simpa [R] using hr
  | .nz _, x, _, hr => by simpa [R] using hr
  | .junk, x, _, _ => by simp [R]
theorem RL_pure (hst : ∀ k o, g.st k o → g2.st k o) : ∀ (v : List AVal) (x : List Value), AVal.pureL v = true → RL g w v x → RL g2 w v x
  | [], x, _, hr => by simpa [RL] using hr
  | a :: as, x, hp, hr => by
      simp only [RL, AVal.pureL, Bool.and_eq_true] at hr hp ⊢
      obtain ⟨y, ys, e, h1, h2⟩ := hr
      exact ⟨y, ys, e, R_pure hst a y hp.1 h1, RL_pure hst as ys hp.2 h2⟩
theorem RC_pure (hst : ∀ k o, g.st k o → g2.st k o) : ∀ (v : List AVal) (k o : Nat), AVal.pureL v = true → RC g w v k o → RC g2 w v k o
  | [], _, _, _, _ => by simp [RC]
  | a :: as, k, o, hp, hr => by
      simp only [RC, AVal.pureL, Bool.and_eq_true] at hr hp ⊢
      obtain ⟨⟨hs, y, hy, ho, hr1⟩, h2⟩ := hr
      exact ⟨⟨hst _ _ hs, y, hy, ho, R_pure hst a y hp.1 hr1⟩, RC_pure hst as k (o + 1) hp.2 h2⟩
theorem RR_pure (hst : ∀ k o, g.st k o → g2.st k o) : ∀ (v : List (List AVal)) (k o sz : Nat), RR g w v k o sz → RR g2 w v k o sz
  | [], _, _, _, _ => by simp [RR]
  | r :: rs, k, o, sz, hr => by
      simp only [RR] at hr ⊢
      obtain ⟨⟨hs, hp, hr1⟩, h2⟩ := hr
      exact ⟨⟨hs, hp, RC_pure hst r k o hp hr1⟩, RR_pure hst rs k (o + sz) sz h2⟩
end

mutual
/-- A value without memory, whatever the world. -/
theorem R_flat : ∀ (v : AVal) (x : Value), v.flat = true → R g w v x → R g2 w2 v x
  | .sc _, x, _, hr => by simpa [R] using hr
  | .agg cs, x, hp, hr => by
      simp only [R, AVal.flat] at hr hp ⊢
      obtain ⟨vs, e, h1, hl⟩ := hr
      exact ⟨vs, e, h1, RL_flat cs vs hp hl⟩
  | .tup cs, x, hp, hr => by
      simp only [R, AVal.flat] at hr hp ⊢
      obtain ⟨vs, e, hl⟩ := hr
      exact ⟨vs, e, RL_flat cs vs hp hl⟩
  | .ptr b ver i o, x, hp, _ => by simp [AVal.flat] at hp
  | .cptr cs o, x, hp, _ => by simp [AVal.flat] at hp
  | .sl b ver sz o n, x, hp, _ => by simp [AVal.flat] at hp
  | .lst rows, x, hp, _ => by simp [AVal.flat] at hp
  | .tls rows, x, hp, _ => by simp [AVal.flat] at hp
  | .fn f a b, x, hp, hr => by
      simp only [R, AVal.flat, Bool.and_eq_true] at hr hp ⊢
      obtain ⟨va, vb, e, h1, h2⟩ := hr
      exact ⟨va, vb, e, RL_flat a va hp.1 h1, RL_flat b vb hp.2 h2⟩
  | .ifc t v, x, hp, hr => by
      simp only [R, AVal.flat] at hr hp ⊢
      obtain ⟨y, e, h1⟩ := hr
      exact ⟨y, e, R_flat v y hp h1⟩
  | .mp b, x, hp, _ => by simp [AVal.flat] at hp
  | .yld b, x, hp, _ => by simp [AVal.flat] at hp
  | .sa .., x, hp, _ => by simp [AVal.flat] at hp
  | .glob i o, x, _, hr => by simpa [R] using hr
  | .emp, x, _, hr => by simpa [R] using hr
  | .nz _, x, _, hr => by simpa [R] using hr
  | .junk, x, _, _ => by simp [R]
theorem RL_flat : ∀ (v : List AVal) (x : List Value), AVal.flatL v = true → RL g w v x → RL g2 w2 v x
  | [], x, _, hr => by simpa [RL] using hr
  | a :: as, x, hp, hr => by
      simp only [RL, AVal.flatL, Bool.and_eq_true] at hr hp ⊢
      obtain ⟨y, ys, e, h1, h2⟩ := hr
      exact ⟨y, ys, e, R_flat a y hp.1 h1, RL_flat as ys hp.2 h2⟩
end

mutual
/-- A value whose blocks lie below n, where what is known of the others is dropped. -/
theorem R_restrict {n : Nat} (hst : ∀ k o, g.st k o → g2.st k o) (hrho : ∀ b ver x, b < n → g.rho b ver = some x → g2.rho b ver = some x) : ∀ (v : AVal) (x : Value), v.refsLt n = true → R g w v x → R g2 w v x
  | .sc _, x, _, hr => by simpa [R] using hr
  | .agg cs, x, hp, hr => by
      simp only [R, AVal.refsLt] at hr hp ⊢
      obtain ⟨vs, e, h1, hl⟩ := hr
      exact ⟨vs, e, h1, RL_restrict hst hrho cs vs hp hl⟩
  | .tup cs, x, hp, hr => by
      simp only [R, AVal.refsLt] at hr hp ⊢
      obtain ⟨vs, e, hl⟩ := hr
      exact ⟨vs, e, RL_restrict hst hrho cs vs hp hl⟩
  | .ptr b ver i o, x, hp, hr => by
      grind [R, AVal.refsLt]
  | .cptr cs o, x, _, hr => by
      grind [R, RC_pure]
  | .sl b ver sz o n', x, hp, hr => by
      grind [R, AVal.refsLt]
  | .lst rows, x, _, hr => by
      simp only [R] at hr ⊢
      obtain ⟨a, cap, e, hle, hr⟩ := hr
      refine ⟨a, cap, e, hle, ?_⟩
      rcases hr with h0 | ⟨k, off, sz, ha, hc⟩
      · exact .inl h0
      · exact .inr ⟨k, off, sz, ha, RR_pure hst rows k off sz hc⟩
  | .tls rows, x, _, hr => by
      simp only [R] at hr ⊢
      obtain ⟨k, sz, e, hr⟩ := hr
      exact ⟨k, sz, e, RR_pure hst rows k 0 sz hr⟩
  | .fn f a b, x, hp, hr => by
      simp only [R, AVal.refsLt, Bool.and_eq_true] at hr hp ⊢
      obtain ⟨va, vb, e, h1, h2⟩ := hr
      exact ⟨va, vb, e, RL_restrict hst hrho a va hp.1 h1, RL_restrict hst hrho b vb hp.2 h2⟩
  | .ifc t v, x, hp, hr => by
      simp only [R, AVal.refsLt] at hr hp ⊢
      obtain ⟨y, e, h1⟩ := hr
      exact ⟨y, e, R_restrict hst hrho v y hp h1⟩
  | .mp b, x, hp, hr => by
      grind [R, AVal.refsLt]
  | .yld b, x, hp, hr => by
      grind [R, AVal.refsLt]
  | .sa b ver i o s m, x, hp, hr => by
      grind [R, AVal.refsLt]
  | .glob i o, x, _, hr => by simpa [R] using hr
  | .emp, x, _, hr => by simpa [R] using hr
  | .nz _, x, _, hr => by simpa [R] using hr
  | .junk, x, _, _ => by simp [R]
theorem RL_restrict {n : Nat} (hst : ∀ k o, g.st k o → g2.st k o) (hrho : ∀ b ver x, b < n → g.rho b ver = some x → g2.rho b ver = some x) : ∀ (v : List AVal) (x : List Value), AVal.refsLtL n v = true → RL g w v x → RL g2 w v x
  | [], x, _, hr => by simpa [RL] using hr
  | a :: as, x, hp, hr => by
      simp only [RL, AVal.refsLtL, Bool.and_eq_true] at hr hp ⊢
      obtain ⟨y, ys, e, h1, h2⟩ := hr
      exact ⟨y, ys, e, R_restrict hst hrho a y hp.1 h1, RL_restrict hst hrho as ys hp.2 h2⟩
end

/-- All that we own stays as it is from now on. -/
def frz (g : Gh) (H : List ABlk) : Gh := { rho := fun _ _ => none, st := fun k o => g.st k o ∨ Owned g H k }

theorem mapRd_some {H : List ABlk} {f : AVal → Rd AVal} : ∀ {l l' : List AVal}, (mapRd f l).run H = some l' → l'.length = l.length ∧ ∀ (i : Nat) (x : AVal), l[i]? = some x → ∃ y, l'[i]? = some y ∧ (f x).run H = some y
  | [], l', h => by grind [mapRd, Rd.run]
  | a :: as, l', h => by
    simp only [mapRd] at h
    obtain ⟨y, h1, h⟩ := bind_some h
    obtain ⟨ys, h2, h⟩ := bind_some h
    simp [Rd.run] at h; subst h
    obtain ⟨i1, i2⟩ := mapRd_some h2
    grind

theorem mapRows_some {H : List ABlk} {f : AVal → Rd AVal} : ∀ {l l' : List (List AVal)}, (mapRows f l).run H = some l' → l'.length = l.length ∧ ∀ (i : Nat) (x : List AVal), l[i]? = some x → ∃ y, l'[i]? = some y ∧ (mapRd f x).run H = some y
  | [], l', h => by grind [mapRows, Rd.run]
  | a :: as, l', h => by
    simp only [mapRows] at h
    obtain ⟨y, h1, h⟩ := bind_some h
    obtain ⟨ys, h2, h⟩ := bind_some h
    simp [Rd.run] at h; subst h
    obtain ⟨i1, i2⟩ := mapRows_some h2
    grind

theorem pureL_of {l : List AVal} (h : ∀ (i : Nat) (x : AVal), l[i]? = some x → x.pure = true) : AVal.pureL l = true := by
  induction l with
  | nil => rfl
  | cons a as ih =>
    simp only [AVal.pureL, Bool.and_eq_true]
    exact ⟨h 0 a (by simp), ih fun i x hx => h (i + 1) x (by simpa using hx)⟩

theorem RC_of {k : Nat} : ∀ {l : List AVal} {o : Nat}, (∀ (i : Nat) (x : AVal), l[i]? = some x → g.st k (o + i) ∧ ∃ y, w.cell? ⟨k, o + i, none⟩ = some y ∧ y.oneCell' = true ∧ R g w x y) → RC g w l k o
  | [], _, _ => by simp [RC]
  | a :: as, o, h => by
    simp only [RC]
    refine ⟨by simpa using h 0 a (by simp), RC_of fun i x hx => ?_⟩
    have := h (i + 1) x (by simpa using hx)
    grind

theorem RR_of {k sz : Nat} : ∀ {l : List (List AVal)} {o : Nat}, (∀ (i : Nat) (r : List AVal), l[i]? = some r → r.length = sz ∧ AVal.pureL r = true ∧ RC g w r k (o + i * sz)) → RR g w l k o sz
  | [], _, _ => by simp [RR]
  | a :: as, o, h => by
    simp only [RR]
    refine ⟨by simpa using h 0 a (by simp), RR_of fun i x hx => ?_⟩
    have := h (i + 1) x (by simpa using hx)
    grind

theorem snap_sound {H : List ABlk} (hi : Inv g H w) : ∀ (n : Nat) (v v' : AVal) (x : Value), (snap n v).run H = some v' → R g w v x → R (frz g H) w v' x ∧ v'.pure = true
  | 0, v, v', x, h, _ => by simp [snap, Rd.run] at h
  | n + 1, v, v', x, h, hr => by
    have ih := snap_sound hi n
    have ihL : ∀ (l l' : List AVal) (vs : List Value), (mapRd (snap n) l).run H = some l' → RL g w l vs → RL (frz g H) w l' vs ∧ AVal.pureL l' = true := by
      intro l l' vs hm hl
      obtain ⟨m1, m2⟩ := mapRd_some hm
      obtain ⟨r1, r2⟩ := RL_get _ _ hl
      have each : ∀ (i : Nat) (y : AVal), l'[i]? = some y → ∃ u, vs[i]? = some u ∧ R (frz g H) w y u ∧ y.pure = true := by
        intro i y hy
        have hlt : i < l.length := by have := (List.getElem?_eq_some_iff.1 hy).1; omega
        obtain ⟨y', h1, h2⟩ := m2 i l[i] (by simp [hlt])
        rw [hy] at h1; cases h1
        obtain ⟨u, h3, h4⟩ := r2 i l[i] (by simp [hlt])
        exact ⟨u, h3, ih _ _ _ h2 h4⟩
      refine ⟨RL_of _ _ (by omega) fun i y u hy hu => ?_, pureL_of fun i y hy => ?_⟩
      · grind
      · grind
    have hstF : ∀ k o, g.st k o → (frz g H).st k o := fun k o h => .inl h
    unfold snap at h
    split at h
    · grind [Rd.run, R_pure]
    · rename_i hnp
      -- cells of a row of ours
      have cells : ∀ {b ver sz i k : Nat} {rows : List (List AVal)} {r r' : List AVal} {c : Array Value} {e : TypeId}, H[b]? = some (.row ver sz rows) → g.rho b ver = some (k, sz) → w.heap[k]? = some (.cells c e (0, 0)) → RowsAt g w c sz rows 0 → rows[i]? = some r →
          (mapRd (snap n) r).run H = some r' → r'.length = sz ∧ AVal.pureL r' = true ∧ RC (frz g H) w r' k (i * sz) := by
        intro b ver sz i k rows r r' c e hb hk hh hrows hri hm
        obtain ⟨q1, q2⟩ := RowsAt_get _ _ _ _ hrows hri
        obtain ⟨m1, m2⟩ := mapRd_some hm
        have each : ∀ (j : Nat) (y : AVal), r'[j]? = some y → ∃ u, c[i * sz + j]? = some u ∧ u.oneCell' = true ∧ R (frz g H) w y u ∧ y.pure = true := by
          intro j y hy
          have hlt : j < r.length := by have := (List.getElem?_eq_some_iff.1 hy).1; omega
          obtain ⟨y', h1, h2⟩ := m2 j r[j] (by simp [hlt])
          rw [hy] at h1; cases h1
          obtain ⟨u, h3, h4, h5⟩ := CellsAt_get _ _ j r[j] q2 (by simp [hlt])
          rw [Nat.zero_add] at h3
          exact ⟨u, h3, h4, ih _ _ _ h2 h5⟩
        refine ⟨by omega, pureL_of fun j y hy => ?_, RC_of fun j y hy => ?_⟩
        · grind
        · obtain ⟨u, h1, h2, h3, _⟩ := each j y hy
          exact ⟨.inr ⟨b, _, ver, sz, hb, rfl, hk⟩, u, by rw [cell?_cells hh]; exact h1, h2, h3⟩
      split at h
      · -- ptr
        rename_i b ver i o
        obtain ⟨⟨sz, rows⟩, h1, h⟩ := bind_some h
        have hrow := rowOf_some h1
        simp only at hrow h
        split at h
        · rename_i r hri
          obtain ⟨r', h2, h⟩ := bind_some h
          simp [Rd.run] at h; subst h
          simp only [R] at hr
          obtain ⟨k, sz', hk, rfl⟩ := hr
          obtain ⟨k', c, e, q1, q2, q3, _⟩ := hi.row b ver _ _ hrow hk
          rw [hk] at q1; simp at q1; obtain ⟨rfl, rfl⟩ := q1
          obtain ⟨c1, c2, c3⟩ := cells hrow hk q2 q3 hri h2
          refine ⟨?_, rfl⟩
          grind [R]
        · simp [Rd.run] at h
      · -- sl
        rename_i b ver sz o m
        obtain ⟨⟨sz1, rows⟩, h1, h'⟩ := bind_some h
        clear h
        have h := h'
        clear h'
        have hrow := rowOf_some h1
        simp only at hrow h
        split at h
        · rename_i hc
          obtain ⟨rfl, hle⟩ := hc
          simp only [R] at hr
          rcases hr with ⟨rfl, rfl⟩ | ⟨k, cap, e', s, hk, rfl, hsh, hcs, hm, _⟩
          · simp only [List.take_zero, List.all_nil, if_true, Rd.run, Option.some.injEq] at h
            subst h
            refine ⟨?_, rfl⟩
            grind [R]
          obtain ⟨k', c, e, q1, q2, q3, q4, q5, q6⟩ := hi.row b ver _ _ hrow hk
          rw [hk] at q1; simp at q1; subst q1
          have hlen : ((rows.drop o).take m).length = m := by simp; omega
          have hget : ∀ (i : Nat) (r : List AVal), ((rows.drop o).take m)[i]? = some r → rows[o + i]? = some r := by
            intro i r hr
            rw [List.getElem?_take] at hr
            split at hr
            · rwa [List.getElem?_drop] at hr
            · cases hr
          split at h
          · rename_i hall
            simp [Rd.run] at h; subst h
            refine ⟨?_, rfl⟩
            simp only [R]
            refine ⟨_, cap, by rw [hlen], by omega, .inr ⟨k, o * sz1, sz1, rfl, RR_of fun i r hr => ?_⟩⟩
            have hp := List.all_eq_true.1 hall r (List.mem_of_getElem? hr)
            obtain ⟨r1, r2⟩ := RowsAt_get _ _ _ _ q3 (hget i r hr)
            refine ⟨r1, hp, RC_of fun j y hy => ?_⟩
            obtain ⟨u, u1, u2, u3⟩ := CellsAt_get _ _ j y r2 hy
            have hpy : y.pure = true := by
              clear u1 u2 u3 r2
              induction r generalizing j with
              | nil => simp at hy
              | cons a as ih2 =>
                simp only [AVal.pureL, Bool.and_eq_true] at hp
                cases j with
                | zero => simp at hy; subst hy; exact hp.1
                | succ j =>
                  have : ∀ (l : List AVal) (j : Nat) (y : AVal), AVal.pureL l = true → l[j]? = some y → y.pure = true := by
                    intro l
                    induction l with
                    | nil => intro j y _ h; simp at h
                    | cons c cs ih3 =>
                      grind [AVal.pureL]
                  grind
            refine ⟨.inr ⟨b, _, ver, sz1, hrow, rfl, hk⟩, u, ?_, u2, R_pure hstF y u hpy u3⟩
            grind [cell?_cells]
          · obtain ⟨rows', h2, h⟩ := bind_some h
            simp [Rd.run] at h; subst h
            obtain ⟨m1, m2⟩ := mapRows_some h2
            refine ⟨?_, rfl⟩
            simp only [R]
            refine ⟨_, cap, by rw [m1, hlen], by omega, .inr ⟨k, o * sz1, sz1, rfl, RR_of fun i r' hr' => ?_⟩⟩
            have hlt : i < ((rows.drop o).take m).length := by have := (List.getElem?_eq_some_iff.1 hr').1; omega
            obtain ⟨y, y1, y2⟩ := m2 i _ (List.getElem?_eq_getElem hlt)
            rw [hr'] at y1; cases y1
            have := cells hrow hk q2 q3 (hget i _ (List.getElem?_eq_getElem hlt)) y2
            rwa [Nat.add_mul] at this
        · simp [Rd.run] at h
      · -- sa
        rename_i b ver i o sE m
        obtain ⟨⟨sz1, rows⟩, h1, h'⟩ := bind_some h
        clear h
        have h := h'
        clear h'
        have hrow := rowOf_some h1
        simp only at hrow h
        split at h
        · rename_i r hri
          split at h
          · rename_i hle
            obtain ⟨r', h2, h⟩ := bind_some h
            simp [Rd.run] at h; subst h
            simp only [R] at hr
            obtain ⟨k, sz, cap, hk, rfl, hm⟩ := hr
            obtain ⟨k', c, e, q1, q2, q3, q4, q5, q6⟩ := hi.row b ver _ _ hrow hk
            rw [hk] at q1; simp at q1; obtain ⟨rfl, rfl⟩ := q1
            obtain ⟨p1, p2⟩ := RowsAt_get _ _ _ _ q3 hri
            obtain ⟨m1, m2⟩ := mapRd_some h2
            have hl : ((r.drop o).take (m * sE)).length = m * sE := by simp; omega
            have each : ∀ (j : Nat) (y : AVal), r'[j]? = some y → ∃ u, c[i * sz + o + j]? = some u ∧ u.oneCell' = true ∧ R (frz g H) w y u ∧ y.pure = true := by
              intro j y hy
              have hlt : j < ((r.drop o).take (m * sE)).length := by have := (List.getElem?_eq_some_iff.1 hy).1; omega
              obtain ⟨y', h1, h2⟩ := m2 j _ (List.getElem?_eq_getElem hlt)
              rw [hy] at h1; cases h1
              have hj : r[o + j]? = some ((r.drop o).take (m * sE))[j] := by
                have := List.getElem?_eq_getElem hlt
                rw [List.getElem?_take, if_pos (by omega), List.getElem?_drop] at this
                exact this
              obtain ⟨u, h3, h4, h5⟩ := CellsAt_get _ _ (o + j) _ p2 hj
              rw [Nat.zero_add, ← Nat.add_assoc] at h3
              exact ⟨u, h3, h4, ih _ _ _ h2 h5⟩
            refine ⟨?_, rfl⟩
            simp only [R]
            refine ⟨_, cap, by rw [chunks_length], by rw [chunks_length]; exact hm, .inr ⟨k, i * sz + o, sE, rfl, RR_chunks m (by omega) (pureL_of fun j y hy => ?_) (RC_of fun j y hy => ?_)⟩⟩
            · grind
            · obtain ⟨u, u1, u2, u3, _⟩ := each j y hy
              exact ⟨.inr ⟨b, _, ver, sz, hrow, rfl, hk⟩, u, by rw [cell?_cells q2]; exact u1, u2, u3⟩
          · simp [Rd.run] at h
        · simp [Rd.run] at h
      · rename_i cs
        obtain ⟨cs', h2, h⟩ := bind_some h
        simp [Rd.run] at h; subst h
        simp only [R] at hr
        obtain ⟨vs, rfl, h1, hl⟩ := hr
        obtain ⟨i1, i2⟩ := ihL _ _ _ h2 hl
        exact ⟨by grind [R], i2⟩
      · rename_i cs
        obtain ⟨cs', h2, h⟩ := bind_some h
        simp [Rd.run] at h; subst h
        simp only [R] at hr
        obtain ⟨vs, rfl, hl⟩ := hr
        obtain ⟨i1, i2⟩ := ihL _ _ _ h2 hl
        exact ⟨by simp only [R]; exact ⟨vs, rfl, i1⟩, i2⟩
      · rename_i f p q
        obtain ⟨p', h2, h⟩ := bind_some h
        obtain ⟨q', h3, h⟩ := bind_some h
        grind [Rd.run, R, AVal.pure]
      · rename_i t u
        obtain ⟨u', h2, h⟩ := bind_some h
        simp [Rd.run] at h; subst h
        simp only [R] at hr
        obtain ⟨y, rfl, h1⟩ := hr
        obtain ⟨i1, i2⟩ := ih _ _ _ h2 h1
        exact ⟨by simp only [R]; exact ⟨y, rfl, i1⟩, i2⟩
      · simp [Rd.run] at h

theorem snapL_sound {H : List ABlk} (hi : Inv g H w) {n : Nat} {l l' : List AVal} {vs : List Value} (h : (mapRd (snap n) l).run H = some l') (hl : RL g w l vs) : RL (frz g H) w l' vs ∧ AVal.pureL l' = true := by
  obtain ⟨m1, m2⟩ := mapRd_some h
  obtain ⟨r1, r2⟩ := RL_get _ _ hl
  have each : ∀ (i : Nat) (y : AVal), l'[i]? = some y → ∃ u, vs[i]? = some u ∧ R (frz g H) w y u ∧ y.pure = true := by
    intro i y hy
    have hlt : i < l.length := by have := (List.getElem?_eq_some_iff.1 hy).1; omega
    obtain ⟨y', h1, h2⟩ := m2 i l[i] (by simp [hlt])
    rw [hy] at h1; cases h1
    obtain ⟨u, h3, h4⟩ := r2 i l[i] (by simp [hlt])
    exact ⟨u, h3, snap_sound hi _ _ _ _ h2 h4⟩
  grind [RL_of, pureL_of]

end
end Go.AM
