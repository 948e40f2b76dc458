/- A function handed a row of ours that is nobody's behind the call, at any place among its arguments. No program. -/
import Derived.Test.YtpgpmlaafigpaaaGreatDoorAmSh
namespace Go.AM

section
set_option linter.unusedSectionVars false
variable [Globs] {P : Program} {cfg : Cfg}

theorem RL_split {g : Gh} {w : World} : ∀ (a : List AVal) {b : List AVal} {vs : List Value}, RL g w (a ++ b) vs → ∃ v1 v2, vs = v1 ++ v2 ∧ RL g w a v1 ∧ RL g w b v2
  | [], b, vs, h => ⟨[], vs, rfl, rfl, h⟩
  | x :: a, b, vs, h => by
    simp only [List.cons_append, RL] at h
    obtain ⟨y, ys, rfl, h1, h2⟩ := h
    obtain ⟨v1, v2, rfl, h3, h4⟩ := RL_split a h2
    exact ⟨y :: v1, v2, rfl, ⟨y, v1, rfl, h1, h3⟩, h4⟩

/-- A function of a list, handed a row of our own: kept by its content, and nobody's behind the call. -/
theorem FnVal.deadAt {f : FuncId} {sz : Nat} {rows : List (List AVal)} {pre rest : List AVal} {r : ARes} (h : FnVal P f (pre ++ .lst rows :: rest) r) (hp : rows.all AVal.pureL = true) (hpre : AVal.pureL pre = true) (hrest : AVal.pureL rest = true) (hr : r.pureR = true) :
    FnRef P f (pre ++ .sl 0 0 sz 0 rows.length :: rest) [.row 0 sz rows] r [.dead] := by
  refine ⟨h.1, fun g w vs hi hl => ?_⟩
  have h2 : ([ABlk.row 0 sz rows] : List ABlk)[0]? = some (.row 0 sz rows) := rfl
  obtain ⟨i1, i2, i3⟩ := frz1 hi hi (Later.refl g _ w) h2
  have i2 : Later g [.row 0 sz rows] w { rho := g.rho, st := fun k o => g.st k o ∨ ∃ z, g.rho 0 0 = some (k, z) } [.dead] w := i2
  have hB := i1.bare
  have hst0 : ∀ k o, g.st k o → g.st k o ∨ ∃ z, g.rho 0 0 = some (k, z) := fun _ _ h => .inl h
  have hl0 : RL { rho := fun _ _ => none, st := fun k o => g.st k o ∨ ∃ z, g.rho 0 0 = some (k, z) } w (pre ++ .lst rows :: rest) vs.toList := by
    obtain ⟨v1, v2, e0, hl1, hl2⟩ := RL_split pre hl
    rw [e0]
    refine RL_append (RL_pure hst0 _ _ hpre hl1) ?_
    simp only [RL] at hl2 ⊢
    obtain ⟨x, xs, e, hx, hxs⟩ := hl2
    refine ⟨x, xs, e, ?_, RL_pure hst0 _ _ hrest hxs⟩
    suffices hxF : R { rho := g.rho, st := fun k o => g.st k o ∨ ∃ z, g.rho 0 0 = some (k, z) } w (.lst rows) x from R_pure (g := { rho := g.rho, st := fun k o => g.st k o ∨ ∃ z, g.rho 0 0 = some (k, z) }) (g2 := { rho := fun _ _ => none, st := fun k o => g.st k o ∨ ∃ z, g.rho 0 0 = some (k, z) }) (fun _ _ h => h) (.lst rows) x rfl hxF
    simp only [R] at hx ⊢
    rcases hx with ⟨hn, rfl⟩ | ⟨k, cap, e', sz2, hk, rfl, hsh, hcs, hm, hmax⟩
    · exact ⟨none, 0, by rw [hn], by omega, .inl hn⟩
    · obtain ⟨k', c, e, r1, r2, r3, r4, r5, r6⟩ := hi.row 0 0 _ _ h2 hk
      rw [hk] at r1; simp at r1; subst r1
      refine ⟨_, cap, rfl, by omega, .inr ⟨k, 0 * sz, sz, rfl, RR_of fun i r hr => ?_⟩⟩
      obtain ⟨t1, t2⟩ := RowsAt_get _ _ _ _ r3 hr
      refine ⟨t1, List.all_eq_true.1 hp r (List.mem_of_getElem? hr), RC_of fun j y hy => ?_⟩
      obtain ⟨u, u1, u2, u3⟩ := CellsAt_get _ _ j y t2 hy
      refine ⟨.inr ⟨_, hk⟩, u, ?_, u2, R_mono i3 _ _ u3⟩
      rw [cell?_cells r2]
      simpa [Nat.add_assoc] using u1
  refine (h.2 _ w vs hB hl0).mono fun e w' ⟨g1, hi1, hla, he⟩ => ?_
  have noOwn : ∀ (g : Gh) k, ¬ Owned g [] k := fun g k ⟨b, y, v, z, hb, _⟩ => by simp at hb
  have one : ∀ (b : Nat) (x : ABlk), ([ABlk.dead] : List ABlk)[b]? = some x → x = .dead := fun b x hb => by
    cases b with
    | zero => exact (Option.some.inj hb).symm
    | succ b => simp at hb
  have noOwnD : ∀ (g : Gh) k, ¬ Owned g [.dead] k := fun g k ⟨b, y, v, z, hb, hv, _⟩ => by
    rw [one b y hb] at hv; cases hv
  refine ⟨{ rho := g.rho, st := g1.st }, ⟨fun b x hb => ?_, fun b b' x x' v v' k z z' h1 h2 l1 => ?_, fun b ver hc => ?_, fun b x v ver' hb hv => ?_, fun b x v k z o hb hv => ?_, hi1.stold, fun i cs hc => ⟨(hi1.globs i cs hc).1, RC_pure (g := g1) (g2 := { rho := g.rho, st := g1.st }) (fun _ _ h => h) _ _ _ (hi1.globs i cs hc).1 (hi1.globs i cs hc).2⟩⟩, i2.trans ⟨⟨fun _ _ _ h => h, hla.ext.st, hla.ext.cell, hla.ext.shape⟩, hla.size, fun k hk _ => hla.keep k hk (noOwn _ k), fun k _ ho => absurd ho (noOwnD _ k), Nat.le_refl _, hla.os, hla.tape, hla.output, fun k o hk hs => (hla.stk k o hk hs).imp_right fun h => absurd h.1 (noOwn _ k), fun b hb => ⟨hb, fun _ => rfl⟩, fun b ver k z hk => .inl ⟨ver, z, hk⟩⟩, ?_⟩
  · rw [one b x hb]; trivial
  · rw [one b x h1] at l1; cases l1
  · refine hi.fresh b ver (.inr ?_)
    rcases hc with hc | hc
    · have := one b _ hc; cases this
    · simpa using hc
  · rw [one b x hb] at hv; cases hv
  · rw [one b x hb] at hv; cases hv
  · cases r with
    | ret v =>
      obtain ⟨x, h1, h3⟩ := he
      exact ⟨x, h1, R_pure (g := g1) (g2 := { rho := g.rho, st := g1.st }) (fun _ _ h => h) v x hr h3⟩
    | pan v =>
      obtain ⟨x, h1, h3⟩ := he
      exact ⟨x, h1, R_flat v x hr h3⟩

/-- The contract of a function of a list, for a row of our own that is handed over. -/
def Ctr1.deadAt (c : Ctr P) (X τ : Type) (sz : Nat) (enc : τ → List AVal) (pre rest : X → List AVal) (pack : List τ → X → c.X)
    (hargs : ∀ l x, c.args (pack l x) = pre x ++ .lst (l.map enc) :: rest x) (he : ∀ a, AVal.pureL (enc a) = true) (hpre : ∀ x, AVal.pureL (pre x) = true) (hrest : ∀ x, AVal.pureL (rest x) = true) (hr : ∀ r, (c.out r).pureR = true) (ha : ∀ x n, AVal.only0L (pre x ++ .sl 0 0 sz 0 n :: rest x) = true) : Ctr1 P where
  f := c.f
  X := List τ × Nat × X
  args := fun x => pre x.2.2 ++ .sl 0 0 sz 0 x.2.1 :: rest x.2.2
  blk := fun x => .row 0 sz (x.1.map enc)
  sh := c.sh
  out := c.out
  outB := fun _ _ => .dead
  S := fun n x => if x.2.1 = x.1.length then c.S n (pack x.1 x.2.2) else none
  a0 := fun x => ha x.2.2 x.2.1
  b0 := fun x => by simp [ABlk.row0, he]
  b1 := fun _ _ => .inr rfl
  r0 := fun r => ARes.okR_of (hr r)
  ok := fun n x r h => by
    split at h
    · rename_i hn
      have h1 := c.ok n _ r h
      rw [hargs] at h1
      have h2 := h1.deadAt (sz := sz) (by
        simp only [List.all_map, List.all_eq_true]
        intro y _
        exact he y) (hpre x.2.2) (hrest x.2.2) (hr r)
      rw [hn]
      simpa using h2
    · cases h

/-- A contract told over other arguments. -/
def Ctr1.re (c : Ctr1 P) (Y : Type) (f : Y → c.X) : Ctr1 P where
  f := c.f
  X := Y
  args := fun y => c.args (f y)
  blk := fun y => c.blk (f y)
  sh := c.sh
  out := c.out
  outB := fun y r => c.outB (f y) r
  S := fun n y => c.S n (f y)
  a0 := fun y => c.a0 (f y)
  b0 := fun y => c.b0 (f y)
  b1 := fun y r => c.b1 (f y) r
  r0 := c.r0
  ok := fun n y r h => c.ok n (f y) r h

end
end Go.AM
