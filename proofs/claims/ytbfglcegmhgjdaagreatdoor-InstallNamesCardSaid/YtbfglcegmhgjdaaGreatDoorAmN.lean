/- What a call leaves behind, by content and by reference. No program. -/
import Derived.Test.YtbfglcegmhgjdaaGreatDoorAmM
import Derived.RangeFuncRecord
namespace Go.AM

/-- How a call ends. -/
def EndOk (g : Gh) (w : World) : ARes → Ending → Prop
  | .ret v, e => ∃ x, e = .returned x ∧ R g w v x
  | .pan v, e => ∃ x, e = .panicked [{ v := x, recovered := false }] ∧ R g w v x

/-- What a call, or a round, comes to. -/
def Comes1 [Globs] (g : Gh) (H : List ABlk) (w : World) (r : ARes) (H1 : List ABlk) (e : Ending) (w' : World) : Prop := ∃ g', Inv g' H1 w' ∧ Later g H w g' H1 w' ∧ EndOk g' w' r e

/-- What a round begins with. -/
def roundTmps (r : Loop) (vs : Array Value) : Array Value := (r.params.zip vs).foldl (fun tmps (t, a) => tmps.setIfInBounds t a) r.tmps

/-- The calls of functions, and the rounds, are as 'orc' says. -/
structure OrcOk [Globs] (P : Program) (orc : Orc) : Prop where
  fn : ∀ f args H r H1, orc.fn f args H = some (r, H1) →
    (∃ fn c, P.funcs[f]? = some fn ∧ fn.body = some c ∧ fn.name ≠ "runtime.NumGoroutine") ∧
    ∀ g w (vs : Array Value), Inv g H w → RL g w args vs.toList → Calls P f vs w (Comes1 g H w r H1)
  rnd : ∀ b args H r H1, orc.rnd b args H = some (r, H1) → ∀ g w (vs : Array Value) k sz, Inv g H w → RL g w args vs.toList → g.rho b 0 = some (k, sz) →
    ∃ rec, w.heap[k]? = some (.loop rec) ∧ vs.size = rec.params.size ∧ RoundIn Fence.wide 0 P k rec.fn (roundTmps rec vs) rec.assign rec.body w (Comes1 g H w r H1)

section
set_option linter.unusedSectionVars false
variable [Globs] {g g1 : Gh} {w w1 : World} {H H1 : List ABlk}

theorem not_owned_nil {k : Nat} : ¬ Owned g [] k := by
  rintro ⟨b, x, v, z, h, _⟩
  simp at h

theorem GlobsOk.st {g2 : Gh} (hg : GlobsOk g w) (hst : ∀ k o, g.st k o → g2.st k o) : GlobsOk g2 w :=
  fun i cs hi => ⟨(hg i cs hi).1, RC_pure hst _ _ _ (hg i cs hi).1 (hg i cs hi).2⟩

theorem Inv.frz (hi : Inv g H w) : Inv (frz g H) [] w := by
  refine ⟨fun b x h => by simp at h, fun b b' x x' v v' k z z' h => by simp at h, fun b ver _ => rfl, fun b x v ver' h => by simp at h, fun b x v k z o h => by simp at h, fun k o h => ?_, hi.globs.st fun _ _ h => .inl h⟩
  rcases h with h | ⟨b, x, v, z, h1, h2, h3⟩
  · exact hi.stold k o h
  · exact hi.lies h1 h2 h3

theorem Inv.bare (hi : Inv g H w) : Inv { rho := fun _ _ => none, st := g.st } [] w :=
  ⟨fun b x h => by simp at h, fun b b' x x' v v' k z z' h => by simp at h, fun b ver _ => rfl, fun b x v ver' h => by simp at h, fun b x v k z o h => by simp at h, hi.stold, hi.globs.st fun _ _ h => h⟩

/-- A call by content. -/
theorem byVal_post {orc : Orc} {P : Program} (ho : OrcOk P orc) (hi : Inv g H w) {f : FuncId} {args args' : List AVal} {own : Bool} {vs : Array Value} {fin : Fin} (hl : RL g w args vs.toList) (hs : (mapRd (snap snapFuel) args).run H = some args') (hown : own = AVal.pureL args)
    (h : finish orc H (.byVal f args' own) = some fin) :
    (∃ fn c, P.funcs[f]? = some fn ∧ fn.body = some c ∧ fn.name ≠ "runtime.NumGoroutine") ∧
    ((∃ v', fin = .ok { val := v' } ∧ Calls P f vs w fun e w' => ∃ x g', e = .returned x ∧ Inv g' H w' ∧ R g' w' v' x ∧ Later g H w g' H w') ∨
     (∃ v', fin = .pan v' [] ∧ v'.flat = true ∧ Calls P f vs w fun e w' => ∃ x, e = .panicked [{ v := x, recovered := false }] ∧ Inv g H w' ∧ R g w' v' x ∧ Later g H w g H w')) := by
  simp only [finish, avsF_eq] at h
  split at h
  · rename_i v H1 hcall
    obtain ⟨hf, hcalls⟩ := ho.fn _ _ _ _ _ hcall
    refine ⟨hf, .inl ?_⟩
    split at h
    · rename_i v' hsnap
      split at h <;> simp at h
      rename_i hc
      subst h
      refine ⟨v', rfl, ?_⟩
      by_cases hp : own = true
      · -- arguments that name nothing of ours
        have hpure : AVal.pureL args = true := by rw [← hown]; exact hp
        have hl0 : RL { rho := fun _ _ => none, st := g.st } w args' vs.toList := by
          obtain ⟨m1, m2⟩ := mapRd_some hs
          have he : args' = args := by
            apply List.ext_getElem?
            intro i
            by_cases hlt : i < args.length
            · obtain ⟨y, y1, y2⟩ := m2 i _ (List.getElem?_eq_getElem hlt)
              have hpi : (args[i]).pure = true := by
                have : ∀ (l : List AVal) (j : Nat) (y : AVal), AVal.pureL l = true → l[j]? = some y → y.pure = true := by
                  intro l
                  induction l with
                  | nil => intro j y _ h; simp at h
                  | cons c cs ih3 =>
                    grind [AVal.pureL]
                exact this args i _ hpure (List.getElem?_eq_getElem hlt)
              have : (snap snapFuel args[i]) = .done args[i] := by
                unfold snapFuel snap
                rw [if_pos hpi]
              grind [Rd.run]
            · grind
          rw [he]
          exact RL_pure (g := g) (g2 := { rho := fun _ _ => none, st := g.st }) (fun _ _ h => h) _ _ hpure hl
        refine (hcalls _ w vs hi.bare hl0).mono ?_
        rintro e w' ⟨g1, hi1, hla, x, rfl, hr⟩
        obtain ⟨r1, r2⟩ := snap_sound hi1 _ _ _ _ hsnap hr
        have hkeep : ∀ k, k < w.heap.size → w'.heap[k]? = w.heap[k]? := fun k hk => hla.keep k hk not_owned_nil
        have hst : ∀ k o, k < w.heap.size → (frz g1 H1).st k o → g.st k o := by
          intro k o hk h
          rcases h with h | h
          · exact (hla.stk k o hk h).elim id fun h => absurd h.1 not_owned_nil
          · exact absurd (hla.own k hk h) not_owned_nil
        obtain ⟨i1, i2⟩ := hi.frame hkeep hla.size hla.os hla.tape hla.output
        refine ⟨x, { rho := g.rho, st := fun k o => g.st k o ∨ (w.heap.size ≤ k ∧ (frz g1 H1).st k o) }, rfl, ?_, ?_, ?_⟩
        · have hext : Ext g w' { rho := g.rho, st := fun k o => g.st k o ∨ (w.heap.size ≤ k ∧ (frz g1 H1).st k o) } w' := ⟨fun _ _ _ h => h, fun _ _ h => .inl h, fun _ _ _ => rfl, fun _ _ h => h⟩
          refine ⟨fun b y hb => Good_mono hext (i1.good b y hb) (fun _ _ _ _ _ => rfl) (fun _ _ h => h), hi.inj, hi.fresh, hi.next, ?_, ?_, i1.globs.mono hext⟩
          · rintro b y v k z o hb hv hk (h | ⟨h, _⟩)
            · exact hi.free b y v k z o hb hv hk h
            · have := hi.lies hb hv hk; omega
          · rintro k o (h | ⟨_, h⟩)
            · exact i1.stold k o h
            · rcases h with h | ⟨b, y, v, z, q1, q2, q3⟩
              · exact hi1.stold k o h
              · exact hi1.lies q1 q2 q3
        · grind [R_pure]
        · refine ⟨⟨fun _ _ _ h => h, fun _ _ h => .inl h, i2.ext.cell, i2.ext.shape⟩, i2.size, fun k h _ => hkeep k h, fun k _ h => h, Nat.le_refl _, i2.os, i2.tape, i2.output, ?_, fun _ h => ⟨h, fun _ => rfl⟩, fun _ ver _ z h => .inl ⟨ver, z, h⟩⟩
          grind
      · have hflat : v'.flat = true := by simpa [hp] using hc
        obtain ⟨l1, _⟩ := snapL_sound hi hs hl
        refine (hcalls _ w vs hi.frz l1).mono ?_
        rintro e w' ⟨g1, hi1, hla, x, rfl, hr⟩
        obtain ⟨r1, r2⟩ := snap_sound hi1 _ _ _ _ hsnap hr
        obtain ⟨i1, i2⟩ := hi.frame (fun k hk => hla.keep k hk not_owned_nil) hla.size hla.os hla.tape hla.output
        grind [R_flat]
    · cases h
  · rename_i v H1 hcall
    obtain ⟨hf, hcalls⟩ := ho.fn _ _ _ _ _ hcall
    refine ⟨hf, .inr ?_⟩
    split at h <;> simp at h
    rename_i hflat
    subst h
    obtain ⟨l1, _⟩ := snapL_sound hi hs hl
    refine ⟨v, rfl, hflat, (hcalls _ w vs hi.frz l1).mono ?_⟩
    rintro e w' ⟨g1, hi1, hla, x, rfl, hr⟩
    obtain ⟨i1, i2⟩ := hi.frame (fun k hk => hla.keep k hk not_owned_nil) hla.size hla.os hla.tape hla.output
    grind [R_flat]
  · cases h

/-! ### By reference -/

theorem mask_get {ids : List Nat} {H : List ABlk} {b : Nat} {x : ABlk} (h : (mask ids H)[b]? = some x) : (ids.contains b = true ∧ H[b]? = some x) ∨ (ids.contains b = false ∧ x = .dead ∧ b < H.length) := by
  grind [mask]

theorem mask_dead {ids : List Nat} {H : List ABlk} {b : Nat} (h : ids.contains b = false) (hb : b < H.length) : (mask ids H)[b]? = some .dead := by
  grind [mask]

theorem mask_in {ids : List Nat} {H : List ABlk} {b : Nat} (h : ids.contains b = true) : (mask ids H)[b]? = H[b]? := by
  grind [mask]

theorem mask_length (ids : List Nat) (H : List ABlk) : (mask ids H).length = H.length := by simp [mask]

theorem inv_mask (hi : Inv g H w) (ids : List Nat) : Inv g (mask ids H) w := by
  refine ⟨fun b x h => ?_, ?_, ?_, ?_, ?_, hi.stold, hi.globs⟩
  · rcases mask_get h with ⟨_, h⟩ | ⟨_, rfl, _⟩
    · exact hi.good b x h
    · trivial
  · intro b b' x x' v v' k z z' h h' hv hv'
    rcases mask_get h with ⟨_, h⟩ | ⟨_, rfl, _⟩
    · rcases mask_get h' with ⟨_, h'⟩ | ⟨_, rfl, _⟩
      · exact hi.inj b b' x x' v v' k z z' h h' hv hv'
      · cases hv'
    · cases hv
  · intro b ver h
    rcases h with h | h
    · rcases mask_get h with ⟨_, h⟩ | ⟨_, h, _⟩
      · exact hi.fresh b ver (.inl h)
      · cases h
    · exact hi.fresh b ver (.inr (by rwa [mask_length] at h))
  · intro b x v ver' h hv
    rcases mask_get h with ⟨_, h⟩ | ⟨_, rfl, _⟩
    · exact hi.next b x v ver' h hv
    · cases hv
  · intro b x v k z o h hv
    rcases mask_get h with ⟨_, h⟩ | ⟨_, rfl, _⟩
    · exact hi.free b x v k z o h hv
    · cases hv

theorem owned_mask {ids : List Nat} {k : Nat} (h : Owned g (mask ids H) k) : ∃ b x v z, ids.contains b = true ∧ H[b]? = some x ∧ x.live = some v ∧ g.rho b v = some (k, z) := by
  obtain ⟨b, x, v, z, h1, h2, h3⟩ := h
  rcases mask_get h1 with ⟨hc, h1⟩ | ⟨_, rfl, _⟩
  · exact ⟨b, x, v, z, hc, h1, h2, h3⟩
  · cases h2

theorem fold_set {f : Nat → ABlk} : ∀ (ids : List Nat) (H : List ABlk) (b : Nat), (ids.foldl (fun H i => H.set i (f i)) H)[b]? = if ids.contains b = true ∧ b < H.length then some (f b) else H[b]?
  | [], H, b => by simp
  | i :: ids, H, b => by
    simp only [List.foldl_cons]
    rw [fold_set ids (H.set i (f i)) b]
    grind

theorem fold_len {f : Nat → ABlk} : ∀ (ids : List Nat) (H : List ABlk), (ids.foldl (fun H i => H.set i (f i)) H).length = H.length
  | [], _ => rfl
  | i :: ids, H => by simp [fold_len ids]

/-- The heap behind a call by reference. -/
def merged (ids : List Nat) (H H1 : List ABlk) : List ABlk := ids.foldl (fun H i => H.set i (H1.getD i .dead)) H

theorem merged_get {ids : List Nat} {H H1 : List ABlk} (hlen : H.length ≤ H1.length) {b : Nat} {x : ABlk} (h : (merged ids H H1)[b]? = some x) : b < H.length ∧ ((ids.contains b = true ∧ H1[b]? = some x) ∨ (ids.contains b = false ∧ H[b]? = some x)) := by
  unfold merged at h
  have hb : b < H.length := by
    have := (List.getElem?_eq_some_iff.1 h).1
    rwa [fold_len] at this
  rw [fold_set] at h
  grind

theorem Inv.merge {ids : List Nat} (hi : Inv g H w) (hi1 : Inv g1 H1 w1) (hla : Later g (mask ids H) w g1 H1 w1) (hlen : H.length ≤ H1.length) :
    Inv g1 (merged ids H H1 ++ H1.drop H.length) w1 ∧ Later g H w g1 (merged ids H H1 ++ H1.drop H.length) w1 := by
  have hml : (merged ids H H1).length = H.length := fold_len _ _
  -- each block comes from one side
  have side : ∀ (b : Nat) (x : ABlk), (merged ids H H1 ++ H1.drop H.length)[b]? = some x → ((ids.contains b = true ∨ H.length ≤ b) ∧ H1[b]? = some x) ∨ (ids.contains b = false ∧ b < H.length ∧ H[b]? = some x) := by
    intro b x h
    by_cases hb : b < H.length
    · rw [List.getElem?_append_left (by omega)] at h
      grind [merged_get]
    · grind
  have hrho : ∀ b, ids.contains b = false → b < H.length → ∀ ver, g1.rho b ver = g.rho b ver := fun b hc hb => (hla.deadk b (mask_dead hc hb)).2
  have hnot : ∀ {b x v k z}, ids.contains b = false → H[b]? = some x → x.live = some v → g.rho b v = some (k, z) → ¬ Owned g (mask ids H) k := by
    intro b x v k z hc hb hv hk ho
    obtain ⟨b', x', v', z', h1, h2, h3, h4⟩ := owned_mask ho
    have := hi.inj b b' x x' v v' k z z' hb h2 hv h3 hk h4
    subst this
    rw [hc] at h1; cases h1
  have hkeep : ∀ {b x v k z}, ids.contains b = false → H[b]? = some x → x.live = some v → g.rho b v = some (k, z) → w1.heap[k]? = w.heap[k]? := fun hc hb hv hk => hla.keep _ (hi.lies hb hv hk) (hnot hc hb hv hk)
  refine ⟨⟨?_, ?_, ?_, ?_, ?_, hi1.stold, hi1.globs⟩, ⟨hla.ext, hla.size, ?_, ?_, by simp [hml], hla.os, hla.tape, hla.output, fun k o hk hs => ?_, ?_, hla.newk⟩⟩
  · intro b x h
    rcases side b x h with ⟨_, h⟩ | ⟨hc, hb, h⟩
    · exact hi1.good b x h
    · exact Good_mono hla.ext (hi.good b x h) (fun v k z hv hk => hkeep hc h hv hk) fun v _ h0 => by rw [hrho b hc hb]; exact h0
  · intro b b' x x' v v' k z z' h h' hv hv' hk hk'
    rcases side b x h with ⟨_, q⟩ | ⟨hc, hb, q⟩ <;> rcases side b' x' h' with ⟨_, q'⟩ | ⟨hc', hb', q'⟩
    · exact hi1.inj b b' x x' v v' k z z' q q' hv hv' hk hk'
    · rw [hrho b' hc' hb'] at hk'
      have hlt := hi.lies q' hv' hk'
      exact absurd (hla.own k hlt ⟨b, x, v, z, q, hv, hk⟩) (hnot hc' q' hv' hk')
    · rw [hrho b hc hb] at hk
      have hlt := hi.lies q hv hk
      exact absurd (hla.own k hlt ⟨b', x', v', z', q', hv', hk'⟩) (hnot hc q hv hk)
    · rw [hrho b hc hb] at hk
      rw [hrho b' hc' hb'] at hk'
      exact hi.inj b b' x x' v v' k z z' q q' hv hv' hk hk'
  · intro b ver h
    rcases h with h | h
    · rcases side b _ h with ⟨_, q⟩ | ⟨hc, hb, q⟩
      · exact hi1.fresh b ver (.inl q)
      · rw [hrho b hc hb]; exact hi.fresh b ver (.inl q)
    · refine hi1.fresh b ver (.inr ?_)
      simp [hml] at h; omega
  · intro b x v ver' h hv hlt
    rcases side b x h with ⟨_, q⟩ | ⟨hc, hb, q⟩
    · exact hi1.next b x v ver' q hv hlt
    · rw [hrho b hc hb]; exact hi.next b x v ver' q hv hlt
  · intro b x v k z o h hv hk hs
    rcases side b x h with ⟨_, q⟩ | ⟨hc, hb, q⟩
    · exact hi1.free b x v k z o q hv hk hs
    · rw [hrho b hc hb] at hk
      rcases hla.stk k o (hi.lies q hv hk) hs with h1 | ⟨h1, _⟩
      · exact hi.free b x v k z o q hv hk h1
      · exact hnot hc q hv hk h1
  · intro k hk hn
    refine hla.keep k hk fun ho => hn ?_
    obtain ⟨b, x, v, z, _, h2, h3, h4⟩ := owned_mask ho
    exact ⟨b, x, v, z, h2, h3, h4⟩
  · rintro k hk ⟨b, x, v, z, h, hv, hz⟩
    rcases side b x h with ⟨_, q⟩ | ⟨hc, hb, q⟩
    · obtain ⟨b', x', v', z', _, h2, h3, h4⟩ := owned_mask (hla.own k hk ⟨b, x, v, z, q, hv, hz⟩)
      exact ⟨b', x', v', z', h2, h3, h4⟩
    · rw [hrho b hc hb] at hz
      exact ⟨b, x, v, z, q, hv, hz⟩
  · rcases hla.stk k o hk hs with h1 | ⟨h1, h2⟩
    · exact .inl h1
    · refine .inr ⟨?_, ?_⟩
      · obtain ⟨b', x', v', z', _, q2, q3, q4⟩ := owned_mask h1
        exact ⟨b', x', v', z', q2, q3, q4⟩
      · rintro ⟨b, x, v, z, h, hv, hz⟩
        rcases side b x h with ⟨_, q⟩ | ⟨hc, hb, q⟩
        · exact h2 ⟨b, x, v, z, q, hv, hz⟩
        grind
  · intro b hb
    have hlt : b < H.length := (List.getElem?_eq_some_iff.1 hb).1
    have hm : (mask ids H)[b]? = some .dead := by
      cases hc : ids.contains b
      · exact mask_dead hc hlt
      · rw [mask_in hc]; exact hb
    obtain ⟨d1, d2⟩ := hla.deadk b hm
    grind

def Gh.upto (g : Gh) (n : Nat) : Gh := { rho := fun b ver => if b < n then g.rho b ver else none, st := g.st }

/-- What lies from n on is dropped. -/
theorem Inv.drop {n : Nat} {K L : List ABlk} (hi : Inv g H w) (hi1 : Inv g1 (K ++ L) w1) (hla : Later g H w g1 (K ++ L) w1) (hn : K.length = n) (hH : H.length = n) (hb : ∀ b x, K[b]? = some x → blkLt n x = true ∨ H[b]? = some x ∧ (∀ ver, g1.rho b ver = g.rho b ver) ∧ ∀ v k z, x.live = some v → g.rho b v = some (k, z) → w1.heap[k]? = w.heap[k]?) :
    Inv (g1.upto n) K w1 ∧ Later g H w (g1.upto n) K w1 := by
  have hget : ∀ (b : Nat) (x : ABlk), K[b]? = some x → (K ++ L)[b]? = some x ∧ b < n := by
    intro b x h
    have hlt := (List.getElem?_eq_some_iff.1 h).1
    exact ⟨by grind, by omega⟩
  have hr : ∀ b ver x, b < n → g1.rho b ver = some x → (if b < n then g1.rho b ver else none) = some x := fun b ver x h e => by rw [if_pos h]; exact e
  have hr' : ∀ {b ver x}, (if b < n then g1.rho b ver else none) = some x → b < n ∧ g1.rho b ver = some x := by
    intro b ver x h
    split at h
    · rename_i hb; exact ⟨hb, h⟩
    · cases h
  have hext : Ext g w (g1.upto n) w1 := by
    refine ⟨fun b ver x h => ?_, hla.ext.st, hla.ext.cell, hla.ext.shape⟩
    have hbn : b < n := by
      apply Decidable.byContradiction; intro hc
      rw [hi.fresh b ver (.inr (by omega))] at h; cases h
    exact hr b ver x hbn (hla.ext.rho b ver x h)
  refine ⟨⟨?_, ?_, ?_, ?_, ?_, hi1.stold, hi1.globs.st fun _ _ h => h⟩, ⟨hext, hla.size, hla.keep, ?_, by omega, hla.os, hla.tape, hla.output, fun k o hk hs => (hla.stk k o hk hs).imp_right fun h => ⟨h.1, fun ⟨b, x, v, z, q, hv, hz⟩ => h.2 ⟨b, x, v, z, (hget b x q).1, hv, (hr' hz).2⟩⟩, ?_, fun b ver k z h => hla.newk b ver k z (hr' h).2⟩⟩
  · intro b x h
    obtain ⟨hK, hbn⟩ := hget b x h
    rcases hb b x h with hlt | ⟨hHb, hrho, hk⟩
    · have hg := hi1.good b x hK
      cases x with
      | unborn => trivial
      | dead => trivial
      | row ver sz rows =>
        rcases hg with ⟨k, c, e, h1, h2, h3, h4⟩ | ⟨h1, h2, h3⟩
        case inr => exact .inr ⟨h1, by grind [Gh.upto], h3⟩
        refine .inl ⟨k, c, e, hr _ _ _ hbn h1, h2, ?_, h4⟩
        simp only [blkLt, List.all_eq_true] at hlt
        refine RowsAt_of _ _ fun j r hj => ?_
        obtain ⟨r1, r2⟩ := RowsAt_get _ _ _ _ h3 hj
        refine ⟨r1, ?_⟩
        have hrl := hlt r (List.mem_of_getElem? hj)
        obtain ⟨vs, v1, v2, v3, v4⟩ := RL_of_CellsAt r2
        exact CellsAt_of_RL (RL_restrict (n := n) (g := g1) (g2 := g1.upto n) (fun _ _ h => h) (fun b ver x h e => hr b ver x h e) _ _ hrl v3) v2 v4
      | map clock es =>
        obtain ⟨k, ents, h1, h2, h3⟩ := hg
        refine ⟨k, ents, hr _ _ _ hbn h1, h2, ?_⟩
        simp only [blkLt, List.all_eq_true, Bool.and_eq_true] at hlt
        obtain ⟨l1, l2⟩ := EntsAt_get h3
        refine EntsAt_of l1 fun j p e hp he => ?_
        obtain ⟨e', q1, q2, q3, q4⟩ := l2 j p hp
        rw [he] at q1; cases q1
        have hpl := hlt p (List.mem_of_getElem? hp)
        exact ⟨R_restrict (n := n) (g := g1) (g2 := g1.upto n) (fun _ _ h => h) (fun b ver x h e => hr b ver x h e) _ _ hpl.1 q2, R_restrict (n := n) (g := g1) (g2 := g1.upto n) (fun _ _ h => h) (fun b ver x h e => hr b ver x h e) _ _ hpl.2 q3, q4⟩
      | loop st pend fid A ps assign body =>
        obtain ⟨k, tmps, dk, fn, h1, h2, h3⟩ := hg
        exact ⟨k, tmps, dk, fn, hr _ _ _ hbn h1, h2, RL_restrict (n := n) (g := g1) (g2 := g1.upto n) (fun _ _ h => h) (fun b ver x h e => hr b ver x h e) _ _ hlt h3⟩
      | defs =>
        obtain ⟨k, h1, h2⟩ := hg
        exact ⟨k, hr _ _ _ hbn h1, h2⟩
      | iter m since seen stepped =>
        obtain ⟨k, mo, h1, h2, h3⟩ := hg
        exact ⟨k, mo, hr _ _ _ hbn h1, h2, R_restrict (n := n) (g := g1) (g2 := g1.upto n) (fun _ _ h => h) (fun b ver x h e => hr b ver x h e) _ _ hlt h3⟩
    · exact Good_mono hext (hi.good b x hHb) hk fun v _ h0 => by grind [Gh.upto]
  · intro b b' x x' v v' k z z' h h' hv hv' hk hk'
    exact hi1.inj b b' x x' v v' k z z' (hget b x h).1 (hget b' x' h').1 hv hv' (hr' hk).2 (hr' hk').2
  · intro b ver h
    rcases h with h | h
    · have := hi1.fresh b ver (.inl (hget b _ h).1)
      simp [Gh.upto, this]
    grind [Gh.upto]
  · intro b x v ver' h hv hlt
    have := hi1.next b x v ver' (hget b x h).1 hv hlt
    simp [Gh.upto, this]
  · intro b x v k z o h hv hk hs
    exact hi1.free b x v k z o (hget b x h).1 hv (hr' hk).2 hs
  · rintro k hk ⟨b, x, v, z, h, hv, hz⟩
    exact hla.own k hk ⟨b, x, v, z, (hget b x h).1, hv, (hr' hz).2⟩
  · intro b hbd
    obtain ⟨d1, d2⟩ := hla.deadk b hbd
    have hlt : b < H.length := (List.getElem?_eq_some_iff.1 hbd).1
    refine ⟨?_, fun ver => ?_⟩
    · grind
    grind [Gh.upto]

/-- The heap behind a call by reference, or a round. -/
theorem mergeFin_post (hi : Inv g H w) {ids : List Nat} {res : Option (ARes × List ABlk)} {fin : Fin} (h : mergeFin H ids res = some fin) : ∃ r H1, res = some (r, H1) ∧
    ((∃ eff, fin = .ok eff ∧ ∀ e w', Comes1 g (mask ids H) w r H1 e w' → ∃ x g', e = .returned x ∧ Inv g' (eff.apply H) w' ∧ R g' w' eff.val x ∧ Later g H w g' (eff.apply H) w') ∨
     (∃ v', fin = .pan v' ids ∧ v'.flat = true ∧ ∀ e w', Comes1 g (mask ids H) w r H1 e w' → ∃ x, e = .panicked [{ v := x, recovered := false }] ∧ Inv g (ids.foldl (fun H i => H.set i .dead) H) w' ∧ R g w' v' x ∧ Later g H w g (ids.foldl (fun H i => H.set i .dead) H) w')) := by
  unfold mergeFin at h
  split at h
  · rename_i v H1
    refine ⟨_, _, rfl, .inl ?_⟩
    split at h
    · rename_i hlen
      have happ : ∀ news, ({ val := v, upd := ids.map fun i => (i, H1.getD i .dead), news := news } : Eff).apply H = merged ids H H1 ++ news := by
        intro news
        simp only [Eff.apply, List.foldl_map, merged]
      dsimp only at h
      split at h
      · rename_i hc
        simp only [Bool.and_eq_true, List.all_eq_true] at hc
        cases h
        refine ⟨_, rfl, ?_⟩
        rintro e w' ⟨g1, hi1, hla, x, rfl, hr⟩
        obtain ⟨m1, m2⟩ := hi.merge hi1 hla hlen
        have hml : (merged ids H H1).length = H.length := fold_len _ _
        obtain ⟨d1, d2⟩ := hi.drop (n := H.length) m1 m2 hml rfl (by
          intro b y hb
          obtain ⟨hbl, h | h⟩ := merged_get hlen hb
          · left
            have hm : b ∈ ids := by simpa using h.1
            have := hc.2 (b, H1.getD b .dead) (List.mem_map.2 ⟨b, hm, rfl⟩)
            grind
          · right
            refine ⟨h.2, fun ver => (hla.deadk b (mask_dead h.1 hbl)).2 ver, fun v' k z hv hk => ?_⟩
            refine hla.keep k (hi.lies h.2 hv hk) fun hown => ?_
            obtain ⟨b', x', v2, z', h1, h2, h3, h4⟩ := owned_mask hown
            have := hi.inj b b' y x' v' v2 k z z' h.2 h2 hv h3 hk h4
            grind)
        refine ⟨x, g1.upto H.length, rfl, ?_, ?_, ?_⟩
        · grind
        · exact R_restrict (n := H.length) (g := g1) (g2 := g1.upto H.length) (fun _ _ h => h) (fun b ver y hb e => by simp [Gh.upto, hb, e]) v x hc.1 hr
        grind
      · cases h
        refine ⟨_, rfl, ?_⟩
        rintro e w' ⟨g1, hi1, hla, x, rfl, hr⟩
        obtain ⟨m1, m2⟩ := hi.merge hi1 hla hlen
        grind
    · cases h
  · rename_i v H1
    refine ⟨_, _, rfl, .inr ?_⟩
    split at h <;> simp at h
    rename_i hflat
    subst h
    refine ⟨v, rfl, hflat, ?_⟩
    rintro e w' ⟨g1, hi1, hla, x, rfl, hr⟩
    have hget : ∀ (b : Nat) (y : ABlk), (ids.foldl (fun H i => H.set i ABlk.dead) H)[b]? = some y → (ids.contains b = false ∧ H[b]? = some y) ∨ y = .dead := by
      intro b y h
      rw [fold_set (f := fun _ => ABlk.dead)] at h
      split at h
      · right; simp at h; exact h.symm
      · grind
    have hext : Ext g w g w' := ⟨fun _ _ _ h => h, fun _ _ h => h, hla.ext.cell, hla.ext.shape⟩
    have hlen2 : (ids.foldl (fun H i => H.set i ABlk.dead) H).length = H.length := fold_len (f := fun _ => ABlk.dead) ids H
    refine ⟨x, rfl, ⟨?_, ?_, ?_, ?_, ?_, fun k o h => Nat.lt_of_lt_of_le (hi.stold k o h) hla.size, hi.globs.mono hext⟩, R_flat v x hflat hr, ⟨hext, hla.size, ?_, ?_, by omega, hla.os, hla.tape, hla.output, fun _ _ _ h => .inl h, ?_, fun _ ver _ z h => .inl ⟨ver, z, h⟩⟩⟩
    · intro b y hb
      rcases hget b y hb with ⟨hc, h⟩ | rfl
      · refine Good_mono hext (hi.good b y h) (fun v' k z hv hk => hla.keep k (hi.lies h hv hk) fun hown => ?_) fun _ _ h => h
        obtain ⟨b', x', v2, z', h1, h2, h3, h4⟩ := owned_mask hown
        have := hi.inj b b' y x' v' v2 k z z' h h2 hv h3 hk h4
        grind
      · trivial
    · intro b b' y y' v1 v2 k z z' h h' hv hv' hk hk'
      rcases hget b y h with ⟨_, h⟩ | rfl
      · rcases hget b' y' h' with ⟨_, h'⟩ | rfl
        · exact hi.inj b b' y y' v1 v2 k z z' h h' hv hv' hk hk'
        · cases hv'
      · cases hv
    · intro b ver h
      rcases h with h | h
      · rcases hget b _ h with ⟨_, h⟩ | h
        · exact hi.fresh b ver (.inl h)
        · cases h
      · exact hi.fresh b ver (.inr (by omega))
    · intro b y v1 ver' h hv hlt
      rcases hget b y h with ⟨_, h⟩ | rfl
      · exact hi.next b y v1 ver' h hv hlt
      · cases hv
    · intro b y v1 k z o h hv hk hs
      rcases hget b y h with ⟨_, h⟩ | rfl
      · exact hi.free b y v1 k z o h hv hk hs
      · cases hv
    · intro k hk hn
      refine hla.keep k hk fun ho2 => hn ?_
      obtain ⟨b, y, v1, z, _, h2, h3, h4⟩ := owned_mask ho2
      exact ⟨b, y, v1, z, h2, h3, h4⟩
    · rintro k hk ⟨b, y, v1, z, h, hv, hz⟩
      rcases hget b y h with ⟨_, h⟩ | rfl
      · exact ⟨b, y, v1, z, h, hv, hz⟩
      · cases hv
    grind
  · cases h

/-- A call by reference. -/
theorem byRef_post {orc : Orc} {P : Program} (ho : OrcOk P orc) (hi : Inv g H w) {f : FuncId} {args : List AVal} {ids : List Nat} {vs : Array Value} {fin : Fin} (hl : RL g w args vs.toList)
    (h : finish orc H (.byRef f args ids) = some fin) :
    (∃ fn c, P.funcs[f]? = some fn ∧ fn.body = some c ∧ fn.name ≠ "runtime.NumGoroutine") ∧
    ((∃ eff, fin = .ok eff ∧ Calls P f vs w fun e w' => ∃ x g', e = .returned x ∧ Inv g' (eff.apply H) w' ∧ R g' w' eff.val x ∧ Later g H w g' (eff.apply H) w') ∨
     (∃ v', fin = .pan v' ids ∧ v'.flat = true ∧ Calls P f vs w fun e w' => ∃ x, e = .panicked [{ v := x, recovered := false }] ∧ Inv g (ids.foldl (fun H i => H.set i .dead) H) w' ∧ R g w' v' x ∧ Later g H w g (ids.foldl (fun H i => H.set i .dead) H) w')) := by
  simp only [finish, avsF_eq, headsF_eq] at h
  obtain ⟨r, H1, hcall, hp⟩ := mergeFin_post hi h
  obtain ⟨hf, hcalls⟩ := ho.fn _ _ _ _ _ hcall
  refine ⟨hf, ?_⟩
  rcases hp with ⟨eff, rfl, hp⟩ | ⟨v', rfl, hfl, hp⟩
  · exact .inl ⟨eff, rfl, (hcalls g w vs (inv_mask hi ids) hl).mono fun e w' h => hp e w' h⟩
  · exact .inr ⟨v', rfl, hfl, (hcalls g w vs (inv_mask hi ids) hl).mono fun e w' h => hp e w' h⟩

theorem newOnly_get {n b : Nat} {H : List ABlk} {x : ABlk} (h : (newOnly n H)[b]? = some x) : (b < n ∧ x = .dead) ∨ (n ≤ b ∧ H[b]? = some x) := by
  grind [newOnly]

theorem inv_newOnly (hi : Inv g H w) {n : Nat} (hn : n ≤ H.length) : Inv g (newOnly n H) w := by
  have hlen : (newOnly n H).length = H.length := by simp [newOnly]; omega
  refine ⟨fun b x h => ?_, ?_, ?_, ?_, ?_, hi.stold, hi.globs⟩
  · rcases newOnly_get h with ⟨_, rfl⟩ | ⟨_, h⟩
    · trivial
    · exact hi.good b x h
  · intro b b' x x' v v' k z z' h h' hv hv'
    rcases newOnly_get h with ⟨_, rfl⟩ | ⟨_, h⟩
    · cases hv
    · rcases newOnly_get h' with ⟨_, rfl⟩ | ⟨_, h'⟩
      · cases hv'
      · exact hi.inj b b' x x' v v' k z z' h h' hv hv'
  · intro b ver h
    rcases h with h | h
    · rcases newOnly_get h with ⟨_, h⟩ | ⟨_, h⟩
      · cases h
      · exact hi.fresh b ver (.inl h)
    · exact hi.fresh b ver (.inr (by rwa [hlen] at h))
  · intro b x v ver' h hv
    rcases newOnly_get h with ⟨_, rfl⟩ | ⟨_, h⟩
    · cases hv
    · exact hi.next b x v ver' h hv
  · intro b x v k z o h hv
    rcases newOnly_get h with ⟨_, rfl⟩ | ⟨_, h⟩
    · cases hv
    · exact hi.free b x v k z o h hv

/-- The heap behind a call whose result is kept by content. -/
theorem fzFin_post (hi : Inv g H w) {ids : List Nat} {res : Option (ARes × List ABlk)} {fin : Fin} (h : fzFin H ids res = some fin) : ∃ r H1, res = some (r, H1) ∧
    ((∃ eff, fin = .ok eff ∧ ∀ e w', Comes1 g (mask ids H) w r H1 e w' → ∃ x g', e = .returned x ∧ Inv g' (eff.apply H) w' ∧ R g' w' eff.val x ∧ Later g H w g' (eff.apply H) w') ∨
     (∃ v', fin = .pan v' ids ∧ v'.flat = true ∧ ∀ e w', Comes1 g (mask ids H) w r H1 e w' → ∃ x, e = .panicked [{ v := x, recovered := false }] ∧ Inv g (ids.foldl (fun H i => H.set i .dead) H) w' ∧ R g w' v' x ∧ Later g H w g (ids.foldl (fun H i => H.set i .dead) H) w')) := by
  unfold fzFin at h
  split at h
  · rename_i v H1
    refine ⟨_, _, rfl, .inl ?_⟩
    split at h
    · rename_i hlen
      split at h
      · rename_i hc
        rw [List.all_eq_true] at hc
        split at h
        · rename_i v' hsnap
          simp only [Option.some.injEq] at h
          subst h
          refine ⟨_, rfl, ?_⟩
          rintro e w' ⟨g1, hi1, hla, x, rfl, hr⟩
          have happ : ({ val := v', upd := (ids.filter fun i => !sameBlk (H.getD i .dead) (H1.getD i .dead)).map fun i => (i, H1.getD i .dead) } : Eff).apply H = merged ids H H1 := by
            simp only [Eff.apply, List.foldl_map, merged, List.append_nil]
            apply List.ext_getElem?
            intro b
            rw [fold_set (f := fun i => H1.getD i .dead), fold_set (f := fun i => H1.getD i .dead)]
            by_cases hb : b ∈ ids
            · grind [sameBlk, sameBlk_eq]
            · simp [hb]
          obtain ⟨m1, m2⟩ := hi.merge hi1 hla hlen
          have hml : (merged ids H H1).length = H.length := fold_len _ _
          obtain ⟨d1, d2⟩ := hi.drop (n := H.length) m1 m2 hml rfl (by
            intro b y hb
            obtain ⟨hbl, h | h⟩ := merged_get hlen hb
            · grind
            · right
              refine ⟨h.2, fun ver => (hla.deadk b (mask_dead h.1 hbl)).2 ver, fun v' k z hv hk => ?_⟩
              refine hla.keep k (hi.lies h.2 hv hk) fun hown => ?_
              obtain ⟨b', x', v2, z', h1, h2, h3, h4⟩ := owned_mask hown
              have := hi.inj b b' y x' v' v2 k z z' h.2 h2 hv h3 hk h4
              grind)
          have hK := inv_newOnly hi1 hlen
          obtain ⟨r1, r2⟩ := snap_sound hK _ _ _ _ hsnap hr
          have hup : ∀ {b ver y}, (g1.upto H.length).rho b ver = some y → b < H.length ∧ g1.rho b ver = some y := by
            intro b ver y h
            simp only [Gh.upto] at h
            split at h
            · rename_i hb; exact ⟨hb, h⟩
            · cases h
          have howned : ∀ k, Owned g1 (newOnly H.length H1) k → ∃ b' x' v2 z', H.length ≤ b' ∧ H1[b']? = some x' ∧ x'.live = some v2 ∧ g1.rho b' v2 = some (k, z') := by
            rintro k ⟨b', x', v2, z', q1, q2, q3⟩
            rcases newOnly_get q1 with ⟨_, rfl⟩ | ⟨q0, q1⟩
            · cases q2
            · grind
          have hext : Ext (g1.upto H.length) w' { rho := (g1.upto H.length).rho, st := (frz g1 (newOnly H.length H1)).st } w' :=
            ⟨fun _ _ _ h => h, fun _ _ h => .inl h, fun _ _ _ => rfl, fun _ _ h => h⟩
          refine ⟨x, { rho := (g1.upto H.length).rho, st := (frz g1 (newOnly H.length H1)).st }, rfl, ?_, R_pure (g := frz g1 (newOnly H.length H1)) (g2 := { rho := (g1.upto H.length).rho, st := (frz g1 (newOnly H.length H1)).st }) (fun _ _ h => h) v' x r2 r1, ?_⟩
          · rw [happ]
            refine ⟨fun b y hb => Good_mono hext (d1.good b y hb) (fun _ _ _ _ _ => rfl) (fun _ _ h => h), d1.inj, d1.fresh, d1.next, fun b y v2 k z o hb hv hk hs => ?_, fun k o hs => ?_, d1.globs.mono hext⟩
            · rcases hs with hs | hs
              · exact d1.free b y v2 k z o hb hv hk hs
              · obtain ⟨b', x', v3, z', q0, q1, q2, q3⟩ := howned k hs
                have hbl : b < H.length := (hup hk).1
                have := m1.inj b b' y x' v2 v3 k z z' (by grind) (by
                  grind) hv q2 (hup hk).2 q3
                omega
            · rcases hs with hs | hs
              · exact d1.stold k o hs
              · obtain ⟨b', x', v3, z', q0, q1, q2, q3⟩ := howned k hs
                exact hi1.lies q1 q2 q3
          · rw [happ]
            refine ⟨⟨d2.ext.rho, fun k o h => .inl (d2.ext.st k o h), d2.ext.cell, d2.ext.shape⟩, d2.size, d2.keep, d2.own, d2.len, d2.os, d2.tape, d2.output, fun k o hk hs => ?_, d2.deadk, d2.newk⟩
            rcases hs with hs | hs
            · exact d2.stk k o hk hs
            · obtain ⟨b', x', v3, z', q0, q1, q2, q3⟩ := howned k hs
              rcases hla.newk b' v3 k z' q3 with ⟨ver', z2, h2⟩ | h2
              · rw [hi.fresh b' ver' (.inr q0)] at h2; cases h2
              · omega
        · cases h
      · cases h
    · cases h
  · exact mergeFin_post hi h

/-- A call by reference, of either kind. -/
theorem byAny_post {orc : Orc} {P : Program} (ho : OrcOk P orc) (hi : Inv g H w) {f : FuncId} {args : List AVal} {ids : List Nat} {z : Bool} {vs : Array Value} {fin : Fin} (hl : RL g w args vs.toList)
    (h : finish orc H (if z then .byFz f args ids else .byRef f args ids) = some fin) :
    (∃ fn c, P.funcs[f]? = some fn ∧ fn.body = some c ∧ fn.name ≠ "runtime.NumGoroutine") ∧
    ((∃ eff, fin = .ok eff ∧ Calls P f vs w fun e w' => ∃ x g', e = .returned x ∧ Inv g' (eff.apply H) w' ∧ R g' w' eff.val x ∧ Later g H w g' (eff.apply H) w') ∨
     (∃ v', fin = .pan v' ids ∧ v'.flat = true ∧ Calls P f vs w fun e w' => ∃ x, e = .panicked [{ v := x, recovered := false }] ∧ Inv g (ids.foldl (fun H i => H.set i .dead) H) w' ∧ R g w' v' x ∧ Later g H w g (ids.foldl (fun H i => H.set i .dead) H) w')) := by
  cases z
  · exact byRef_post ho hi hl h
  · simp only [if_true, finish, avsF_eq, headsF_eq] at h
    obtain ⟨r, H1, hcall, hp⟩ := fzFin_post hi h
    obtain ⟨hf, hcalls⟩ := ho.fn _ _ _ _ _ hcall
    refine ⟨hf, ?_⟩
    rcases hp with ⟨eff, rfl, hp⟩ | ⟨v', rfl, hfl, hp⟩
    · exact .inl ⟨eff, rfl, (hcalls g w vs (inv_mask hi ids) hl).mono fun e w' h => hp e w' h⟩
    · exact .inr ⟨v', rfl, hfl, (hcalls g w vs (inv_mask hi ids) hl).mono fun e w' h => hp e w' h⟩

/-- A round. -/
theorem round_post {orc : Orc} {P : Program} (ho : OrcOk P orc) (hi : Inv g H w) {b k sz : Nat} {args : List AVal} {ids : List Nat} {vs : Array Value} {fin : Fin} (hl : RL g w args vs.toList) (hb : g.rho b 0 = some (k, sz))
    (h : finish orc H (.round b args ids) = some fin) :
    ∃ rec, w.heap[k]? = some (.loop rec) ∧ vs.size = rec.params.size ∧
    ((∃ eff, fin = .ok eff ∧ RoundIn Fence.wide 0 P k rec.fn (roundTmps rec vs) rec.assign rec.body w fun e w' => ∃ x g', e = .returned x ∧ Inv g' (eff.apply H) w' ∧ R g' w' eff.val x ∧ Later g H w g' (eff.apply H) w') ∨
     (∃ v', fin = .pan v' ids ∧ v'.flat = true ∧ RoundIn Fence.wide 0 P k rec.fn (roundTmps rec vs) rec.assign rec.body w fun e w' => ∃ x, e = .panicked [{ v := x, recovered := false }] ∧ Inv g (ids.foldl (fun H i => H.set i .dead) H) w' ∧ R g w' v' x ∧ Later g H w g (ids.foldl (fun H i => H.set i .dead) H) w')) := by
  simp only [finish, avsF_eq, headsF_eq] at h
  obtain ⟨r, H1, hcall, hp⟩ := mergeFin_post hi h
  obtain ⟨rec, h1, h2, h3⟩ := ho.rnd _ _ _ _ _ hcall g w vs k sz (inv_mask hi ids) hl hb
  refine ⟨rec, h1, h2, ?_⟩
  rcases hp with ⟨eff, rfl, hp⟩ | ⟨v', rfl, hfl, hp⟩
  · exact .inl ⟨eff, rfl, h3.mono fun e w' h => hp e w' h⟩
  · exact .inr ⟨v', rfl, hfl, h3.mono fun e w' h => hp e w' h⟩

end
end Go.AM
