/- Code. No program. -/
import Derived.Test.YthacencknomblaaAmV
namespace Go.AM

section
variable {P : Program} {cfg : Cfg} {orc : Orc} {g : Gh} {H : List ABlk} {w : World}

/-- What a statement comes to. -/
def OutPost (Q : Exit → Act → World → Prop) (g : Gh) (H : List ABlk) (w : World) (s' : St) : AOut → Prop
  | .normal => ∀ g' a' w', Sim g' s' a' w' → Later g H w g' s'.H w' → Q .normal a' w'
  | .exit id => ∀ g' a' w', Sim g' s' a' w' → Later g H w g' s'.H w' → Q (.exit id) a' w'
  | .ret => ∀ g' a' w', Sim g' s' a' w' → Later g H w g' s'.H w' → Q .ret a' w'
  | .pan v => ∀ g' a' w' x, v.flat = true → Sim g' s' a' w' → Later g H w g' s'.H w' → R g' w' v x → Q (.panic [{ v := x, recovered := false }]) a' w'

theorem OutPost.later {Q : Exit → Act → World → Prop} {g1 : Gh} {H1 : List ABlk} {w1 : World} {s' : St} {r : AOut} (h : OutPost Q g H w s' r) (hl : Later g H w g1 H1 w1) : OutPost Q g1 H1 w1 s' r := by
  cases r with
  | normal => exact fun g' a' w' hs hl' => h g' a' w' hs (hl.trans hl')
  | exit id => exact fun g' a' w' hs hl' => h g' a' w' hs (hl.trans hl')
  | ret => exact fun g' a' w' hs hl' => h g' a' w' hs (hl.trans hl')
  | pan v => exact fun g' a' w' x hv hs hl' hr => h g' a' w' x hv hs (hl.trans hl') hr

theorem RL_forget {a : Act} : ∀ (l : List Nat) (A : List AVal), RL g w A a.tmps.toList → RL g w (forget l A) a.tmps.toList
  | [], _, h => h
  | t :: l, A, h => by
    have := RL_forget (a := a) l (A.set t .junk) (by
      obtain ⟨h1, h2⟩ := RL_get _ _ h
      refine RL_of _ _ (by simp [h1]) fun j b y hj hy => ?_
      by_cases ht : t = j
      · subst ht
        by_cases hlt : t < A.length
        · rw [List.getElem?_set_self hlt] at hj; cases hj; simp [R]
        · rw [List.getElem?_eq_none (by simp; omega)] at hj; cases hj
      · rw [List.getElem?_set_ne ht] at hj
        obtain ⟨y', hy', hr⟩ := h2 j b hj
        rw [hy] at hy'; cases hy'; exact hr)
    simpa [forget] using this

theorem loop_sound {c : Code} {f : St → Option (AOut × St)} {Q : Exit → Act → World → Prop}
    (hc : ∀ (Q : Exit → Act → World → Prop) (s : St) (g : Gh) (a : Act) (w : World) (out : AOut) (s' : St), f s = some (out, s') → Sim g s a w → OutPost Q g s.H w s' out → c.wp P Q a w) :
    ∀ (n : Nat) (s : St) (g : Gh) (a : Act) (w : World) (out : AOut) (s' : St), iter f n s = some (out, s') → Sim g s a w → OutPost Q g s.H w s' out →
      ∀ (b : Frame) (k : List Item) (cs : List Frame), ∃ e a' w', Q e a' w' ∧ Arrives P (lone (b.at a (.code c :: .inLoop c :: k)) cs w) b k cs e a' w'
  | 0, s, g, a, w, out, s', h, _, _ => by simp [iter] at h
  | n + 1, s, g, a, w, out, s', h, hs, hp => by
    intro b k cs
    simp only [iter] at h
    have hstep : c.wp P (Exit.then (fun a' w' => ∀ (b : Frame) (k : List Item) (cs : List Frame), ∃ e a2 w2, Q e a2 w2 ∧ Arrives P (lone (b.at a' (.code c :: .inLoop c :: k)) cs w') b k cs e a2 w2) Q) a w := by
      split at h
      · rename_i s1 hf
        exact hc _ s g a w .normal s1 hf hs fun g' a' w' hs' hla => loop_sound hc n s1 g' a' w' out s' h hs' (hp.later hla)
      · rename_i hne
        cases hf : f s with
        | none => rw [hf] at h; cases h
        | some r =>
          obtain ⟨o1, s1⟩ := r
          rw [hf] at h
          simp only [Option.some.injEq, Prod.mk.injEq] at h
          obtain ⟨rfl, rfl⟩ := h
          refine hc _ s g a w o1 s1 hf hs ?_
          cases o1 with
          | normal => exact absurd hf (hne s1)
          | exit id => exact hp
          | ret => exact hp
          | pan v => exact hp
    obtain ⟨e, a₁, w₁, hq, harr⟩ := hstep b (.inLoop c :: k) cs
    cases e with
    | normal =>
      obtain ⟨e₂, a₂, w₂, hq₂, harr₂⟩ := hq b k cs
      exact ⟨e₂, a₂, w₂, hq₂, .of_steps (Steps.trans harr (.one step_inLoop)) harr₂⟩
    | exit id => exact ⟨_, a₁, w₁, hq, .pass (x := .inLoop c) rfl (fun _ _ => .inl (by simp)) harr⟩
    | goto l => exact ⟨_, a₁, w₁, hq, .pass (x := .inLoop c) rfl (fun _ _ => .inl (by simp)) harr⟩
    | ret => exact ⟨_, a₁, w₁, hq, .pass (x := .inLoop c) rfl (fun _ _ => .inl (by simp)) harr⟩
    | panic ch => exact ⟨_, a₁, w₁, hq, .pass (x := .inLoop c) rfl (fun _ _ => .inl (by simp)) harr⟩
    | outgrown => exact ⟨_, a₁, w₁, hq, .pass (x := .inLoop c) rfl (fun _ _ => .inl (by simp)) harr⟩

theorem exec_sound (hm : P.follows .mixedOrders = true) (ho : OrcOk P orc) {fid n : Nat} : ∀ (c : Code) (cur : Nat) (Q : Exit → Act → World → Prop) (s : St) (g : Gh) (a : Act) (w : World) (out : AOut) (s' : St),
    exec P cfg orc fid n cur c s = some (out, s') → Sim g s a w → OutPost Q g s.H w s' out → c.wp P Q a w := by
  intro c
  induction c with
  | skip =>
    intro cur Q s g a w out s' h hs hp
    simp only [exec, Option.some.injEq, Prod.mk.injEq] at h
    obtain ⟨rfl, rfl⟩ := h
    exact wp_skip (hp g a w hs (Later.refl _ _ _))
  | region id ops draw =>
    intro cur Q s g a w out s' h hs hp
    simp only [exec] at h
    split at h
    · rename_i s1 hr
      simp only [Option.some.injEq, Prod.mk.injEq] at h
      obtain ⟨rfl, rfl⟩ := h
      exact region_sound hm ho hr hs hp
    · rename_i v s1 hr
      simp only [Option.some.injEq, Prod.mk.injEq] at h
      obtain ⟨rfl, rfl⟩ := h
      exact region_sound hm ho hr hs hp
    · cases h
  | seq x y ihx ihy =>
    intro cur Q s g a w out s' h hs hp
    simp only [exec] at h
    refine wp_seq ?_
    split at h
    · rename_i s1 hx
      exact ihx cur _ s g a w .normal s1 hx hs fun g' a' w' hs' hla => ihy cur Q s1 g' a' w' out s' h hs' (hp.later hla)
    · rename_i hne
      refine ihx cur _ s g a w out s' h hs ?_
      cases out with
      | normal => exact absurd h (hne s')
      | exit id => exact hp
      | ret => exact hp
      | pan v => exact hp
  | cond c x y ihx ihy =>
    intro cur Q s g a w out s' h hs hp
    simp only [exec] at h
    have hev := hs.eval c
    split at h
    · rename_i hc
      rw [hc] at hev
      simp only [R] at hev
      exact wp_cond_true hev (ihx cur Q s g a w out s' h hs hp)
    · rename_i hc
      rw [hc] at hev
      simp only [R] at hev
      exact wp_cond_false hev (ihy cur Q s g a w out s' h hs hp)
    · cases h
  | block id b ih =>
    intro cur Q s g a w out s' h hs hp
    simp only [exec] at h
    refine wp_block ?_
    split at h
    · rename_i id' s1 hb
      split at h
      · rename_i he
        simp only [Option.some.injEq, Prod.mk.injEq] at h
        obtain ⟨rfl, rfl⟩ := h
        refine ih id _ s g a w (.exit id') s1 hb hs fun g' a' w' hs' hla => ?_
        simp only [Exit.inBlock, he, if_true]
        exact hp g' a' w' hs' hla
      · rename_i he
        simp only [Option.some.injEq, Prod.mk.injEq] at h
        obtain ⟨rfl, rfl⟩ := h
        refine ih id _ s g a w (.exit id') s1 hb hs fun g' a' w' hs' hla => ?_
        simp only [Exit.inBlock, he, if_false]
        exact hp g' a' w' hs' hla
    · rename_i hne
      refine ih id _ s g a w out s' h hs ?_
      cases out with
      | normal => exact hp
      | exit id' => exact absurd h (hne id' s')
      | ret => exact hp
      | pan v => exact hp
  | loop b ih =>
    intro cur Q s g a w out s' h hs hp
    simp only [exec] at h
    intro fr k cs
    have := loop_sound (P := P) (c := b) (Q := Q) (f := fun s => exec P cfg orc fid n cur b { s with A := forget (cfg.kill fid cur) s.A })
      (fun Q s g a w out s' hf hs hp => ih cur Q _ g a w out s' hf ⟨hs.inv, RL_forget _ _ hs.tmps, hs.defs⟩ hp) n s g a w out s' h hs hp fr k cs
    obtain ⟨e, a', w', hq, harr⟩ := this
    exact ⟨e, a', w', hq, .of_steps (.one step_loop) harr⟩
  | exit id =>
    intro cur Q s g a w out s' h hs hp
    simp only [exec, Option.some.injEq, Prod.mk.injEq] at h
    obtain ⟨rfl, rfl⟩ := h
    exact wp_exit (hp g a w hs (Later.refl _ _ _))
  | ret =>
    intro cur Q s g a w out s' h hs hp
    simp only [exec, Option.some.injEq, Prod.mk.injEq] at h
    obtain ⟨rfl, rfl⟩ := h
    exact wp_ret (hp g a w hs (Later.refl _ _ _))
  | rangeFunc => intro cur Q s g a w out s' h; simp [exec] at h
  | scope => intro cur Q s g a w out s' h; simp [exec] at h
  | label => intro cur Q s g a w out s' h; simp [exec] at h
  | goto => intro cur Q s g a w out s' h; simp [exec] at h
  | refuse => intro cur Q s g a w out s' h; simp [exec] at h

/-! ### Results -/

def resOne (tmps : Array Value) : ResultVar → Sem Value
  | .tmp t => pure (tmps.getD t undef)
  | .cell b t => do loadVar t (← asAddr (tmps.getD b undef))

theorem results_eq (fn : Func) (tmps : Array Value) : results fn tmps = (fn.results.mapM (resOne tmps) >>= fun vs => pure (if h : vs.size = 1 then vs[0] else .tuple vs)) := by
  have : (fun r => match r with
    | ResultVar.tmp t => (pure (tmps.getD t undef) : Sem Value)
    | ResultVar.cell a t => do loadVar t (← asAddr (tmps.getD a undef))) = resOne tmps := by
    funext r; cases r <;> rfl
  unfold results
  rw [← this]
  rfl

theorem result_sound {A : List AVal} {a : Act} (hi : Inv g H w) (hl : RL g w A a.tmps.toList) : ∀ (rv : ResultVar) (v : AVal), resultA P A H rv = some v →
    ∃ x, (resOne a.tmps rv).run P w = .ok x w ∧ R g w v x := by
  intro rv v h
  have hget : ∀ t, R g w (A.getD t nothing) (a.tmps.getD t undef) := fun t =>
    (Sim.eval (s := ⟨A, H, []⟩) (a := { a with defers := [] }) ⟨hi, hl, rfl⟩ (.tmp t) : _)
  cases rv with
  | tmp t =>
    simp only [resultA, Option.some.injEq] at h
    subst h
    exact ⟨_, rfl, hget t⟩
  | cell t T =>
    simp only [resultA] at h
    split at h
    · rename_i eff he
      simp only [Option.some.injEq] at h
      subst h
      have hx := hget t
      unfold loadA at he
      split at he
      · rename_i b ver i off hb
        rw [hb] at hx; simp only [R] at hx
        obtain ⟨k, sz, hk, hv⟩ := hx
        obtain ⟨⟨sz', rows⟩, h1, h2⟩ := bind_some he
        have hrow := rowOf_some h1
        obtain ⟨y, hy, rfl⟩ := yields_some h2
        obtain ⟨cs, hcs, hl'⟩ := Option.bind_eq_some_iff.1 hy
        obtain ⟨k', c, e, q1, q2, q3, _⟩ := hi.row b ver _ _ hrow
        rw [hk] at q1; simp at q1; obtain ⟨rfl, rfl⟩ := q1
        obtain ⟨_, q4⟩ := RowsAt_get _ _ _ _ q3 hcs
        obtain ⟨vs, v1, v2, v3, v4⟩ := RL_of_CellsAt q4
        obtain ⟨v, r1, r2⟩ := run_loadVar (P := P) (k := k) (p := 0 + i * sz) hl' v3 v2 (fun j hj => by rw [cell?_cells q2]; exact v4 j hj)
        refine ⟨v, ?_, r2⟩
        simp at r1
        simp [resOne, hv, asAddr, r1]
      · rename_i cs off hb
        rw [hb] at hx; simp only [R] at hx
        obtain ⟨k, p, hv, _, hc⟩ := hx
        obtain ⟨y, hy, rfl⟩ := yields_some he
        obtain ⟨vs, v1, v2, v3, v4⟩ := RL_of_RC hc
        obtain ⟨v, r1, r2⟩ := run_loadVar (P := P) (k := k) (p := p) hy v3 v2 v4
        refine ⟨v, ?_, r2⟩
        simp [resOne, hv, asAddr, r1]
      · simp [Rd.run] at he
    · cases h

theorem results_sound {fn : Func} {A : List AVal} {a : Act} {vs : List AVal} (hi : Inv g H w) (hl : RL g w A a.tmps.toList) (h : resultsA P A H fn.results.toList = some vs) :
    ∃ x, (results fn a.tmps).run P w = .ok x w ∧ R g w (resultOf vs) x := by
  have key : ∀ (l : List ResultVar) (vs : List AVal), resultsA P A H l = some vs → ∃ xs : List Value,
      (l.mapM (resOne a.tmps)).run P w = .ok xs w ∧ RL g w vs xs := by
    intro l
    induction l with
    | nil => intro vs h; simp [resultsA] at h; subst h; exact ⟨[], by simp, by simp [RL]⟩
    | cons r rs ih =>
      intro vs h
      simp only [resultsA] at h
      split at h
      · rename_i v vs' h1 h2
        simp only [Option.some.injEq] at h
        subst h
        obtain ⟨x, x1, x2⟩ := result_sound hi hl r v h1
        obtain ⟨xs, y1, y2⟩ := ih vs' h2
        refine ⟨x :: xs, ?_, by simp only [RL]; exact ⟨_, _, rfl, x2, y2⟩⟩
        rw [List.mapM_cons]
        simp only [Sem.run_bind, x1, Result.andThen_ok, y1]
        rfl
      · cases h
  obtain ⟨xs, h1, h2⟩ := key _ _ h
  have hlen := (RL_get _ _ h2).1
  have hm : (fn.results.mapM (resOne a.tmps)).run P w = .ok xs.toArray w := by
    rw [Array.mapM_eq_mapM_toList]
    simp only [Sem.run_map, h1, Result.andThen_ok]
  rw [results_eq]
  simp only [Sem.run_bind, hm, Result.andThen_ok, Sem.run_pure]
  refine ⟨if h : xs.toArray.size = 1 then xs.toArray[0] else .tuple xs.toArray, ?_, ?_⟩
  · rfl
  · match vs, xs, h2, hlen with
    | [], [], h2, _ => simp [resultOf, R, RL]
    | [v], [x], h2, _ => simpa [resultOf, RL] using h2
    | v :: v' :: vs, x :: x' :: xs, h2, _ =>
      simp only [resultOf, List.size_toArray, List.length_cons]
      rw [dif_neg (by omega)]
      simp only [R]
      exact ⟨_, rfl, h2⟩
end
end Go.AM
