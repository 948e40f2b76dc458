/- A function that hands back the beginning of the row that it was handed: the rest of the row is forgotten. No program. -/
import Derived.Test.YtpgpmlaafigpaaaGreatDoorAmGc
namespace Go.AM
variable [Globs] {P : Program}

/-- The contract with the row cut to what is handed back. -/
def Ctr1.shrink (c : Ctr1 P) (α : Type) (sz : Nat) (enc : α → List AVal) (he : ∀ a, AVal.pureL (enc a) = true) (k : c.sh.El → Nat) (l : c.sh.El → List α) (ho : ∀ r, c.out r = .ret (.sl 0 0 sz 0 (k r))) (hb : ∀ x r, c.outB x r = .row 0 sz ((l r).map enc)) : Ctr1 P where
  f := c.f
  X := c.X
  args := c.args
  blk := c.blk
  sh := .one (List α)
  out := fun (r : List α) => .ret (.sl 0 0 sz 0 r.length)
  outB := fun _ (r : List α) => .row 0 sz (r.map enc)
  S := fun n x => (c.S n x).bind fun r => if k r ≤ (l r).length then some ((l r).take (k r)) else none
  a0 := c.a0
  b0 := c.b0
  b1 := fun _ (r : List α) => .inl (by simp [ABlk.row0, he])
  r0 := fun _ => rfl
  ok := fun n x (r : List α) h => by
    obtain ⟨r', h1, h2⟩ := Option.bind_eq_some_iff.1 h
    split at h2
    · rename_i hk
      have h2 : (l r').take (k r') = r := Option.some.inj h2
      subst h2
      have := c.ok n x r' h1
      rw [ho, hb] at this
      have := this.shrink (k r')
      rw [← List.map_take] at this
      rwa [show ((l r').take (k r')).length = k r' by rw [List.length_take]; omega]
    · cases h2

/-! ### A function that hands back memory of its own -/

def endCN {ρ : Type} (P : Program) [Globs] (cfg : Cfg) (L : Nat) (fn : Func) (H0 : List ABlk) (out : ρ → ARes × List ABlk) (g : G P ρ) (o : AOut) (s : St) : Prop :=
  match g with
  | .done ts r => tidyC H0 ts s fun s => landRO P cfg L fn o s = some (out r)
  | .fail => True
  | _ => AtEndR P fn o s H0 out

def fnCN {ρ : Type} (P : Program) [Globs] (cfg : Cfg) (L : Nat) (f : FuncId) (args : List AVal) (H0 : List ABlk) (out : ρ → ARes × List ABlk) (g : G P ρ) : Prop :=
  match P.funcs[f]? with
  | some fn => match fn.body with
    | some c => gxC P (env0 P cfg) H0 c g ⟨frameA fn.ntmps args, H0, []⟩ fun g o s => endCN P cfg L fn H0 out g o s
    | none => False
  | none => False

theorem endCN_inv {cfg : Cfg} {n L : Nat} {ρ : Type} {fn : Func} {H0 : List ABlk} {out : ρ → ARes × List ABlk} {g : G P ρ} {o : AOut} {s : St} {r : ρ} (h : endCN P cfg L fn H0 out g o s) (hr : g.run n = some r) : ∃ s', Weak H0 s s' ∧ landRO P cfg L fn o s' = some (out r) := by
  unfold endCN at h
  split at h
  · simp only [G.run, Option.ite_none_right_eq_some, Option.some.injEq] at hr
    obtain ⟨hok, rfl⟩ := hr
    exact tidyC_inv hok h
  · simp [G.run] at hr
  · exact nomatch h

theorem fnCN_sound {cfg : Cfg} (hm : P.follows .mixedOrders = true) (hN : ∀ (f : FuncId) (fn : Func), P.funcs[f]? = some fn → fn.name ≠ "runtime.NumGoroutine") {L : Nat} {f : FuncId} {args : List AVal} {H0 : List ABlk} {ρ : Type} {out : ρ → ARes × List ABlk} {g : G P ρ}
    (h : fnCN P cfg L f args H0 out g) {n : Nat} {r : ρ} (hr : g.run n = some r) : FnRef P f args H0 (out r).1 (out r).2 := by
  unfold fnCN at h
  split at h
  · rename_i fn hf
    split at h
    · rename_i c hb
      obtain ⟨g', o, s1, h', hr', hd⟩ := gxC_det (X := env0 P cfg) hm (nestN_ok hm hN 9) c r g _ _ h hr
      obtain ⟨s', hwk, hlo⟩ := endCN_inv h' hr'
      exact FnRef.of hm hN hf hb (fun g0 w0 hi => hd none g0 w0 hi trivial) hwk hlo
    · exact h.elim
  · exact h.elim

theorem FnRef.lstNil {f : FuncId} {H H1 : List ABlk} {r : ARes} (h0 : FnRef P f [.nz true] H r H1) (h1 : FnRef P f [.nz false] H r H1) : FnRef P f [.lst []] H r H1 := by
  refine ⟨h0.1, fun g w vs hi hl => ?_⟩
  obtain ⟨x, xs, hv, hx, hl'⟩ := hl
  simp only [R] at hx
  obtain ⟨a, cap, rfl, _, _⟩ := hx
  by_cases ha : a.isNone = true
  · exact h0.2 g w vs hi (by rw [hv]; exact ⟨_, _, rfl, by simp only [R]; exact ⟨a, cap, rfl, ha⟩, hl'⟩)
  · exact h1.2 g w vs hi (by rw [hv]; exact ⟨_, _, rfl, by simp only [R]; exact ⟨a, cap, rfl, by cases a <;> simp_all⟩, hl'⟩)

/-- Told without blocks, it holds behind any that nobody names. -/
theorem FnRef.behind {f : FuncId} {args : List AVal} {sz m : Nat} {rows : List (List AVal)} (h : FnRef P f args [] (.ret (.sl 0 0 sz 0 m)) [.row 0 sz rows]) (ha : AVal.pureL args = true) (hp : rows.all AVal.pureL = true) (n : Nat) :
    FnRef P f args (List.replicate n .dead) (.ret (.sl n 0 sz 0 m)) (List.replicate n .dead ++ [.row 0 sz rows]) := by
  refine ⟨h.1, fun g w vs hi hl => ?_⟩
  let g0 : Gh := ⟨fun _ _ => none, g.st⟩
  have hst0 : ∀ k o, g.st k o → g0.st k o := fun _ _ h => h
  have hi0 : Inv g0 [] w := ⟨fun b x hb => by simp at hb, fun b b' x x' v v' k z z' h1 => by simp at h1, fun _ _ _ => rfl, fun b x v ver' hb => by simp at hb, fun b x v k z o hb => by simp at hb, hi.stold, fun i cs hc => ⟨(hi.globs i cs hc).1, RC_pure hst0 _ _ _ (hi.globs i cs hc).1 (hi.globs i cs hc).2⟩⟩
  refine (h.2 g0 w vs hi0 (RL_pure hst0 _ _ ha hl)).mono fun e w' ⟨g1, hi1, hla, x, he, hx⟩ => ?_
  have low : ∀ b x, (List.replicate n ABlk.dead ++ [ABlk.row 0 sz rows])[b]? = some x → (b < n ∧ x = .dead) ∨ (b = n ∧ x = .row 0 sz rows) := fun b x hb => by
    by_cases hbn : b < n
    · rw [List.getElem?_append_left (by simpa using hbn), List.getElem?_replicate, if_pos hbn] at hb
      exact .inl ⟨hbn, (Option.some.inj hb).symm⟩
    · rw [List.getElem?_append_right (by simp; omega)] at hb
      simp only [List.length_replicate] at hb
      obtain ⟨hlt, he⟩ := List.getElem?_eq_some_iff.1 hb
      simp only [List.length_singleton] at hlt
      have : b = n := by omega
      subst this
      simp at he
      exact .inr ⟨rfl, he.symm⟩
  let g' : Gh := ⟨fun b v => if b < n then g.rho b v else g1.rho (b - n) v, g1.st⟩
  have hst1 : ∀ k o, g1.st k o → g'.st k o := fun _ _ h => h
  have gn : ∀ v, g'.rho n v = g1.rho 0 v := fun v => by simp [g']
  have gl : ∀ b v, b < n → g'.rho b v = g.rho b v := fun b v hb => by simp [g', hb]
  have gh : ∀ b v, ¬ b < n → g'.rho b v = g1.rho (b - n) v := fun b v hb => by simp [g', hb]
  refine ⟨g', ⟨?_, ?_, ?_, ?_, ?_, hi1.stold, fun i cs hc => ⟨(hi1.globs i cs hc).1, RC_pure hst1 _ _ _ (hi1.globs i cs hc).1 (hi1.globs i cs hc).2⟩⟩, ?_, x, he, ?_⟩
  · intro b y hb
    rcases low b y hb with ⟨_, rfl⟩ | ⟨rfl, rfl⟩
    · trivial
    · rcases hi1.good 0 _ rfl with ⟨k, c, e, h1, h2, h3, h4, h5⟩ | ⟨h1, h2, h3⟩
      · exact .inl ⟨k, c, e, by rw [gn]; exact h1, h2, RowsAt_pure hst1 rows 0 hp h3, h4, h5⟩
      · exact .inr ⟨h1, by rw [gn]; exact h2, h3⟩
  · intro b b' y y' v v' k z z' h1 h2 l1 l2 _ _
    rcases low b y h1 with ⟨_, rfl⟩ | ⟨rfl, rfl⟩
    · cases l1
    · rcases low b' y' h2 with ⟨_, rfl⟩ | ⟨rfl, rfl⟩
      · cases l2
      · rfl
  · intro b ver hc
    have hbn : ¬ b < n := by
      intro hb
      rcases hc with hc | hc
      · rcases low b _ hc with ⟨_, h⟩ | ⟨_, h⟩ <;> cases h
      · simp at hc; omega
    rw [gh b ver hbn]
    refine hi1.fresh (b - n) ver (.inr ?_)
    rcases hc with hc | hc
    · rcases low b _ hc with ⟨_, h⟩ | ⟨_, h⟩ <;> cases h
    · simp only [List.length_append, List.length_replicate, List.length_singleton] at hc
      simp only [List.length_singleton]; omega
  · intro b y v ver' hb hv hlt
    rcases low b y hb with ⟨_, rfl⟩ | ⟨rfl, rfl⟩
    · cases hv
    · rw [gn]; exact hi1.next 0 _ v ver' rfl hv hlt
  · intro b y v k z o hb hv hk
    rcases low b y hb with ⟨_, rfl⟩ | ⟨rfl, rfl⟩
    · cases hv
    · rw [gn] at hk; exact hi1.free 0 _ v k z o rfl hv hk
  · have noOwn : ∀ k, ¬ Owned g0 [] k := fun k ⟨b, y, v, z, hb, _⟩ => by simp at hb
    refine ⟨⟨fun b ver y hb => ?_, fun k o hk => hla.ext.st k o hk, fun k o hk => hla.ext.cell k o hk, fun k y hk => hla.ext.shape k y hk⟩, hla.size, fun k hk _ => hla.keep k hk (noOwn k), fun k hk ho => ?_, by simp, hla.os, hla.tape, hla.output, fun k o hk h => (hla.stk k o hk h).imp_right fun h => absurd h.1 (noOwn k), fun b hb => ?_, fun b ver k z hk => ?_⟩
    · have hbn : b < n := Decidable.byContradiction fun hc => by rw [hi.fresh b ver (.inr (by simp; omega))] at hb; cases hb
      rw [gl b ver hbn]; exact hb
    · obtain ⟨b, y, v, z, hb, hv, hz⟩ := ho
      rcases low b y hb with ⟨_, rfl⟩ | ⟨rfl, rfl⟩
      · cases hv
      · rw [gn] at hz
        exact absurd (hla.own k hk ⟨0, _, v, z, rfl, hv, hz⟩) (noOwn k)
    · have hbn : b < n := by
        have := (List.getElem?_eq_some_iff.1 hb).1
        simpa using this
      exact ⟨by rw [List.getElem?_append_left (by simpa using hbn), List.getElem?_replicate, if_pos hbn], fun ver => gl b ver hbn⟩
    · by_cases hbn : b < n
      · rw [gl b ver hbn] at hk; exact .inl ⟨ver, z, hk⟩
      · rw [gh b ver hbn] at hk
        rcases hla.newk (b - n) ver k z hk with ⟨v', z', h'⟩ | h'
        · cases h'
        · exact .inr h'
  · simp only [R] at hx ⊢
    rcases hx with hx | ⟨k, cap, e, s, h1, h2⟩
    · exact .inl hx
    · exact .inr ⟨k, cap, e, s, by rw [gn]; exact h1, h2⟩

/-- The contract of a function that hands back a row of its own, behind n blocks. -/
def CtrR.fresh (P : Program) [Globs] (f : FuncId) (X : Type) (args : X → List AVal) (α : Type) (sz : Nat) (enc : α → List AVal) (he : ∀ a, AVal.pureL (enc a) = true) (ha : ∀ x, AVal.pureL (args x) = true) (S : Nat → X → Option (List α))
    (ok : ∀ n x r, S n x = some r → FnRef P f (args x) [] (.ret (.sl 0 0 sz 0 r.length)) [.row 0 sz (r.map enc)]) (n : Nat) : CtrR P where
  f := f
  X := X
  args := args
  heap := fun _ => List.replicate n .dead
  sh := .one (List α)
  out := fun (r : List α) => .ret (.sl n 0 sz 0 r.length)
  outH := fun _ (r : List α) => List.replicate n .dead ++ [.row 0 sz (r.map enc)]
  S := S
  ok := fun m x (r : List α) h => (ok m x r h).behind (ha x) (by
    simp only [List.all_map, List.all_eq_true]
    intro y _
    exact he y) n

/-- A function of a list, handed a row of our own: kept by its content, and nobody's behind the call. -/
theorem FnVal.dead {f : FuncId} {sz : Nat} {rows : List (List AVal)} {rest : List AVal} {r : ARes} (h : FnVal P f (.lst rows :: rest) r) (hp : rows.all AVal.pureL = true) (hrest : AVal.pureL rest = true) (hr : r.pureR = true) :
    FnRef P f (.sl 0 0 sz 0 rows.length :: rest) [.row 0 sz rows] r [.dead] := by
  refine ⟨h.1, fun g w vs hi hl => ?_⟩
  have h2 : ([ABlk.row 0 sz rows] : List ABlk)[0]? = some (.row 0 sz rows) := rfl
  obtain ⟨i1, i2, i3⟩ := frz1 hi hi (Later.refl g _ w) h2
  have i2 : Later g [.row 0 sz rows] w { rho := g.rho, st := fun k o => g.st k o ∨ ∃ z, g.rho 0 0 = some (k, z) } [.dead] w := i2
  have hB := i1.bare
  have hst0 : ∀ k o, g.st k o → g.st k o ∨ ∃ z, g.rho 0 0 = some (k, z) := fun _ _ h => .inl h
  have hl0 : RL { rho := fun _ _ => none, st := fun k o => g.st k o ∨ ∃ z, g.rho 0 0 = some (k, z) } w (.lst rows :: rest) vs.toList := by
    simp only [RL] at hl ⊢
    obtain ⟨x, xs, e, hx, hxs⟩ := hl
    refine ⟨x, xs, e, ?_, RL_pure hst0 _ _ hrest hxs⟩
    suffices hxF : R { rho := g.rho, st := fun k o => g.st k o ∨ ∃ z, g.rho 0 0 = some (k, z) } w (.lst rows) x from R_pure (g := { rho := g.rho, st := fun k o => g.st k o ∨ ∃ z, g.rho 0 0 = some (k, z) }) (g2 := { rho := fun _ _ => none, st := fun k o => g.st k o ∨ ∃ z, g.rho 0 0 = some (k, z) }) (fun _ _ h => h) (.lst rows) x rfl hxF
    simp only [R] at hx ⊢
    rcases hx with ⟨hn, rfl⟩ | ⟨k, cap, e', sz2, hk, rfl, hsh, hcs, hm, hmax⟩
    · exact ⟨none, 0, by rw [hn], by omega, .inl hn⟩
    · obtain ⟨k', c, e, r1, r2, r3, r4, r5, r6⟩ := hi.row 0 0 _ _ h2 hk
      rw [hk] at r1; simp at r1; subst r1
      refine ⟨_, cap, rfl, by omega, .inr ⟨k, 0 * sz, sz, rfl, RR_of fun i r hr => ?_⟩⟩
      obtain ⟨t1, t2⟩ := RowsAt_get _ _ _ _ r3 hr
      refine ⟨t1, List.all_eq_true.1 hp r (List.mem_of_getElem? hr), RC_of fun j y hy => ?_⟩
      obtain ⟨u, u1, u2, u3⟩ := CellsAt_get _ _ j y t2 hy
      refine ⟨.inr ⟨_, hk⟩, u, ?_, u2, R_mono i3 _ _ u3⟩
      rw [cell?_cells r2]
      simpa [Nat.add_assoc] using u1
  refine (h.2 _ w vs hB hl0).mono fun e w' ⟨g1, hi1, hla, he⟩ => ?_
  have noOwn : ∀ (g : Gh) k, ¬ Owned g [] k := fun g k ⟨b, y, v, z, hb, _⟩ => by simp at hb
  have one : ∀ (b : Nat) (x : ABlk), ([ABlk.dead] : List ABlk)[b]? = some x → x = .dead := fun b x hb => by
    cases b with
    | zero => exact (Option.some.inj hb).symm
    | succ b => simp at hb
  have noOwnD : ∀ (g : Gh) k, ¬ Owned g [.dead] k := fun g k ⟨b, y, v, z, hb, hv, _⟩ => by
    rw [one b y hb] at hv; cases hv
  refine ⟨{ rho := g.rho, st := g1.st }, ⟨fun b x hb => ?_, fun b b' x x' v v' k z z' h1 h2 l1 => ?_, fun b ver hc => ?_, fun b x v ver' hb hv => ?_, fun b x v k z o hb hv => ?_, hi1.stold, fun i cs hc => ⟨(hi1.globs i cs hc).1, RC_pure (g := g1) (g2 := { rho := g.rho, st := g1.st }) (fun _ _ h => h) _ _ _ (hi1.globs i cs hc).1 (hi1.globs i cs hc).2⟩⟩, i2.trans ⟨⟨fun _ _ _ h => h, hla.ext.st, hla.ext.cell, hla.ext.shape⟩, hla.size, fun k hk _ => hla.keep k hk (noOwn _ k), fun k _ ho => absurd ho (noOwnD _ k), Nat.le_refl _, hla.os, hla.tape, hla.output, fun k o hk hs => (hla.stk k o hk hs).imp_right fun h => absurd h.1 (noOwn _ k), fun b hb => ⟨hb, fun _ => rfl⟩, fun b ver k z hk => .inl ⟨ver, z, hk⟩⟩, ?_⟩
  · rw [one b x hb]; trivial
  · rw [one b x h1] at l1; cases l1
  · refine hi.fresh b ver (.inr ?_)
    rcases hc with hc | hc
    · have := one b _ hc; cases this
    · simpa using hc
  · rw [one b x hb] at hv; cases hv
  · rw [one b x hb] at hv; cases hv
  · cases r with
    | ret v =>
      obtain ⟨x, h1, h3⟩ := he
      exact ⟨x, h1, R_pure (g := g1) (g2 := { rho := g.rho, st := g1.st }) (fun _ _ h => h) v x hr h3⟩
    | pan v =>
      obtain ⟨x, h1, h3⟩ := he
      exact ⟨x, h1, R_flat v x hr h3⟩

/-- The contract of a function of a list, for a row of our own that is handed over. -/
def Ctr1.dead (c : Ctr P) (X τ : Type) (sz : Nat) (enc : τ → List AVal) (rest : X → List AVal) (pack : List τ → X → c.X)
    (hargs : ∀ l x, c.args (pack l x) = .lst (l.map enc) :: rest x) (he : ∀ a, AVal.pureL (enc a) = true) (hrest : ∀ x, AVal.pureL (rest x) = true) (hr : ∀ r, (c.out r).pureR = true) (ha : ∀ x n, AVal.only0L (.sl 0 0 sz 0 n :: rest x) = true) : Ctr1 P where
  f := c.f
  X := List τ × Nat × X
  args := fun x => .sl 0 0 sz 0 x.2.1 :: rest x.2.2
  blk := fun x => .row 0 sz (x.1.map enc)
  sh := c.sh
  out := c.out
  outB := fun _ _ => .dead
  S := fun n x => if x.2.1 = x.1.length then c.S n (pack x.1 x.2.2) else none
  a0 := fun x => ha x.2.2 x.2.1
  b0 := fun x => by simp [ABlk.row0, he]
  b1 := fun _ _ => .inr rfl
  r0 := fun r => ARes.okR_of (hr r)
  ok := fun n x r h => by
    split at h
    · rename_i hn
      have h1 := c.ok n _ r h
      rw [hargs] at h1
      have h2 := h1.dead (sz := sz) (by
        simp only [List.all_map, List.all_eq_true]
        intro y _
        exact he y) (hrest x.2.2) (hr r)
      rw [hn]
      simpa using h2
    · cases h

/-- A function by content, where it is called with memory of which nothing can be come to. -/
theorem FnVal.apart {f : FuncId} {args : List AVal} {r : ARes} (h : FnVal P f args r) (ha : AVal.pureL args = true) (hr : r.pureR = true) (n : Nat) :
    FnRef P f args (List.replicate n .dead) r (List.replicate n .dead) := by
  refine ⟨h.1, fun g w vs hi hl => ?_⟩
  have hl0 : RL { rho := fun _ _ => none, st := g.st } w args vs.toList := RL_pure (g := g) (g2 := { rho := fun _ _ => none, st := g.st }) (fun _ _ h => h) _ _ ha hl
  refine (h.2 _ w vs hi.bare hl0).mono fun e w' ⟨g1, hi1, hla, he⟩ => ?_
  have noOwn : ∀ (g : Gh) k, ¬ Owned g [] k := fun g k ⟨b, y, v, z, hb, _⟩ => by simp at hb
  have one : ∀ (b : Nat) (x : ABlk), (List.replicate n ABlk.dead)[b]? = some x → x = .dead := fun b x hb => by
    rw [List.getElem?_replicate] at hb
    split at hb
    · exact (Option.some.inj hb).symm
    · cases hb
  have noOwnD : ∀ (g : Gh) k, ¬ Owned g (List.replicate n .dead) k := fun g k ⟨b, y, v, z, hb, hv, _⟩ => by
    rw [one b y hb] at hv; cases hv
  refine ⟨{ rho := g.rho, st := g1.st }, ⟨fun b x hb => ?_, fun b b' x x' v v' k z z' h1 h2 l1 => ?_, fun b ver hc => hi.fresh b ver hc, fun b x v ver' hb hv => ?_, fun b x v k z o hb hv => ?_, hi1.stold, fun i cs hc => ⟨(hi1.globs i cs hc).1, RC_pure (g := g1) (g2 := { rho := g.rho, st := g1.st }) (fun _ _ h => h) _ _ _ (hi1.globs i cs hc).1 (hi1.globs i cs hc).2⟩⟩, ⟨⟨fun _ _ _ h => h, hla.ext.st, hla.ext.cell, hla.ext.shape⟩, hla.size, fun k hk _ => hla.keep k hk (noOwn _ k), fun k _ ho => absurd ho (noOwnD _ k), Nat.le_refl _, hla.os, hla.tape, hla.output, fun k o hk hs => (hla.stk k o hk hs).imp_right fun h => absurd h.1 (noOwn _ k), fun b hb => ⟨hb, fun _ => rfl⟩, fun b ver k z hk => .inl ⟨ver, z, hk⟩⟩, ?_⟩
  · rw [one b x hb]; trivial
  · rw [one b x h1] at l1; cases l1
  · rw [one b x hb] at hv; cases hv
  · rw [one b x hb] at hv; cases hv
  · cases r with
    | ret v =>
      obtain ⟨x, h1, h3⟩ := he
      exact ⟨x, h1, R_pure (g := g1) (g2 := { rho := g.rho, st := g1.st }) (fun _ _ h => h) v x hr h3⟩
    | pan v =>
      obtain ⟨x, h1, h3⟩ := he
      exact ⟨x, h1, R_flat v x hr h3⟩

/-- The contract of a function by content, for such a call. -/
def CtrR.apart (c : Ctr P) (ha : ∀ x, AVal.pureL (c.args x) = true) (hr : ∀ r, (c.out r).pureR = true) (n : Nat) : CtrR P where
  f := c.f
  X := c.X
  args := c.args
  heap := fun _ => List.replicate n .dead
  sh := c.sh
  out := c.out
  outH := fun _ _ => List.replicate n .dead
  S := c.S
  ok := fun m x r h => (c.ok m x r h).apart (ha x) (hr r) n

set_option linter.unusedSectionVars false
/-! ### Rows with nil slices in their cells -/

/-- A nil slice, where the other has a list without elements. -/
def Wk1 (a b : AVal) : Prop := a = b ∨ (a = .sc (.slice none 0 0) ∧ b = .lst [])
def WkC : List AVal → List AVal → Prop
  | [], [] => True
  | a :: as, b :: bs => Wk1 a b ∧ WkC as bs
  | _, _ => False
def WkR : List (List AVal) → List (List AVal) → Prop
  | [], [] => True
  | a :: as, b :: bs => WkC a b ∧ WkR as bs
  | _, _ => False

theorem WkC.refl : ∀ l : List AVal, WkC l l
  | [] => trivial
  | _ :: as => ⟨.inl rfl, WkC.refl as⟩
theorem WkC.length : ∀ {l l' : List AVal}, WkC l l' → l.length = l'.length
  | [], [], _ => rfl
  | _ :: _, _ :: _, h => by simp [WkC.length h.2]
theorem WkC.pure : ∀ {l l' : List AVal}, WkC l l' → AVal.pureL l = true → AVal.pureL l' = true
  | [], [], _, h => h
  | a :: as, b :: bs, h, hp => by
    simp only [AVal.pureL, Bool.and_eq_true] at hp ⊢
    refine ⟨?_, WkC.pure h.2 hp.2⟩
    rcases h.1 with rfl | ⟨_, rfl⟩
    · exact hp.1
    · rfl
theorem WkC.rc {g : Gh} {w : World} {k : Nat} : ∀ {l l' : List AVal} {o : Nat}, WkC l l' → RC g w l k o → RC g w l' k o
  | [], [], _, _, _ => by simp [RC]
  | a :: as, b :: bs, o, h, hr => by
    simp only [RC] at hr ⊢
    refine ⟨⟨hr.1.1, ?_⟩, WkC.rc h.2 hr.2⟩
    obtain ⟨y, h1, h2, h3⟩ := hr.1.2
    refine ⟨y, h1, h2, ?_⟩
    rcases h.1 with rfl | ⟨rfl, rfl⟩
    · exact h3
    · simp only [R] at h3 ⊢
      exact ⟨none, 0, by rw [h3]; rfl, by simp, .inl rfl⟩
theorem WkR.length : ∀ {l l' : List (List AVal)}, WkR l l' → l.length = l'.length
  | [], [], _ => rfl
  | _ :: _, _ :: _, h => by simp [WkR.length h.2]
theorem WkR.rr {g : Gh} {w : World} {k sz : Nat} : ∀ {l l' : List (List AVal)} {o : Nat}, WkR l l' → RR g w l k o sz → RR g w l' k o sz
  | [], [], _, _, _ => by simp [RR]
  | a :: as, b :: bs, o, h, hr => by
    simp only [RR] at hr ⊢
    exact ⟨⟨by rw [← h.1.length]; exact hr.1.1, h.1.pure hr.1.2.1, h.1.rc hr.1.2.2⟩, WkR.rr h.2 hr.2⟩
theorem WkR.append : ∀ {l l' m m' : List (List AVal)}, WkR l l' → WkR m m' → WkR (l ++ m) (l' ++ m')
  | [], [], _, _, _, h => h
  | _ :: _, _ :: _, _, _, h, h' => ⟨h.1, WkR.append h.2 h'⟩
theorem WkR.map {α : Type} {e e' : α → List AVal} (h : ∀ a, WkC (e a) (e' a)) : ∀ l : List α, WkR (l.map e) (l.map e')
  | [] => trivial
  | a :: l => ⟨h a, WkR.map h l⟩

theorem FnVal.wkRows {f : FuncId} {rows rows' : List (List AVal)} {rest : List AVal} {r : ARes} (h : FnVal P f (.lst rows' :: rest) r) (hw : WkR rows rows') : FnVal P f (.lst rows :: rest) r := by
  refine ⟨h.1, fun g w vs hi hl => h.2 g w vs hi ?_⟩
  simp only [RL] at hl ⊢
  obtain ⟨x, xs, e, hx, hxs⟩ := hl
  refine ⟨x, xs, e, ?_, hxs⟩
  simp only [R] at hx ⊢
  obtain ⟨a, cap, h1, h2, h3⟩ := hx
  refine ⟨a, cap, by rw [← hw.length]; exact h1, by rw [← hw.length]; exact h2, ?_⟩
  rcases h3 with h3 | ⟨k, off, sz, h4, h5⟩
  · exact .inl (by rw [← hw.length]; exact h3)
  · exact .inr ⟨k, off, sz, h4, hw.rr h5⟩

/-- The same as Ctr1.dead, for a row that ends in elements with nil slices in their cells. -/
def Ctr1.dead2 (c : Ctr P) (X τ : Type) (sz : Nat) (enc encN : τ → List AVal) (rest : X → List AVal) (pack : List τ → X → c.X)
    (hargs : ∀ l x, c.args (pack l x) = .lst (l.map enc) :: rest x) (he : ∀ a, AVal.pureL (enc a) = true) (heN : ∀ a, AVal.pureL (encN a) = true) (hw : ∀ a, WkC (encN a) (enc a))
    (hrest : ∀ x, AVal.pureL (rest x) = true) (hr : ∀ r, (c.out r).pureR = true) (ha : ∀ x n, AVal.only0L (.sl 0 0 sz 0 n :: rest x) = true) : Ctr1 P where
  f := c.f
  X := List τ × List τ × Nat × X
  args := fun x => .sl 0 0 sz 0 x.2.2.1 :: rest x.2.2.2
  blk := fun x => .row 0 sz (x.1.map enc ++ x.2.1.map encN)
  sh := c.sh
  out := c.out
  outB := fun _ _ => .dead
  S := fun n x => if x.2.2.1 = x.1.length + x.2.1.length then c.S n (pack (x.1 ++ x.2.1) x.2.2.2) else none
  a0 := fun x => ha x.2.2.2 x.2.2.1
  b0 := fun x => by simp [ABlk.row0, he, heN]
  b1 := fun _ _ => .inr rfl
  r0 := fun r => ARes.okR_of (hr r)
  ok := fun n x r h => by
    split at h
    · rename_i hn
      have h1 := c.ok n _ r h
      rw [hargs, List.map_append] at h1
      have h1 := h1.wkRows (rows := x.1.map enc ++ x.2.1.map encN) (WkR.append (WkR.map (fun a => WkC.refl _) _) (WkR.map hw _))
      have h2 := h1.dead (sz := sz) (by
        simp only [List.all_append, List.all_map, Bool.and_eq_true, List.all_eq_true]
        exact ⟨fun y _ => he y, fun y _ => heN y⟩) (hrest x.2.2.2) (hr r)
      rw [hn]
      simpa using h2
    · cases h
end Go.AM
