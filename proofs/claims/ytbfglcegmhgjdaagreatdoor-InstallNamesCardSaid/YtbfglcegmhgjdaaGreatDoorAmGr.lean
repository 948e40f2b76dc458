/- Guides where loops over maps come in any order: what may come out. No program. -/
import Derived.Test.YtbfglcegmhgjdaaGreatDoorAmGw
import Derived.Maps.RangeRun
namespace Go.AM
open Go.ChangeMaps (setBlock)

/-- Round by round, whatever comes. -/
def iterP {σ τ : Type} (f : σ → ((σ ⊕ τ) → Prop) → Prop) : Nat → σ → (τ → Prop) → Prop
  | 0, _, _ => False
  | n + 1, a, q => f a fun
    | .inl a' => iterP f n a' q
    | .inr t => q t

section
variable {P : Program} [Globs]
/-- Whatever order maps are gone through in, the guide computes something, and it is so. -/
def G.can (n : Nat) : {ρ : Type} → G P ρ → (ρ → Prop) → Prop
  | _, .stop, _ => False
  | _, .done ts r, p => tsOk ts = true ∧ p r
  | _, .fail, _ => False
  | _, .skip _ g, p => g.can n p
  | _, .br _ c t f, p => if c then t.can n p else f.can n p
  | _, .eqi _ _ x c t f, p => if x = c then t.can n p else f.can n p
  | _, .sp c t f, p => if c then t.can n p else f.can n p
  | _, .op t k, p => ∃ x, t.run = some x ∧ (k x).can n p
  | _, .call c x k, p => ∃ r, c.S n x = some r ∧ (k r).can n p
  | _, .callS _ c x k, p => ∃ r, c.S n x = some r ∧ (k r).can n p
  | _, .callR c x k, p => ∃ r, c.S n x = some r ∧ (k r).can n p
  | _, .call1 c _ _ _ x k, p => ∃ r, c.S n x = some r ∧ (k r).can n p
  | _, .tidy l g, p => tsOk l = true ∧ g.can n p
  | _, .loop _ hd _ _ a0 body k, p => tsOk hd = true ∧ iterP (fun a q => (body a).can n q) n a0 fun t => (k t).can n p
  | _, .loopS _ _ hd _ _ a0 body k, p => tsOk hd = true ∧ iterP (fun a q => (body a).can n q) n a0 fun t => (k t).can n p
  | _, .unroll _ g, p => g.can n p
  | _, .shutG _ _ g, p => g.can n p
  | _, .join _ _ g k, p => g.can n fun t => (k t).can n p
  | _, .pick z seen k, p => ((∀ i, i < z.n → i ∈ seen) → (k none).can n p) ∧ ∀ i, i < z.n → i ∉ seen → (k (some i)).can n p
  | _, .grow z k, p => z.ok = true ∧ (k true).can n p ∧ (k false).can n p
  | _, .inl _ g, p => g.can n p

theorem G.less_can {ρ : Type} (n m : Nat) (g : G P ρ) (p : ρ → Prop) : (G.less m g).can n p = g.can n p := by cases m <;> simp [G.less, G.can]
end

section
set_option linter.unusedSectionVars false
variable [Globs] {P : Program} {cfg : Cfg} {X : Env P}

/-- A call with memory ends in one of these ways. -/
def FnRel (P : Program) [Globs] (f : FuncId) (args : List AVal) (H : List ABlk) (Φ : ARes → List ABlk → Prop) : Prop :=
  (∃ fn c, P.funcs[f]? = some fn ∧ fn.body = some c ∧ fn.name ≠ "runtime.NumGoroutine") ∧
  ∀ g w (vs : Array Value), Inv g H w → RL g w args vs.toList → Calls P f vs w fun e w' => ∃ a H1, Φ a H1 ∧ Comes1 g H w a H1 e w'

/-- A round ends in one of these ways. -/
def RndRel (P : Program) [Globs] (b : Nat) (args : List AVal) (H : List ABlk) (Φ : ARes → List ABlk → Prop) : Prop :=
  ∀ g w (vs : Array Value) k sz, Inv g H w → RL g w args vs.toList → g.rho b 0 = some (k, sz) →
    ∃ rec, w.heap[k]? = some (.loop rec) ∧ vs.size = rec.params.size ∧ RoundIn Fence.wide 0 P k rec.fn (roundTmps rec vs) rec.assign rec.body w fun e w' => ∃ a H1, Φ a H1 ∧ Comes1 g H w a H1 e w'

structure NestRel (P : Program) [Globs] (N : Nest P) : Prop where
  fn : ∀ {ρ : Type} {n : Nat} {f : FuncId} {args : List AVal} {H : List ABlk} {g : G P ρ} {k : G P ρ → ARes → List ABlk → Prop} {p : ρ → Prop}, N.fn f args H g k → g.can n p →
    FnRel P f args H fun a H1 => ∃ g', k g' a H1 ∧ g'.can n p
  rnd : ∀ {ρ : Type} {n : Nat} {b : Nat} {args : List AVal} {H : List ABlk} {g : G P ρ} {k : G P ρ → ARes → List ABlk → Prop} {p : ρ → Prop}, N.rnd b args H g k → g.can n p →
    RndRel P b args H fun a H1 => ∃ g', k g' a H1 ∧ g'.can n p
  lp : ∀ {σ : Type} {sh : Sh} {n : Nat} {ro : Option Nat} {H0 : List ABlk} {b : Code} {g : G P (σ ⊕ sh.El)} {E : σ → St} {s : St} {Y : sh.El → AOut × St} {p : σ ⊕ sh.El → Prop}, N.lp ro H0 b g E s Y → g.can n p →
    ∀ fro g0 w0, Inv g0 H0 w0 → RoOk g0 ro fro → Does P fro g0 H0 w0 b s fun o s' => ∃ (g' : G P (σ ⊕ sh.El)), roundC H0 E Y g' o s' ∧ g'.can n p

variable {ops : Array Oper} {n0 nid : Nat} {o : Oper} {s : St}

theorem tick_can {n : Nat} {ρ : Type} {p : ρ → Prop} : ∀ {g : G P ρ} {s : St} {k : G P ρ → St → Prop}, tickC g s k → g.can n p → ∃ g', k g' s ∧ g'.can n p
  | .br d c t f, s, k, h, hr => by
    simp only [tickC, setF_eq] at h
    obtain ⟨hd, h1, h2⟩ := h
    have hset : s.A.set d (.sc (.bool c)) = s.A := by
      apply List.ext_getElem?
      intro j
      by_cases hj : d = j
      · grind
      · rw [List.getElem?_set_ne hj]
    cases c with
    | true =>
      rw [hset] at h1
      simp only [G.can, if_true] at hr
      exact tick_can h1 hr
    | false =>
      rw [hset] at h2
      simp only [G.can, Bool.false_eq_true, if_false] at hr
      exact tick_can h2 hr
  | .eqi d ik x c t f, s, k, h, hr => by
    simp only [tickC, setF_eq] at h
    obtain ⟨hd, h1, h2⟩ := h
    by_cases hx : x = c
    · subst hx
      have hset : s.A.set d (.sc (.int ik x)) = s.A := by
        apply List.ext_getElem?
        intro j
        by_cases hj : d = j
        · grind
        · rw [List.getElem?_set_ne hj]
      rw [hset] at h1
      simp only [G.can, if_true] at hr
      exact tick_can h1 hr
    · simp only [G.can, hx, if_false] at hr
      exact tick_can h2 hr
  | .sp c t f, s, k, h, hr => by
    simp only [tickC] at h
    cases c with
    | true =>
      simp only [G.can, if_true] at hr
      exact tick_can h.1 hr
    | false =>
      simp only [G.can, Bool.false_eq_true, if_false] at hr
      exact tick_can h.2 hr
  | .fail, s, k, h, hr => by simp [G.can] at hr
  | .stop, s, k, h, hr => by simp [G.can] at hr
  | .done .., s, k, h, hr => ⟨_, h, hr⟩
  | .skip .., s, k, h, hr => ⟨_, h, hr⟩
  | .op .., s, k, h, hr => ⟨_, h, hr⟩
  | .call .., s, k, h, hr => ⟨_, h, hr⟩
  | .callR .., s, k, h, hr => ⟨_, h, hr⟩
  | .callS .., s, k, h, hr => ⟨_, h, hr⟩
  | .call1 .., s, k, h, hr => ⟨_, h, hr⟩
  | .tidy .., s, k, h, hr => ⟨_, h, hr⟩
  | .loop .., s, k, h, hr => ⟨_, h, hr⟩
  | .loopS .., s, k, h, hr => ⟨_, h, hr⟩
  | .unroll .., s, k, h, hr => ⟨_, h, hr⟩
  | .shutG .., s, k, h, hr => ⟨_, h, hr⟩
  | .join .., s, k, h, hr => ⟨_, h, hr⟩
  | .pick .., s, k, h, hr => ⟨_, h, hr⟩
  | .grow .., s, k, h, hr => ⟨_, h, hr⟩
  | .inl .., s, k, h, hr => ⟨_, h, hr⟩

theorem preC_can {H0 : List ABlk} {n : Nat} {ρ : Type} {p : ρ → Prop} {g : G P ρ} {s : St} {k : G P ρ → St → Prop} (h : preC H0 g s k) (hr : g.can n p) : ∃ s' g', Weak H0 s s' ∧ k g' s' ∧ g'.can n p := by
  unfold preC at h
  split at h
  · grind [G.can, tidyC_inv]
  · exact ⟨s, g, .refl _ _, h, hr⟩

/-- A call that is walked through in its place. -/
theorem inl_fn_rel {pr : List Nat} {f : FuncId} {args : List AVal} {ids rs : List Nat} {Φ : ARes → List ABlk → Prop} (hw : wantedA ops s.A o = some true) (hx : preX P cfg pr (evalA s.A) o.op s.H = some (.inl f, args, ids, rs)) (hfn : FnRel P f args (mask ids s.H) Φ)
    {ro : Option Nat} {gg : Gh} {a : Act} {w : World} (hs : Sim gg s a w) {i : Nat} (hi : ops[i]? = some o) (hcalm : Calm ro o) {K : Act → World → Prop} {Q : Exit → Act → World → Prop}
    (hK : ∀ a1 H1, Φ a1 H1 → (∃ e, mergeFin s.H ids (some (a1, H1)) = some (.ok e) ∧ StepPost Q K gg s a w (.ok { s with A := putA s.A o.dst e.val, H := e.apply s.H })) ∨
      (∃ v, mergeFin s.H ids (some (a1, H1)) = some (.pan v ids) ∧ StepPost Q K gg s a w (.pan v { s with H := ids.foldl (fun H i => H.set i .dead) s.H }))) : wpOpIn (Fr ro) 0 P ops Q i K a w := by
  unfold wpOpIn
  simp only [hi]
  rw [wanted_sound hs hw]
  simp only [if_true]
  refine ⟨fun _ _ => trivial, ?_⟩
  rw [hcalm.semAt]
  unfold preX at hx
  split at hx
  · rename_i _ fo as tys hop
    split at hx
    · rename_i n p q hf
      split at hx
      · rename_i fn hfx
        split at hx
        · split at hx
          · simp only [Option.some.injEq, Prod.mk.injEq, Sum.inl.injEq] at hx
            obtain ⟨rfl, rfl, rfl, rfl⟩ := hx
            have hev := hs.eval fo
            rw [hf] at hev
            simp only [R] at hev
            obtain ⟨va, vb, hfo, l1, l2⟩ := hev
            have hl : RL gg w (p ++ as.toList.map (evalA s.A) ++ q) ((va.toArray ++ as.map a.eval) ++ vb.toArray).toList := by
              simp only [Array.toList_append, Array.toList_map]
              exact RL_append (RL_append l1 (RL_evals hs as)) l2
            obtain ⟨⟨fn', c, k1, k2, k3⟩, hcalls⟩ := hfn
            have hcalls := hcalls gg w _ (inv_mask hs.inv _) hl
            have hex : (execOp a.eval o).run P w = .ok (.enter n ((va.toArray ++ as.map a.eval) ++ vb.toArray)) w := by
              simp [execOp, hop, resolve, hfo, Deferred.ofValue, invoke, run_callFunc k1 k2 k3]
            rw [hex]
            simp only [Oper.uponIn]
            refine ⟨depth_Fr ro, calls_Fr (hcalls.mono ?_)⟩
            rintro en w' ⟨a1, H1, hΦ, hc⟩
            rcases hK a1 H1 hΦ with ⟨e, hm, hk⟩ | ⟨v, hm, hk⟩
            · obtain ⟨r', H', he, hp⟩ := mergeFin_post hs.inv hm
              simp only [Option.some.injEq, Prod.mk.injEq] at he
              obtain ⟨rfl, rfl⟩ := he
              rcases hp with ⟨eff, he, hp⟩ | ⟨v', he, _⟩
              · cases he
                obtain ⟨x, g', rfl, hi', hr, hla⟩ := hp en w' hc
                exact hk g' _ w' ⟨hi', RL_put' (RL_mono hla.ext _ _ hs.tmps) hr o.dst, by rw [put_defers]; exact RD_mono hla.ext _ _ hs.defs⟩ hla
              · cases he
            · obtain ⟨r', H', he, hp⟩ := mergeFin_post hs.inv hm
              simp only [Option.some.injEq, Prod.mk.injEq] at he
              obtain ⟨rfl, rfl⟩ := he
              rcases hp with ⟨eff, he, hp⟩ | ⟨v', he, hfl, hp⟩
              · cases he
              · cases he
                obtain ⟨x, rfl, hi', hr, hla⟩ := hp en w' hc
                exact hk gg w' x hfl ⟨hi', RL_mono hla.ext _ _ hs.tmps, RD_mono hla.ext _ _ hs.defs⟩ hla hr
          · cases hx
        · cases hx
      · cases hx
    · grind
    · cases hx
  · cases hx

/-- A round that is walked through in its place. -/
theorem inl_rnd_rel {pr : List Nat} {b : Nat} {args : List AVal} {ids rs : List Nat} {Φ : ARes → List ABlk → Prop} (hw : wantedA ops s.A o = some true) (hx : preX P cfg pr (evalA s.A) o.op s.H = some (.inr b, args, ids, rs)) (hfn : RndRel P b args (mask ids s.H) Φ)
    {ro : Option Nat} {gg : Gh} {a : Act} {w : World} (hs : Sim gg s a w) {i : Nat} (hi : ops[i]? = some o) (hcalm : Calm ro o) {K : Act → World → Prop} {Q : Exit → Act → World → Prop}
    (hK : ∀ a1 H1, Φ a1 H1 → (∃ e, mergeFin s.H ids (some (a1, H1)) = some (.ok e) ∧ StepPost Q K gg s a w (.ok { s with A := putA s.A o.dst e.val, H := e.apply s.H })) ∨
      (∃ v, mergeFin s.H ids (some (a1, H1)) = some (.pan v ids) ∧ StepPost Q K gg s a w (.pan v { s with H := ids.foldl (fun H i => H.set i .dead) s.H }))) : wpOpIn (Fr ro) 0 P ops Q i K a w := by
  unfold wpOpIn
  simp only [hi]
  rw [wanted_sound hs hw]
  simp only [if_true]
  refine ⟨fun _ _ => trivial, ?_⟩
  rw [hcalm.semAt]
  unfold preX at hx
  split at hx
  · rename_i _ fo as tys hop
    split at hx
    · grind
    · rename_i b' hf
      split at hx
      · simp only [Option.some.injEq, Prod.mk.injEq, Sum.inr.injEq] at hx
        obtain ⟨rfl, rfl, rfl, rfl⟩ := hx
        have hev := hs.eval fo
        rw [hf] at hev
        simp only [R] at hev
        obtain ⟨k, sz, hk0, hfo⟩ := hev
        have hl : RL gg w (as.toList.map (evalA s.A)) (as.map a.eval).toList := by
          simp only [Array.toList_map]; exact RL_evals hs as
        obtain ⟨rec, r1, r2, hround⟩ := hfn gg w _ k sz (inv_mask hs.inv _) hl hk0
        rw [run_yieldOp hop hfo r1 r2]
        simp only [Oper.uponIn]
        refine ⟨depth_Fr ro, round_Fr (hround.mono ?_)⟩
        rintro en w' ⟨a1, H1, hΦ, hc⟩
        rcases hK a1 H1 hΦ with ⟨e, hm, hk⟩ | ⟨v, hm, hk⟩
        · obtain ⟨r', H', he, hp⟩ := mergeFin_post hs.inv hm
          simp only [Option.some.injEq, Prod.mk.injEq] at he
          obtain ⟨rfl, rfl⟩ := he
          rcases hp with ⟨eff, he, hp⟩ | ⟨v', he, _⟩
          · cases he
            obtain ⟨x, g', rfl, hi', hr, hla⟩ := hp en w' hc
            exact hk g' _ w' ⟨hi', RL_put' (RL_mono hla.ext _ _ hs.tmps) hr o.dst, by rw [put_defers]; exact RD_mono hla.ext _ _ hs.defs⟩ hla
          · cases he
        · obtain ⟨r', H', he, hp⟩ := mergeFin_post hs.inv hm
          simp only [Option.some.injEq, Prod.mk.injEq] at he
          obtain ⟨rfl, rfl⟩ := he
          rcases hp with ⟨eff, he, hp⟩ | ⟨v', he, hfl, hp⟩
          · cases he
          · cases he
            obtain ⟨x, rfl, hi', hr, hla⟩ := hp en w' hc
            exact hk gg w' x hfl ⟨hi', RL_mono hla.ext _ _ hs.tmps, RD_mono hla.ext _ _ hs.defs⟩ hla hr
      · cases hx
    · cases hx
  · cases hx

/-- A step of a loop over a map. -/
theorem pick_rel {z : PK} {seen : List Nat} {it : Operand} (ho : o.op = .next it false) (hw : wantedA ops s.A o = some true) (hit : evalA s.A it = .ptr z.b 0 0 0) (hb : s.H[z.b]? = some (.iter (.mp z.mb) z.n seen z.n)) (hmb : s.H[z.mb]? = some (.map z.n z.es))
    {ro : Option Nat} {gg : Gh} {a : Act} {w : World} (hs : Sim gg s a w) {i : Nat} (hi : ops[i]? = some o) (hcalm : Calm ro o) {K : Act → World → Prop} {Q : Exit → Act → World → Prop}
    (h0 : (∀ i, i < z.n → i ∈ seen) → StepPost Q K gg s a w (.ok { s with A := putA s.A o.dst (.tup [.sc (.bool false)]) }))
    (h1 : ∀ i, i < z.n → i ∉ seen → StepPost Q K gg s a w (.ok { s with A := putA s.A o.dst (.tup [.sc (.bool true), .junk, .junk]), H := s.H.set z.b (.iter (.mp z.mb) z.n (seen ++ [i]) z.n) })) : wpOpIn (Fr ro) 0 P ops Q i K a w := by
  unfold wpOpIn
  simp only [hi]
  rw [wanted_sound hs hw]
  simp only [if_true]
  refine ⟨fun _ _ => trivial, ?_⟩
  rw [hcalm.semAt]
  have hev := hs.eval it
  rw [hit] at hev
  simp only [R, Nat.zero_mul, Nat.add_zero] at hev
  obtain ⟨k, sz, hk, hx⟩ := hev
  obtain ⟨k', mo, q1, q2, q3⟩ := hs.inv.good _ _ hb
  rw [hk] at q1
  simp only [Option.some.injEq, Prod.mk.injEq] at q1
  obtain ⟨rfl, rfl⟩ := q1
  simp only [R] at q3
  obtain ⟨k2, z2, q4, q5⟩ := q3
  obtain rfl : mo = some k2 := by simpa using q5
  obtain ⟨k3, ents, r1, r2, r3⟩ := hs.inv.good _ _ hmb
  rw [q4] at r1
  simp only [Option.some.injEq, Prod.mk.injEq] at r1
  obtain ⟨rfl, rfl⟩ := r1
  obtain ⟨l1, l2⟩ := EntsAt_get r3
  have hborn : ∀ (j : Nat) e, ents.toList[j]? = some e → e.born = j := by
    intro j e he
    have hj : j < z.es.length := by rw [l1]; exact (List.getElem?_eq_some_iff.1 he).1
    obtain ⟨e', f1, -, -, f4⟩ := l2 j z.es[j] (List.getElem?_eq_getElem hj)
    rw [he] at f1; cases f1
    rw [f4, z.pf.2 j _ (List.getElem?_eq_getElem hj)]
  have hlen : ents.toList.length = z.n := by rw [← l1, z.pf.1]
  have hold : ∀ x ∈ ents.toList, x.born < z.n := by
    intro x hx
    obtain ⟨j, hj, rfl⟩ := List.getElem_of_mem hx
    rw [hborn j _ (List.getElem?_eq_getElem hj)]; omega
  have hexec : ∀ {v : Value} {w' : World}, (Instr.next (.pointer (some ⟨k, 0, none⟩)) false o.type).run P w = .ok v w' → (execOp a.eval o).run P w = .ok (.value v) w' := by
    intro v w' h
    simp [execOp, ho, hx, h, Result.andThen]
  rcases run_next_at w o.type k k2 z.n z.n seen.toArray ents z.n q2 r2 hold (Nat.le_refl _) with ⟨hsz, hrun⟩ | ⟨e, he, w1, hw1, hrun⟩
  · rw [hexec hrun]
    simp only [Oper.uponIn]
    have hall : ∀ j, j < z.n → j ∈ seen := by
      intro j hj
      have hj' : j < ents.toList.length := by omega
      have : (leftOf ents seen.toArray) = #[] := Array.eq_empty_of_size_eq_zero hsz
      unfold leftOf at this
      rw [Array.filter_eq_empty_iff] at this
      have hm := this ents.toList[j] (by simp)
      rw [hborn j _ (List.getElem?_eq_getElem hj')] at hm
      simpa using hm
    have := h0 hall gg (a.put o.dst (.tuple #[.bool false])) w ⟨hs.inv, RL_put' hs.tmps (by grind [R, RL]) o.dst, by rw [put_defers]; exact hs.defs⟩ (Later.refl _ _ _)
    exact this
  · rw [hexec hrun]
    simp only [Oper.uponIn]
    unfold leftOf at he
    simp only [Array.toList_filter, List.mem_filter, Bool.not_eq_true', List.contains_toArray] at he
    obtain ⟨hmem, hns⟩ := he
    obtain ⟨j, hj, rfl⟩ := List.getElem_of_mem hmem
    have hbj := hborn j _ (List.getElem?_eq_getElem hj)
    rw [hbj] at hns ⊢
    have hns' : j ∉ seen := by
      intro hin
      rw [List.contains_iff_mem.2 hin] at hns; cases hns
    have hheap : w1.heap = w.heap := by rcases hw1 with rfl | rfl <;> rfl
    have hkl : k < w.heap.size := (Array.getElem?_eq_some_iff.1 q2).1
    obtain ⟨i1, i2⟩ := hs.inv.inplace (w' := setBlock w1 k (.mapIter (some k2) z.n (seen.toArray.push j) z.n)) (y := .iter (.mp z.mb) z.n (seen ++ [j]) z.n) hb rfl hk rfl
      (fun j' hj' => by simp only [setBlock, hheap]; grind) (by simp [setBlock, hheap])
      (fun j' x hx' => by
        have hne : j' ≠ k := by rintro rfl; simp [World.shape?, q2] at hx'
        simp only [World.shape?, setBlock, hheap, Array.getElem?_setIfInBounds_ne (Ne.symm hne)] at hx' ⊢
        exact hx')
      (by rcases hw1 with rfl | rfl <;> rfl) (by rcases hw1 with rfl | rfl <;> exact ⟨rfl, by first | exact Nat.le_refl _ | exact Nat.le_succ _⟩) (by rcases hw1 with rfl | rfl <;> rfl)
      (fun hext => ⟨k, some k2, hk, by simp [setBlock, hheap, hkl], by grind [R]⟩)
    exact h1 j (by omega) hns' gg _ _ ⟨i1, RL_put' (RL_mono i2.ext _ _ hs.tmps) (by grind [R, RL]) o.dst, by rw [put_defers]; exact RD_mono i2.ext _ _ hs.defs⟩ i2

/-- An append that may be in its place or elsewhere. -/
theorem grow_rel {z : GK} {ST XT : TypeId} {args : Array Operand} {ats : Array TypeId} {sx x : Operand} (ho : o.op = .call { callee := .builtin .append, args := args, argTypes := ats }) (h0 : ats[0]? = some ST) (h1 : ats[1]? = some XT) (hs0 : args[0]? = some sx) (hx0 : args[1]? = some x)
    (hw : wantedA ops s.A o = some true) (hn : s.H[nid]? = some .unborn) (hsz : args.size = 2) (hT : growT P ST XT = some (z.n, z.bytes)) (es : evalA s.A sx = .sl z.b z.ver z.n 0 z.len) (hrow : s.H[z.b]? = some (.row z.ver z.n (z.l.map z.enc)))
    (hnew : (elems (evalA s.A x)).run s.H = some (z.m.map z.enc)) (hall : ∀ x, (z.enc x).length = z.n) (hpos : z.m.isEmpty = false) (hok : z.ok = true)
    {ro : Option Nat} {gg : Gh} {a : Act} {w : World} (hs : Sim gg s a w) {i : Nat} (hi : ops[i]? = some o) (hcalm : Calm ro o) {K : Act → World → Prop} {Q : Exit → Act → World → Prop}
    (k1 : StepPost Q K gg s a w (.ok { s with A := putA s.A o.dst (.sl z.b z.ver z.n 0 (z.l ++ z.m).length), H := s.H.set z.b (.row z.ver z.n ((z.l ++ z.m).map z.enc)) }))
    (k2 : StepPost Q K gg s a w (.ok { s with A := putA s.A o.dst (.sl nid 0 z.n 0 (z.l ++ z.m).length), H := s.H.set nid (.row 0 z.n ((z.l ++ z.m).map z.enc)) })) : wpOpIn (Fr ro) 0 P ops Q i K a w := by
  unfold wpOpIn
  simp only [hi]
  rw [wanted_sound hs hw]
  simp only [if_true]
  refine ⟨fun _ _ => trivial, ?_⟩
  rw [hcalm.semAt]
  unfold GK.ok at hok
  simp only [Bool.and_eq_true, decide_eq_true_eq] at hok
  obtain ⟨hlen, hroom⟩ := hok
  have hml : (z.m.map z.enc).length ≠ 0 := by
    cases hm : z.m with
    | nil => rw [hm] at hpos; cases hpos
    | cons _ _ => simp
  obtain ⟨v, w', hrun, hc⟩ := run_grow (rho := evalA s.A) (a := a) (o := o) (b := z.b) (ver := z.ver) (rows := z.l.map z.enc) hs.inv hs.eval hn ho h0 h1 hs0 hx0 hsz hT (by rw [es, hlen, List.length_map]) hrow hnew
    (List.all_eq_true.2 fun r hr => by obtain ⟨y, _, rfl⟩ := List.mem_map.1 hr; simp [hall y]) hml (by simpa using hroom)
  rw [hrun]
  simp only [Oper.uponIn]
  simp only [List.length_map, ← List.length_append, ← List.map_append] at hc
  rcases hc with ⟨r1, r2, r3⟩ | ⟨g', r1, r2, r3⟩
  · exact k1 gg _ _ ⟨r2, RL_put' (RL_mono r3.ext _ _ hs.tmps) r1 o.dst, by rw [put_defers]; exact RD_mono r3.ext _ _ hs.defs⟩ r3
  · exact k2 g' _ _ ⟨r2, RL_put' (RL_mono r3.ext _ _ hs.tmps) r1 o.dst, by rw [put_defers]; exact RD_mono r3.ext _ _ hs.defs⟩ r3

/-- Nothing is walked in its place. -/
def Env.still (X : Env P) : Env P := { X with N := nestK P }

theorem finC_mono {ids : List Nat} {H H1 : List ABlk} {a : ARes} {k k' : Eff → List Nat → Bool → Prop} {kp kp' : AVal → Prop} (hk : ∀ e ws nw, k e ws nw → k' e ws nw) (hp : ∀ v, kp v → kp' v) (h : finC ids H a H1 k kp) : finC ids H a H1 k' kp' := by
  unfold finC at h ⊢
  split at h
  · grind [effF_eq]
  grind

theorem conK_rel {ρ : Type} {n : Nat} {f : FuncId} {args : List AVal} {H : List ABlk} {c : CtrR P} {x : c.X} {kk : c.sh.El → G P ρ} {k : G P ρ → ARes → List ABlk → Prop} {p : ρ → Prop} (h : conK P f args H c x kk k) (hr : (G.callR c x kk).can n p) :
    FnRel P f args H fun a H1 => ∃ g', k g' a H1 ∧ g'.can n p := by
  obtain ⟨_, he, h⟩ := h
  simp only [Option.some.injEq, Prod.mk.injEq] at he
  obtain ⟨rfl, ha, rfl⟩ := he
  obtain ⟨q, hq, hr⟩ := hr
  have hf := FnRef.wk (args := args) (by rw [ha]; exact c.ok n x q hq)
  exact ⟨hf.1, fun g w vs hi hl => (hf.2 g w vs hi hl).mono fun e w' hc => ⟨_, _, ⟨kk q, (c.sh.all_iff _).1 h q, hr⟩, hc⟩⟩

/-- Where nothing is left open: a step as it is. -/
def StepDet (X : Env P) (ops : Array Oper) (n0 : Nat) (o : Oper) (nid : Nat) (s : St) {ρ : Type} (n : Nat) (p : ρ → Prop) (k : G P ρ → OpRes → Foot → Prop) : Prop :=
  ∃ orc, OrcOk P orc ∧ ∃ res f g', stepOp P X.cfg orc ops n0 o nid s = some (res, f) ∧ k g' res f ∧ g'.can n p

/-- Else: in whatever way it ends. -/
def StepAny (P : Program) [Globs] (ops : Array Oper) (o : Oper) (s : St) {ρ : Type} (n : Nat) (p : ρ → Prop) (k : G P ρ → OpRes → Foot → Prop) : Prop :=
  ∀ (ro : Option Nat) (gg : Gh) (a : Act) (w : World), Sim gg s a w → ∀ i, ops[i]? = some o → Calm ro o → ∀ (K : Act → World → Prop) (Q : Exit → Act → World → Prop),
    (∀ g' res f, k g' res f → g'.can n p → StepPost Q K gg s a w res) → wpOpIn (Fr ro) 0 P ops Q i K a w

theorem StepDet.any {ρ : Type} {n : Nat} {p : ρ → Prop} {k : G P ρ → OpRes → Foot → Prop} (h : StepDet X ops n0 o nid s n p k) : StepAny P ops o s n p k := by
  intro ro gg a w hs i hi hcalm K Q hK
  obtain ⟨orc, ho, res, f, g', hst, hk, hr⟩ := h
  grind [step_sound]

theorem stepC1_can (hNe : NestRel P X.N) {n : Nat} {ρ : Type} {p : ρ → Prop} {g : G P ρ} {draw : Bool} (hz : draw = true → X.N = nestK P) {H0 : List ABlk} {k : G P ρ → OpRes → Foot → Prop} (h : stepC1 P X draw H0 ops n0 o nid g s k) (hr : g.can n p) :
    StepDet X ops n0 o nid s n p k ∨ (draw = false ∧ StepAny P ops o s n p k) := by
  unfold stepC1 at h
  split at h
  · rename_i m g'
    split at h
    · rename_i res f hs
      exact .inl ⟨orc0, orc0_ok, res, f, _, hs, h, by rw [G.less_can]; simpa [G.can] using hr⟩
    · exact nomatch h
  · rename_i Y t kk
    obtain ⟨x, hx, hr⟩ := hr
    have h' : stepC1 P X.still draw H0 ops n0 o nid (.op t (fun x => .done [] x) : G P Y) s (fun g' r f => ∃ x, g' = .done [] x ∧ k (kk x) r f) := by
      refine ⟨h.1, h.2.1, fun x => ?_⟩
      have := h.2.2 x
      simp only [effF_eq, putF_eq, applyF_eq] at this ⊢
      exact ⟨x, rfl, this⟩
    obtain ⟨orc, ho, res, f, g', hs, ⟨x', rfl, hk⟩, hr'⟩ := stepC1_sound (X := X.still) (n := n) (r := x) nestK_ok h' (by simp [G.run, hx, tsOk])
    obtain rfl : x' = x := by simpa [G.run, tsOk] using hr'
    exact .inl ⟨orc, ho, res, f, _, hs, hk, hr⟩
  · rename_i c x kk
    obtain ⟨q, hx, hr⟩ := hr
    have h' : stepC1 P X.still draw H0 ops n0 o nid (.call c x (fun q => .done [] q) : G P c.sh.El) s (fun g' r f => ∃ x, g' = .done [] x ∧ k (kk x) r f) := by
      refine ⟨h.1, h.2.1, (c.sh.all_iff _).2 fun q => ?_⟩
      have := (c.sh.all_iff _).1 h.2.2 q
      simp only [Env.still]
      split at this
      · exact ⟨q, rfl, this⟩
      · exact nomatch this
    obtain ⟨orc, ho, res, f, g', hs, ⟨x', rfl, hk⟩, hr'⟩ := stepC1_sound (X := X.still) (n := n) (r := q) nestK_ok h' (by simp [G.run, hx, tsOk])
    obtain rfl : x' = q := by simpa [G.run, tsOk] using hr'
    exact .inl ⟨orc, ho, res, f, _, hs, hk, hr⟩
  · rename_i z c x kk
    obtain ⟨q, hx, hr⟩ := hr
    have h' : stepC1 P X.still draw H0 ops n0 o nid (.callS z c x (fun q => .done [] q) : G P c.sh.El) s (fun g' r f => ∃ x, g' = .done [] x ∧ k (kk x) r f) := by
      refine ⟨h.1, h.2.1, h.2.2.1, h.2.2.2.1, (c.sh.all_iff _).2 fun q => ?_⟩
      have := (c.sh.all_iff _).1 h.2.2.2.2 q
      split at this
      · rename_i u hu
        split at this
        · rename_i hfl
          simp only [putF_eq] at this ⊢
          exact ⟨q, rfl, this⟩
        · exact this.elim
      · rename_i u hu
        split at this
        · rename_i hfl
          simp only at this ⊢
          exact ⟨q, rfl, this⟩
        · exact this.elim
    obtain ⟨orc, ho, res, f, g', hs, ⟨x', rfl, hk⟩, hr'⟩ := stepC1_sound (X := X.still) (n := n) (r := q) nestK_ok h' (by simp [G.run, hx, tsOk])
    obtain rfl : x' = q := by simpa [G.run, tsOk] using hr'
    exact .inl ⟨orc, ho, res, f, _, hs, hk, hr⟩
  · rename_i c x kk
    obtain ⟨q, hx, hr⟩ := hr
    have h' : stepC1 P X.still draw H0 ops n0 o nid (.callR c x (fun q => .done [] q) : G P c.sh.El) s (fun g' r f => ∃ x, g' = .done [] x ∧ k (kk x) r f) := by
      refine ⟨h.1, h.2.1, (c.sh.all_iff _).2 fun q => ?_⟩
      have := (c.sh.all_iff _).1 h.2.2 q
      simp only [Env.still]
      split at this
      · exact ⟨q, rfl, this⟩
      · exact nomatch this
    obtain ⟨orc, ho, res, f, g', hs, ⟨x', rfl, hk⟩, hr'⟩ := stepC1_sound (X := X.still) (n := n) (r := q) nestK_ok h' (by simp [G.run, hx, tsOk])
    obtain rfl : x' = q := by simpa [G.run, tsOk] using hr'
    exact .inl ⟨orc, ho, res, f, _, hs, hk, hr⟩
  · rename_i c b v ex x kk
    obtain ⟨q, hx, hr⟩ := hr
    have h' : stepC1 P X.still draw H0 ops n0 o nid (.call1 c b v ex x (fun q => .done [] q) : G P c.sh.El) s (fun g' r f => ∃ x, g' = .done [] x ∧ k (kk x) r f) := by
      refine ⟨h.1, h.2.1, h.2.2.1, (c.sh.all_iff _).2 fun q => ?_⟩
      have := (c.sh.all_iff _).1 h.2.2.2 q
      simp only [Env.still]
      split at this
      · grind
      · exact ⟨q, rfl, this⟩
    obtain ⟨orc, ho, res, f, g', hs, ⟨x', rfl, hk⟩, hr'⟩ := stepC1_sound (X := X.still) (n := n) (r := q) nestK_ok h' (by simp [G.run, hx, tsOk])
    obtain rfl : x' = q := by simpa [G.run, tsOk] using hr'
    exact .inl ⟨orc, ho, res, f, _, hs, hk, hr⟩
  · rename_i pr g'
    obtain ⟨hw, hpr, hc⟩ := h
    simp only [G.can] at hr
    cases draw with
    | true =>
      rw [hz rfl] at hc
      split at hc
      · rename_i f args ids rs hx
        simp only [headsF_eq, nestK] at hc
        split at hc
        · rename_i c x kk
          obtain ⟨q, hq, hr⟩ := hr
          have h' : stepC1 P X.still true H0 ops n0 o nid (.inl pr (.callR c x (fun q => .done [] q)) : G P c.sh.El) s (fun g' r f => ∃ x, g' = .done [] x ∧ k (kk x) r f) := by
            refine ⟨hw, hpr, ?_⟩
            simp only [Env.still, hx, headsF_eq, nestK]
            refine ⟨hc.1, hc.2.1, (c.sh.all_iff _).2 fun q => ?_⟩
            refine finC_mono (fun e ws nw hk => ?_) (fun v hk => ?_) ((c.sh.all_iff _).1 hc.2.2 q)
            · grind
            · exact ⟨q, rfl, hk⟩
          obtain ⟨orc, ho, res, f, g', hs, ⟨x', rfl, hk⟩, hr'⟩ := stepC1_sound (X := X.still) (n := n) (r := q) nestK_ok h' (by simp [G.run, hq, tsOk])
          obtain rfl : x' = q := by simpa [G.run, tsOk] using hr'
          exact .inl ⟨orc, ho, res, f, _, hs, hk, hr⟩
        · exact hc.elim
      · grind [headsF_eq, nestK]
      · exact nomatch hc
    | false =>
      refine .inr ⟨rfl, ?_⟩
      intro ro gg a w hs i hi hcalm K Q hK
      split at hc
      · rename_i f args ids rs hx
        simp only [headsF_eq] at hc
        refine inl_fn_rel hw hx (hNe.fn hc hr) hs hi hcalm fun a1 H1 ⟨g2, hk, hr2⟩ => ?_
        grind [finC_inv, putF_eq, applyF_eq]
      · rename_i b args ids rs hx
        simp only [headsF_eq] at hc
        refine inl_rnd_rel hw hx (hNe.rnd hc hr) hs hi hcalm fun a1 H1 ⟨g2, hk, hr2⟩ => ?_
        grind [finC_inv, putF_eq, applyF_eq]
      · exact nomatch hc
  · rename_i z seen kk
    cases draw with
    | true => exact h.elim
    | false =>
      refine .inr ⟨rfl, ?_⟩
      simp only [G.can] at hr
      simp only at h
      split at h
      · rename_i it hop
        obtain ⟨hw, hit, hb, hmb, h0, h1⟩ := h
        intro ro gg a w hs i hi hcalm K Q hK
        simp only [putF_eq] at h0
        refine pick_rel hop hw hit hb hmb hs hi hcalm (fun hall => hK _ _ _ h0 (hr.1 hall)) fun j hj hn => ?_
        have := h1 j
        grind [putF_eq, applyF_eq, Eff.apply]
      · exact h.elim
  · rename_i z kk
    cases draw with
    | true => exact h.elim
    | false =>
      refine .inr ⟨rfl, ?_⟩
      simp only [G.can] at hr
      simp only at h
      split at h
      · rename_i args ats hop
        split at h
        · rename_i ST XT sx x h0 h1 hs0 hx0
          obtain ⟨hw, hn, hsz, hT, es, hrow, hnew, hall, hpos, q1, q2⟩ := h
          intro ro gg a w hs i hi hcalm K Q hK
          simp only [putF_eq, applyF_eq] at q1 q2
          have p1 := hK _ _ _ q1 hr.2.1
          have p2 := hK _ _ _ q2 hr.2.2
          exact grow_rel hop h0 h1 hs0 hx0 hw hn (of_decide_eq_true hsz) hT es hrow hnew hall hpos hr.1 hs hi hcalm (by simpa [Eff.apply] using p1) (by simpa [Eff.apply] using p2)
        · exact h.elim
      · exact h.elim
  · exact hr.elim
  · exact nomatch h
  · exact nomatch h

theorem stepC_can (hNe : NestRel P X.N) (hz : X.N = nestK P) {n : Nat} {ρ : Type} {p : ρ → Prop} {g : G P ρ} {H0 : List ABlk} {k : G P ρ → OpRes → Foot → Prop} (h : stepC P X true H0 ops n0 o nid g s k) (hr : g.can n p) :
    StepDet X ops n0 o nid s n p k := by
  unfold stepC at h
  grind [stepC1_can]

theorem runC_can (hNe : NestRel P X.N) (hz : X.N = nestK P) {n : Nat} {ρ : Type} {p : ρ → Prop} {H0 : List ABlk} : ∀ (l : List (Oper × Nat)) (i : Nat) (g : G P ρ) (s : St) (k : G P ρ → OpRes → List Foot → Prop), runC P X true H0 ops n0 l g s k → g.can n p →
    ∃ orcs : Nat → Orc, (∀ j, OrcOk P (orcs j)) ∧ ∃ res fs g', runOps P X.cfg orcs ops n0 i l s = some (res, fs) ∧ k g' res fs ∧ g'.can n p
  | [], i, g, s, k, h, hr => ⟨fun _ => orc0, fun _ => orc0_ok, .ok s, [], g, rfl, h, hr⟩
  | (o, nid) :: rest, i, g, s, k, h, hr => by
    simp only [runC] at h
    obtain ⟨g1, h, hr⟩ := tick_can h hr
    obtain ⟨orc, ho, res, f, g2, hs, h, hr⟩ := stepC_can hNe hz h hr
    cases res with
    | ok s' =>
      obtain ⟨A, H, D⟩ := s'
      simp only [spineF_eq] at h
      obtain ⟨orcs, hos, res, fs, g3, hrun, hk, hr⟩ := runC_can hNe hz rest (i + 1) g2 _ _ h hr
      refine ⟨fun j => if j = i then orc else orcs j, fun j => (by grind : OrcOk P (if j = i then orc else orcs j)), res, f :: fs, g3, ?_, hk, hr⟩
      grind [runOps, runOps_congr]
    | pan v s' =>
      exact ⟨fun _ => orc, fun _ => ho, .pan v s', [f], g2, by simp only [runOps, hs], h, hr⟩

theorem regionC_can (hNe : NestRel P X.N) (hz : X.N = nestK P) {n : Nat} {ρ : Type} {p : ρ → Prop} {H0 : List ABlk} {g : G P ρ} {s : St} {k : G P ρ → OpRes → Prop} (h : regionC P X H0 ops true g s k) (hr : g.can n p) :
    ∃ orcs : Nat → Orc, (∀ j, OrcOk P (orcs j)) ∧ ∃ res g', regionI P X.cfg orcs ops true s = some res ∧ k g' res ∧ g'.can n p := by
  simp only [regionC, natF_eq, newsF_eq] at h
  obtain ⟨orcs, ho, res, fs, g', hrun, hk, hr⟩ := runC_can hNe hz _ 0 _ _ _ h hr
  refine ⟨orcs, ho, ?_⟩
  simp only [regionI, natF_eq, newsF_eq, hrun]
  grind

theorem stepD_any (hNe : NestRel P X.N) {n : Nat} {ρ : Type} {p : ρ → Prop} {g : G P ρ} {H0 : List ABlk} {k : G P ρ → OpRes → Foot → Prop} (h : stepC P X false H0 ops n0 o nid g s k) (hr : g.can n p) :
    ∃ s2, Weak H0 s s2 ∧ StepAny P ops o s2 n p k := by
  unfold stepC at h
  split at h
  · rename_i l g'
    simp only [G.can] at hr
    obtain ⟨s', hw, h⟩ := tidyC_inv hr.1 h
    refine ⟨s', hw, ?_⟩
    rcases stepC1_can hNe (fun e => by cases e) h hr.2 with h | ⟨_, h⟩
    · exact h.any
    · exact h
  · refine ⟨s, .refl _ _, ?_⟩
    rcases stepC1_can hNe (fun e => by cases e) h hr with h | ⟨_, h⟩
    · exact h.any
    · exact h

theorem runD_any (hNe : NestRel P X.N) {n : Nat} {ρ : Type} {p : ρ → Prop} {H0 : List ABlk} : ∀ (l : List (Oper × Nat)) (i : Nat) (g : G P ρ) (s : St) (k : G P ρ → OpRes → List Foot → Prop), runC P X false H0 ops n0 l g s k → g.can n p →
    (∀ (j : Nat), (l[j]?).map (fun (p : Oper × Nat) => p.1) = (ops.toList.drop i)[j]?) →
    ∀ (fro : Option Nat), (∀ (k : Nat) (o : Oper), ops[k]? = some o → Calm fro o) → ∀ (gg : Gh) (ww : World) (Q : Exit → Act → World → Prop), Inv gg H0 ww → ∀ (g1 : Gh) (a : Act) (w : World), Sim g1 s a w → Later gg H0 ww g1 s.H w →
      (∀ g' res fs, k g' res fs → g'.can n p → RegPost Q gg H0 ww res) → wpOpsIn (Fr fro) 0 P ops Q (List.range' i l.length) a w
  | [], i, g, s, k, h, hr, _ => fun _ _ _ _ _ _ g1 a w hs hl hp => hp g (.ok s) [] h hr g1 a w hs hl
  | (o, nid) :: rest, i, g, s, k, h, hr, hj => by
    intro fro hcalm gg ww Q hi0 g1 a w hs hl hp
    have hi : ops[i]? = some o := by
      have := hj 0
      simp at this
      exact this.symm
    simp only [runC] at h
    obtain ⟨g', h, hr⟩ := tick_can h hr
    obtain ⟨s2, hw2, hany⟩ := stepD_any hNe h hr
    simp only [List.length_cons, List.range'_succ, wpOpsIn_cons]
    obtain ⟨g2, hs2, hl2⟩ := hw2 gg ww g1 a w hi0 hl hs
    refine hany fro g2 a w hs2 i hi (hcalm i o hi) _ Q fun g3 res f hk hr3 => ?_
    cases res with
    | ok s' =>
      obtain ⟨A, H, D⟩ := s'
      simp only [spineF_eq] at hk
      intro g5 a' w' hs' hla
      exact runD_any hNe rest (i + 1) g3 ⟨A, H, D⟩ _ hk hr3 (fun j => by
        have := hj (j + 1)
        grind) fro hcalm gg ww Q hi0 g5 a' w' hs' (hl2.trans hla) (fun g' res fs h1 h2 => hp g' res _ h1 h2)
    | pan v s' => exact fun g' w' x hv hs' hla hx => hp g3 (.pan v s') _ hk hr3 g' a w' x hv hs' (hl2.trans hla) hx

theorem regionD_any (hNe : NestRel P X.N) {H0 : List ABlk} {n : Nat} {ρ : Type} {p : ρ → Prop} {id : Nat} {g : G P ρ} {s : St} {k : G P ρ → OpRes → Prop} (h : regionC P X H0 ops false g s k) (hr : g.can n p) :
    ∀ (fro : Option Nat), (∀ (k : Nat) (o : Oper), ops[k]? = some o → Calm fro o) → ∀ (gg : Gh) (ww : World), Inv gg H0 ww → Does P fro gg H0 ww (.region id ops false) s fun o s' => ∃ g' res, k g' res ∧ g'.can n p ∧ o = (outOf res).1 ∧ s' = (outOf res).2 := by
  intro fro hcalm gg ww hi0 Q g1 a w hs hl hp
  simp only [regionC, natF_eq, newsF_eq] at h
  generalize (if countAllocs ops.toList = 0 then 0 else tailFree s.H) = t0 at h
  generalize countAllocs ops.toList - t0 = m0 at h
  generalize s.H.length - t0 = f0 at h
  obtain ⟨i1, i2⟩ := hs.inv.reserve m0
  have hs0 : Sim g1 { s with H := s.H ++ List.replicate m0 .unborn } a w := ⟨i1, hs.tmps, hs.defs⟩
  refine wpIn_region ?_
  rw [List.range_eq_range']
  have := runD_any hNe _ 0 _ _ _ h hr (fun j => by rw [numbered_get]; simp) fro hcalm gg ww Q hi0 g1 a w hs0 (hl.trans i2) (fun g' res fs hk hr' => by
    simp only [Bool.not_false, if_true] at hk
    have := hp _ _ ⟨g', res, hk, hr', rfl, rfl⟩
    cases res with
    | ok s' => exact this
    | pan v s' => exact this)
  grind [numbered_len]

/-- A loop over a function. -/
theorem range_rel {f : FuncId} {pa qa : List AVal} {l : Nat} {H1 : List ABlk} {D1 : List DefA} {ids : List Nat} {Φ : ARes → List ABlk → Prop} {ro fro : Option Nat} {fid : FuncId} {x : Operand} {ps : Array Tmp} {assign body : Code} {s : St} {gg : Gh} {a : Act} {w : World} {Q : Exit → Act → World → Prop}
    (hro : RoOk gg ro fro) (hf : evalA s.A x = .fn (.func f) pa qa) (hen : enterA ro fid ps assign body s = some (l, H1, D1)) (hfn : FnRel P f (pa ++ [.yld l] ++ qa) (mask ids H1) Φ) (hs : Sim gg s a w)
    (hK : ∀ a1 H2, Φ a1 H2 → (∃ e out s', mergeFin H1 ids (some (a1, H2)) = some (.ok e) ∧ endA l D1 s (e.apply H1) = some (out, s') ∧ OutPost Q gg s.H w s' out) ∨
      (∃ v, mergeFin H1 ids (some (a1, H2)) = some (.pan v ids) ∧ OutPost Q gg s.H w { s with H := ids.foldl (fun H i => H.set i .dead) H1, D := D1 } (.pan v))) : (Code.rangeFunc x ps assign body).wpIn (Fr fro) 0 P Q a w := by
  have hev := hs.eval x
  rw [hf] at hev
  refine wpIn_rangeFunc fun fn _ => ?_
  obtain ⟨k, mark, w1, g1, hrun, i1, l1, rk, hd⟩ := enter_sound (P := P) hro hs hen fn
  have hev1 := R_mono l1.ext _ _ hev
  simp only [R] at hev1
  obtain ⟨va, vb, hfo, ra, rb⟩ := hev1
  have hl : RL g1 w1 (pa ++ [.yld l] ++ qa) ((va.toArray ++ #[Value.func (.yield k) #[] #[]]) ++ vb.toArray).toList := by
    simp only [Array.toList_append]
    refine RL_append (RL_append (by simpa using ra) ?_) (by simpa using rb)
    simp only [RL, R]
    exact ⟨_, _, rfl, ⟨k, 0, rk, rfl⟩, rfl⟩
  have ht := RL_mono l1.ext _ _ hs.tmps
  obtain ⟨⟨fn1, c1, k1, k2, k3⟩, hcalls⟩ := hfn
  have hcalls := hcalls g1 w1 _ (inv_mask i1 _) hl
  refine ⟨k, mark, w1, { target := .fn (.func f) vb.toArray, args := va.toArray ++ #[Value.func (.yield k) #[] #[]] }, w1, f, (va.toArray ++ #[Value.func (.yield k) #[] #[]]) ++ vb.toArray, w1, hrun, ?_, fun _ _ => trivial, ?_, depth_Fr fro, calls_Fr ?_⟩
  · have hc : a.eval (.const (.func (.yield k) #[] #[])) = .func (.yield k) #[] #[] := rfl
    simp [resolve, hfo, Deferred.ofValue, hc]
  · simp [invoke, run_callFunc k1 k2 k3]
  · refine hcalls.mono ?_
    rintro e w' ⟨a1, H2, hΦ, hc⟩
    rcases hK a1 H2 hΦ with ⟨ef, out, s', hm, hend, hpost⟩ | ⟨v, hm, hpost⟩
    · obtain ⟨r', H', he, hp⟩ := mergeFin_post i1 hm
      simp only [Option.some.injEq, Prod.mk.injEq] at he
      obtain ⟨rfl, rfl⟩ := he
      rcases hp with ⟨eff, he, hp⟩ | ⟨v', he, _⟩
      · cases he
        obtain ⟨y, g', rfl, hi', _, hla⟩ := hp e w' hc
        exact end_sound (a := { a with defers := mark ++ a.defers }) (hla.ext.rho _ _ _ rk) hi' (RL_mono hla.ext _ _ ht) (RD_mono hla.ext _ _ hd) hend (hpost.later (l1.trans hla))
      · cases he
    · obtain ⟨r', H', he, hp⟩ := mergeFin_post i1 hm
      simp only [Option.some.injEq, Prod.mk.injEq] at he
      obtain ⟨rfl, rfl⟩ := he
      rcases hp with ⟨eff, he, hp⟩ | ⟨v', he, hfl, hp⟩
      · cases he
      · cases he
        obtain ⟨y, rfl, hi', hr, hla⟩ := hp e w' hc
        exact hpost g1 { a with defers := mark ++ a.defers } w' y hfl ⟨hi', RL_mono hla.ext _ _ ht, RD_mono hla.ext _ _ hd⟩ (l1.trans hla) hr

/-- What the walk may come to. -/
def Comes (P : Program) [Globs] (ro : Option Nat) (H0 : List ABlk) (c : Code) (s : St) {ρ : Type} (n : Nat) (p : ρ → Prop) (k : G P ρ → AOut → St → Prop) : Prop :=
  ∀ fro g0 w0, Inv g0 H0 w0 → RoOk g0 ro fro → Does P fro g0 H0 w0 c s fun o s' => ∃ g', k g' o s' ∧ g'.can n p

theorem Comes.weak {ro : Option Nat} {H0 : List ABlk} {c : Code} {s s1 : St} {ρ : Type} {n : Nat} {p : ρ → Prop} {k : G P ρ → AOut → St → Prop} (hw : Weak H0 s s1) (h : Comes P ro H0 c s1 n p k) : Comes P ro H0 c s n p k :=
  fun fro g0 w0 hi hro => .weak hi hw (h fro g0 w0 hi hro)

/-- Told by weaker states. -/
theorem Does.post' {fro : Option Nat} {g0 : Gh} {H0 : List ABlk} {w0 : World} (hi0 : Inv g0 H0 w0) {c : Code} {s : St} {Φ Ψ : AOut → St → Prop} (h : Does P fro g0 H0 w0 c s Φ) (hw : ∀ o s1, Φ o s1 → ∃ s2, Weak H0 s1 s2 ∧ Ψ o s2) : Does P fro g0 H0 w0 c s Ψ :=
  fun Q g a w hs hl hk => h Q g a w hs hl fun o' s' hf => let ⟨_, h1, h2⟩ := hw o' s' hf; OutPost.weak hi0 h1 (hk _ _ h2)

theorem joinC_can {H0 : List ABlk} {sh : Sh} {Y : sh.El → AOut × St} {n : Nat} {g : G P sh.El} {o : AOut} {s : St} {q : sh.El → Prop} (h : joinC H0 Y g o s) (hr : g.can n q) : ∃ s' t, Weak H0 s s' ∧ (o, s') = Y t ∧ q t := by
  unfold joinC at h
  split at h
  · rename_i ts t'
    obtain ⟨hok, hq⟩ := hr
    grind [tidyC_inv]
  · exact hr.elim
  · exact nomatch h

theorem round_can {n : Nat} {σ : Type} {sh : Sh} {H0 : List ABlk} {E : σ → St} {Y : sh.El → AOut × St} {g : G P (σ ⊕ sh.El)} {o : AOut} {s : St} {q : σ ⊕ sh.El → Prop} (h : roundC H0 E Y g o s) (hr : g.can n q) :
    ∃ s' v, q v ∧ Weak H0 s s' ∧ match v with | .inl a => o = .normal ∧ s' = E a | .inr t => o ≠ .normal ∧ (o, s') = Y t := by
  unfold roundC at h
  split at h
  · rename_i ts a
    obtain ⟨hok, hq⟩ := hr
    grind [tidyC_inv]
  · rename_i ts t
    obtain ⟨hok, hq⟩ := hr
    grind [tidyC_inv]
  · exact hr.elim
  · exact nomatch h

theorem sealC_rel (hNe : NestRel P X.N) {H0 : List ABlk} {n : Nat} {σ : Type} {sh : Sh} {b : Code} {E : σ → St} {s : St} {Y : sh.El → AOut × St} {p : σ ⊕ sh.El → Prop} {f : G P (σ ⊕ sh.El) → Prop}
    (ih : ∀ g, f g → g.can n p → Comes P X.ro H0 b s n p (roundC H0 E Y)) {g : G P (σ ⊕ sh.El)} (h : sealC X.N X.ro H0 b E s Y g f) (hr : g.can n p) :
    Comes P X.ro H0 b s n p (roundC H0 E Y) := by
  unfold sealC at h
  split at h
  · exact hNe.lp h hr
  · exact ih _ h hr

theorem gxC_rel (hm : P.follows .mixedOrders = true) (hNe : NestRel P X.N) (hnd : X.nd = true) {H0 : List ABlk} {n : Nat} : ∀ (c : Code) {ρ : Type} (p : ρ → Prop) (g : G P ρ) (s : St) (k : G P ρ → AOut → St → Prop), gxC P X H0 c g s k → g.can n p → Comes P X.ro H0 c s n p k := by
  have hat : X.at true = X.still := by simp [Env.at, hnd, Env.still]
  have hst : NestRel P X.still.N := by
    refine ⟨fun h hr => ?_, fun h => h.elim, fun h => h.elim⟩
    simp only [Env.still, nestK] at h
    split at h
    · exact conK_rel h hr
    · exact h.elim
  intro c
  induction c with
  | skip => intro ρ p g s k h hr fro g0 w0 _ _; exact .skip ⟨g, h, hr⟩
  | region id ops draw =>
    intro ρ p g s k h hr
    simp only [gxC] at h
    split at h
    · exact h.elim
    rename_i hoff
    obtain ⟨s1, g1, hw, h, hr⟩ := preC_can h hr
    refine .weak hw ?_
    cases draw with
    | false =>
      intro fro g0 w0 hi hro
      refine (regionD_any (X := X) hNe (id := id) h hr fro (calm_of hro hoff) g0 w0 hi).mono ?_
      rintro o s' ⟨g', res, hk, hr', rfl, rfl⟩
      cases res with
      | ok s' => exact ⟨g', hk, hr'⟩
      | pan v s' => exact ⟨g', hk, hr'⟩
    | true =>
      rw [hat] at h
      obtain ⟨orcs, ho, res, g', hreg, h, hr⟩ := regionC_can hst rfl h hr
      intro fro g0 w0 hi hro
      cases res with
      | ok s' => exact .region hm ho (calm_of hro hoff) hreg ⟨g', h, hr⟩
      | pan v s' => exact .region hm ho (calm_of hro hoff) hreg ⟨g', h, hr⟩
  | seq a b iha ihb =>
    intro ρ p g s k h hr fro g0 w0 hi hro
    simp only [gxC] at h
    refine .seq ((iha p g s _ h hr fro g0 w0 hi hro).mono ?_)
    rintro o s' ⟨g1, h1, hr1⟩
    cases o with
    | normal => exact ihb p g1 s' k h1 hr1 fro g0 w0 hi hro
    | exit id => exact ⟨g1, h1, hr1⟩
    | ret => exact ⟨g1, h1, hr1⟩
    | pan v => exact ⟨g1, h1, hr1⟩
  | cond c a b iha ihb =>
    have main : ∀ {ρ : Type} (p : ρ → Prop) (g : G P ρ) (s : St) (k : G P ρ → AOut → St → Prop), condC P X H0 c a b (fun g s k => gxC P X H0 a g s k) (fun g s k => gxC P X H0 b g s k) g s k → g.can n p → Comes P X.ro H0 (.cond c a b) s n p k := by
      intro ρ p g s k h hr
      unfold condC at h
      obtain ⟨s1, g1, hw, h, hr⟩ := preC_can h hr
      obtain ⟨g1, h, hr⟩ := tick_can h hr
      refine .weak hw ?_
      split at h
      · rename_i m g2
        have hr2 : (G.less m g2).can n p := by rw [G.less_can]; simpa [G.can] using hr
        split at h
        · rename_i hc
          exact fun fro g0 w0 hi hro => .cond true hc (iha p _ _ k h hr2 fro g0 w0 hi hro)
        · rename_i hc
          exact fun fro g0 w0 hi hro => .cond false hc (ihb p _ _ k h hr2 fro g0 w0 hi hro)
        · exact h.elim
      · exact hr.elim
      · exact nomatch h
    intro ρ p g s k h hr
    simp only [gxC] at h
    split at h
    · rename_i sh Y g1 kk
      intro fro g0 w0 hi hro
      refine (main _ g1 s _ h.1 hr fro g0 w0 hi hro).post' hi ?_
      rintro o s1 ⟨g', hj, hr'⟩
      obtain ⟨s2, t, hw, e, hq⟩ := joinC_can hj hr'
      have e1 : o = (Y t).1 := congrArg Prod.fst e
      have e2 : s2 = (Y t).2 := congrArg Prod.snd e
      refine ⟨s2, hw, kk t, ?_, hq⟩
      rw [e1, e2]
      exact (sh.all_iff _).1 h.2 t
    · exact main p g s k h hr
  | block id b ih =>
    have main : ∀ {ρ : Type} (p : ρ → Prop) (g : G P ρ) (s : St) (k : G P ρ → AOut → St → Prop), gxC P X H0 b g s (blockC id k) → g.can n p → Comes P X.ro H0 (.block id b) s n p k := by
      intro ρ p g s k h hr fro g0 w0 hi hro
      refine .block ((ih p g s _ h hr fro g0 w0 hi hro).mono ?_)
      rintro o s' ⟨g', h1, hr'⟩
      refine ⟨g', ?_, hr'⟩
      unfold blockC at h1
      cases o with
      | exit id' =>
        grind [behind]
      | normal => exact h1
      | ret => exact h1
      | pan v => exact h1
    intro ρ p g s k h hr
    simp only [gxC] at h
    split at h
    · rename_i sh Y g1 kk
      intro fro g0 w0 hi hro
      refine (main _ g1 s _ h.1 hr fro g0 w0 hi hro).post' hi ?_
      rintro o s1 ⟨g', hj, hr'⟩
      obtain ⟨s2, t, hw, e, hq⟩ := joinC_can hj hr'
      have e1 : o = (Y t).1 := congrArg Prod.fst e
      have e2 : s2 = (Y t).2 := congrArg Prod.snd e
      refine ⟨s2, hw, kk t, ?_, hq⟩
      rw [e1, e2]
      exact (sh.all_iff _).1 h.2 t
    · exact main p g s k h hr
  | loop b ih =>
    intro ρ p g s k h hr
    simp only [gxC] at h
    split at h
    · rename_i m g1
      simp only [G.can] at hr
      intro fro g0 w0 hi hro
      refine .loop hi (n := m) (s0 := s) (fun m s => ∃ g, iterC (fun g s k => gxC P X H0 b g s k) m g s k ∧ g.can n p) (fun s ⟨g, h, _⟩ => h.elim) (.refl _ _) ⟨g1, h, hr⟩ ?_
      rintro m s1 ⟨g2, h2, hr2⟩
      simp only [iterC] at h2
      refine (ih p g2 s1 _ h2 hr2 fro g0 w0 hi hro).mono ?_
      rintro o s3 ⟨g3, h3, hr3⟩
      refine ⟨s3, .refl _ _, ?_⟩
      grind
    · rename_i σ sh hd E Y a0 body kk
      obtain ⟨h0, hb, hx⟩ := h
      obtain ⟨hok, hr⟩ := hr
      have hx := (sh.all_iff _).1 hx
      obtain ⟨_, h0, rfl⟩ := tidyC_inv hok h0
      intro fro g0 w0 hi hro
      refine .loop hi (n := n) (s0 := E a0) (fun m s1 => ∃ a, s1 = E a ∧ iterP (fun a q => (body a).can n q) m a fun t => (kk t).can n p) (fun s ⟨a, _, h⟩ => by simp [iterP] at h) h0 ⟨a0, rfl, hr⟩ ?_
      rintro m s1 ⟨a, rfl, hit⟩
      simp only [iterP] at hit
      refine (sealC_rel hNe (fun g h hr => ih _ g (E a) _ h hr) (hb a) hit fro g0 w0 hi hro).mono ?_
      grind [round_can]
    · rename_i hsh sh hd E Y a0 body kk
      obtain ⟨h0, hb, hx⟩ := h
      have hb := (hsh.all_iff _).1 hb
      obtain ⟨hok, hr⟩ := hr
      have hx := (sh.all_iff _).1 hx
      obtain ⟨_, h0, rfl⟩ := tidyC_inv hok h0
      intro fro g0 w0 hi hro
      refine .loop hi (n := n) (s0 := E a0) (fun m s1 => ∃ a, s1 = E a ∧ iterP (fun a q => (body a).can n q) m a fun t => (kk t).can n p) (fun s ⟨a, _, h⟩ => by simp [iterP] at h) h0 ⟨a0, rfl, hr⟩ ?_
      rintro m s1 ⟨a, rfl, hit⟩
      simp only [iterP] at hit
      refine (sealC_rel hNe (fun g h hr => ih _ g (E a) _ h hr) (hb a) hit fro g0 w0 hi hro).mono ?_
      grind [round_can]
    · exact hr.elim
    · exact nomatch h
  | exit id => intro ρ p g s k h hr fro g0 w0 _ _; exact .exit ⟨g, h, hr⟩
  | ret => intro ρ p g s k h hr fro g0 w0 _ _; exact .ret ⟨g, h, hr⟩
  | rangeFunc x ps as bd =>
    intro ρ p g s k h hr
    simp only [gxC] at h
    obtain ⟨s1, g1, hw, h, hr⟩ := preC_can h hr
    refine .weak hw ?_
    split at h
    · rename_i pr g2
      obtain ⟨_, h⟩ := h
      simp only [G.can] at hr
      split at h
      · rename_i f pa qa hf
        split at h
        · rename_i l H1 D1 hen
          rw [spineF_eq] at h
          obtain ⟨hpr, h⟩ := h
          split at h
          · rename_i ids rs hcl
            simp only [headsF_eq] at h
            have hfn := hNe.fn h hr
            intro fro g0 w0 hi hro Q g a w hs hl hp
            refine range_rel (hro.mono hl.ext) hf hen hfn hs ?_
            rintro a1 H2 ⟨g3, hk, hr3⟩
            rcases finC_inv hk with ⟨e, hmg, hk⟩ | ⟨v, hmg, hk⟩
            · simp only [applyF_eq] at hk
              split at hk
              · rename_i out s' hend
                exact .inl ⟨e, out, s', hmg, hend, (hp _ _ ⟨g3, hk, hr3⟩).later hl⟩
              · exact hk.elim
            · exact .inr ⟨v, hmg, (hp _ _ ⟨g3, hk, hr3⟩).later hl⟩
          · exact h.elim
        · exact h.elim
      · exact h.elim
    · exact hr.elim
    · exact nomatch h
  | _ => intro ρ p g s k h hr; exact h.elim

/-- New blocks that nobody names are given up, where a call ends. -/
theorem Comes1.trim {g : Gh} {w w' : World} {e : Ending} {H H1 : List ABlk} {a : ARes} {pr : List Nat} (hi : Inv g H w) (h : Comes1 g H w a H1 e w') (hpan : ∀ v, a = .pan v → v.flat = true) (ha : a.refsLt H.length = true) (hl : lowB pr H.length 0 (H1.take H.length) = true)
    (hp : ∀ i, pr.contains i = true → ∃ x, H1[i]? = some x ∧ prBlk x = true) : Comes1 g H w a (H1.take H.length) e w' := by
  obtain ⟨g1, hi1, hla, he⟩ := h
  have hlen : (H1.take H.length).length = H.length := by rw [List.length_take]; have := hla.len; omega
  have hK : H1.take H.length ++ H1.drop H.length = H1 := List.take_append_drop _ _
  obtain ⟨i1, i2⟩ := Inv.drop (n := H.length) (K := H1.take H.length) (L := H1.drop H.length) hi (by rw [hK]; exact hi1) (by rw [hK]; exact hla) hlen rfl fun b x hx => .inl (by
    rcases lowB_get hl b x hx with hc | hc
    · grind [prBlk_inv, blkLt, refsLtL_pure, refsLt_pure]
    · exact hc)
  refine ⟨g1.upto H.length, i1, i2, ?_⟩
  cases a with
  | ret v =>
    obtain ⟨x, rfl, hx⟩ := he
    exact ⟨x, rfl, R_restrict (n := H.length) (g := g1) (g2 := g1.upto H.length) (fun _ _ h => h) (fun b ver x hb he => by grind [Gh.upto]) v x ha hx⟩
  | pan v =>
    obtain ⟨x, rfl, hx⟩ := he
    exact ⟨x, rfl, R_flat v x (hpan v rfl) hx⟩

theorem FnRel.of (hm : P.follows .mixedOrders = true) (hN : ∀ (f : FuncId) (fn : Func), P.funcs[f]? = some fn → fn.name ≠ "runtime.NumGoroutine") {L : Nat} {f : FuncId} {fn : Func} {c : Code} {args : List AVal} {H0 : List ABlk} {Θ : AOut → St → Prop} {Φ : ARes → List ABlk → Prop}
    (hf : P.funcs[f]? = some fn) (hb : fn.body = some c) (hd : ∀ g0 w0, Inv g0 H0 w0 → Does P none g0 H0 w0 c ⟨frameA fn.ntmps args, H0, []⟩ Θ)
    (hΘ : ∀ o s, Θ o s → ∃ s' a H1, Weak H0 s s' ∧ landRO P cfg L fn o s' = some (a, H1) ∧ ∃ a' H1', Φ a' H1' ∧ ∀ g w e w', Inv g H0 w → Comes1 g H0 w a H1 e w' → Comes1 g H0 w a' H1' e w') : FnRel P f args H0 Φ := by
  refine ⟨⟨fn, c, hf, hb, hN f fn hf⟩, fun gh w vs hi hl => callsIn_wide.1 (callsIn_of_wp_marks (F := Fr none) (n := 0) hf hb trivial ?_)⟩
  have hsim : Sim gh ⟨frameA fn.ntmps args, H0, []⟩ { tmps := vs ++ Array.replicate (fn.ntmps - vs.size) undef, defers := [] } w := ⟨hi, frame_RL hl _, rfl⟩
  refine hd gh w hi _ gh _ w hsim (Later.refl _ _ _) fun o1 s1 ht => ?_
  obtain ⟨s', a, H1, hwk, hlo, a', H1', hΦ, hcv⟩ := hΘ o1 s1 ht
  refine OutPost.weak hi hwk ?_
  have key : ∀ (m : Option AVal) (u : FrameMode), landR P cfg L fn m s' = some (a, H1) → ∀ g' a0 w', Sim g' s' a0 w' → Later gh H0 w g' s'.H w' → ModeOk g' w' m u →
      LeavesInM (Fr none) 0 P fn a0.tmps (fun e w' => ∃ a H1, Φ a H1 ∧ Comes1 gh H0 w a H1 e w') a0.defers u w' := by
    intro m u hla g' a0 w' hs' hlat hmo
    obtain ⟨m', H', rr, h1, h2, h3, h4⟩ := landR_inv hla
    refine leavesInM_mono ?_ (leave_sound hm hN orc0_ok s'.D a0.defers m u s'.H g' w' m' H' hs'.defs hs'.inv hs'.tmps hmo h1 h2 hlat)
    rintro e w2 ⟨g2, hi2, hla2, he2⟩
    refine ⟨a', H1', hΦ, hcv gh w e w2 hi ⟨g2, hi2, hla2, ?_⟩⟩
    cases rr with
    | ret v => rw [h3 v rfl]; obtain ⟨x, rfl, hx⟩ := he2; exact ⟨x, rfl, R_wkD _ _ hx⟩
    | pan v => rw [h4 v rfl]; exact he2
  cases o1 with
  | normal => exact fun g' a' w' hs' hlat => key none .returning hlo g' a' w' hs' hlat rfl
  | ret => exact fun g' a' w' hs' hlat => key none .returning hlo g' a' w' hs' hlat rfl
  | exit id => simp [landRO] at hlo
  | pan v => exact fun g' a' w' x hv hs' hlat hrx => key (some v) (.panicking [{ v := x, recovered := false }]) hlo g' a' w' hs' hlat ⟨hv, x, rfl, hrx⟩

theorem nestN_rel (hm : P.follows .mixedOrders = true) (hN : ∀ (f : FuncId) (fn : Func), P.funcs[f]? = some fn → fn.name ≠ "runtime.NumGoroutine") : ∀ d, NestRel P (nestN P cfg true d)
  | 0 => ⟨fun h => h.elim, fun h => h.elim, fun h => h.elim⟩
  | d + 1 => by
    have ih := nestN_rel hm hN d
    constructor
    · intro ρ n f args H g k p h hr
      simp only [nestN, fnN] at h
      split at h
      · exact conK_rel h hr
      split at h
      · rename_i fn hf
        split at h
        · rename_i c hb
          have hd := gxC_rel (X := ⟨cfg, none, nestN P cfg true d, true⟩) hm ih rfl c p g _ _ h hr
          refine FnRel.of (cfg := cfg) (L := 10) hm hN hf hb (fun g0 w0 hi => hd none g0 w0 hi trivial) ?_
          rintro o s1 ⟨g1, h, hr⟩
          unfold endN at h
          split at h
          · rename_i ts pr g2
            obtain ⟨hok, hr⟩ := hr
            simp only [G.can] at hr
            obtain ⟨s', hw, h⟩ := tidyC_inv hok h
            split at h
            · rename_i a H1 hla
              obtain ⟨_, hpr, h⟩ := h
              grind [spineF_eq, Comes1.trim, landRO_flat, prC_ok]
            · exact h.elim
          · exact hr.elim
          · exact nomatch h
        · exact h.elim
      · exact h.elim
    · intro ρ n b args H g k p h hr
      simp only [nestN, rndN] at h
      split at h
      · rename_i st pend fid A ps assign body hb
        split at h
        · rename_i hlen
          have hlen := Nat.eq_of_beq_eq_true hlen
          have hd1 := gxC_rel (X := ⟨cfg, some b, nestN P cfg true d, true⟩) hm ih rfl assign p g _ _ h hr
          intro gh w vs k1 sz hi hl hk
          obtain ⟨k0, tmps0, dk0, fn0, q1, q2, q3⟩ := hi.good b _ hb
          rw [hk] at q1
          simp only [Option.some.injEq, Prod.mk.injEq] at q1
          obtain ⟨rfl, rfl⟩ := q1
          have hvs := (RL_get _ _ hl).1
          refine ⟨_, q2, by grind, ?_⟩
          rw [roundTmps_eq _ ps vs rfl]
          have hsim : Sim gh ⟨setAll A ps args, H, []⟩ { tmps := (ps.zip vs.toList).foldl (fun (tmps : Array Value) (p : Tmp × Value) => tmps.setIfInBounds p.1 p.2) tmps0, defers := [] } w :=
            ⟨hi, setAll_RL ps args A _ tmps0 q3 hl, rfl⟩
          refine roundIn_of_wpIn trivial ?_
          refine hd1 (some k1) gh w hi ⟨0, hk⟩ _ gh _ w hsim (Later.refl _ _ _) ?_
          rintro oo ss ⟨g1, h1, hr1⟩
          cases oo with
          | exit id => exact h1.elim
          | ret => exact h1.elim
          | pan v => exact h1.elim
          | normal =>
            simp only at h1
            split at h1
            · rename_i pend1 fid1 A1 ps1 as1 bd1 hb1
              rw [spineF_eq] at h1
              have hd2 := gxC_rel (X := ⟨cfg, some b, nestN P cfg true d, true⟩) hm ih rfl body p g1 _ _ h1 hr1
              intro gg1 a1 w1 hs1 hla1
              have hk1 := hla1.ext.rho _ _ _ hk
              obtain ⟨k2, tmps1, dk1, fn1, u1, u2, u3⟩ := hs1.inv.good b _ hb1
              rw [hk1] at u1
              simp only [Option.some.injEq, Prod.mk.injEq] at u1
              obtain ⟨rfl, -⟩ := u1
              refine ⟨_, run_beginRound u2 rfl, ?_⟩
              obtain ⟨i2, l2⟩ := hs1.inv.put (y := .loop .busy pend1 fid1 A1 ps1 as1 bd1)
                (ob := .loop { state := .busy, pending := pend1, fn := fn1, tmps := tmps1, params := ps1.toArray, assign := as1, body := bd1, defers := dk1 }) hb1 rfl hk1 rfl (shape?_loop u2)
                fun hext => ⟨_, tmps1, dk1, fn1, hk1, World.putObj_heap_same (Array.getElem?_eq_some_iff.1 u2).1, RL_mono hext _ _ u3⟩
              have hsim2 : Sim gg1 { ss with H := ss.H.set b (.loop .busy pend1 fid1 A1 ps1 as1 bd1) } a1 (w1.putObj k1 (.loop { state := .busy, pending := pend1, fn := fn1, tmps := tmps1, params := ps1.toArray, assign := as1, body := bd1, defers := dk1 })) :=
                ⟨i2, RL_mono l2.ext _ _ hs1.tmps, RD_mono l2.ext _ _ hs1.defs⟩
              refine hd2 (some k1) gh w hi ⟨0, hk⟩ _ gg1 a1 _ hsim2 (hla1.trans l2) ?_
              rintro oo2 ss2 ⟨g2, h2, hr2⟩
              unfold endB at h2
              split at h2
              · rename_i j hj
                split at h2
                · rename_i ts g3
                  obtain ⟨hok, hr2⟩ := hr2
                  obtain ⟨s3, hw, h2⟩ := tidyC_inv hok h2
                  split at h2
                  · rename_i H2 hmk
                    refine OutPost.weak hi hw ?_
                    have hend : ∀ g' a' w', Sim g' s3 a' w' → Later gh H w g' s3.H w' →
                        ∃ v w'', (Instr.endRound k1 j).run P w' = .ok v w'' ∧ ∃ a H1, (∃ g', k g' a H1 ∧ g'.can n p) ∧ Comes1 gh H w a H1 (.returned v) w'' := by
                      intro g' a' w' hs' hla'
                      obtain ⟨rr, e1, e2, e3⟩ := marked_sound hs'.inv (hla'.ext.rho _ _ _ hk) hmk
                      exact ⟨_, _, run_endRound j e1, _, _, ⟨g3, h2, hr2⟩, g', e2, hla'.trans e3, _, rfl, by simp [R]⟩
                    cases oo2 with
                    | normal =>
                      simp only [jumpOf, Option.some.injEq] at hj
                      subst hj
                      exact fun g' a' w' h1 h2 => hend g' a' w' h1 h2
                    | ret =>
                      simp only [jumpOf, Option.some.injEq] at hj
                      subst hj
                      exact fun g' a' w' h1 h2 => hend g' a' w' h1 h2
                    | exit id =>
                      simp only [jumpOf, Option.some.injEq] at hj
                      subst hj
                      exact fun g' a' w' h1 h2 => hend g' a' w' h1 h2
                    | pan v => cases hj
                  · exact h2.elim
                · exact hr2.elim
                · exact nomatch h2
              · exact h2.elim
            · exact h1.elim
        · exact h.elim
      · exact h.elim
    · intro σ sh n ro H0 b g E s Y p h hr
      obtain ⟨h⟩ := h
      exact gxC_rel (X := ⟨cfg, ro, nestN P cfg true d, true⟩) hm ih rfl b p g s _ h hr


/-! ### Contracts -/

def fnCX {ρ : Type} (P : Program) [Globs] (cfg : Cfg) (L : Nat) (f : FuncId) (args : List AVal) (out : ρ → ARes) (g : G P ρ) : Prop :=
  match P.funcs[f]? with
  | some fn => match fn.body with
    | some c => gxC P (envN P cfg) [] c g ⟨frameA fn.ntmps args, [], []⟩ fun g o s => endC P cfg L fn out g o s
    | none => False
  | none => False

theorem endC_can {n L : Nat} {ρ : Type} {fn : Func} {out : ρ → ARes} {g : G P ρ} {o : AOut} {s : St} {p : ρ → Prop} (h : endC P cfg L fn out g o s) (hr : g.can n p) : ∃ s' r, p r ∧ Weak [] s s' ∧ landO P cfg L fn o s' = some (out r) := by
  unfold endC at h
  split at h
  · rename_i ts r
    obtain ⟨hok, hp⟩ := hr
    grind [tidyC_inv]
  · exact hr.elim
  · exact nomatch h

theorem fnCX_sound (hm : P.follows .mixedOrders = true) (hN : ∀ (f : FuncId) (fn : Func), P.funcs[f]? = some fn → fn.name ≠ "runtime.NumGoroutine") {L : Nat} {f : FuncId} {args : List AVal} {ρ : Type} {out : ρ → ARes} {g : G P ρ}
    (h : fnCX P cfg L f args out g) {n : Nat} {a : ARes} (hr : g.can n fun x => out x = a) : FnVal P f args a := by
  unfold fnCX at h
  split at h
  · rename_i fn hf
    split at h
    · rename_i c hb
      refine ⟨⟨fn, c, hf, hb, hN f fn hf⟩, fun gh w vs hi hl => callsIn_wide.1 (callsIn_of_wp_marks (F := Fr none) (n := 0) hf hb trivial ?_)⟩
      have hsim : Sim gh ⟨frameA fn.ntmps args, [], []⟩ { tmps := vs ++ Array.replicate (fn.ntmps - vs.size) undef, defers := [] } w := ⟨hi, frame_RL hl _, rfl⟩
      have hd := gxC_rel (X := envN P cfg) hm (nestN_rel hm hN 9) rfl c _ g _ _ h hr
      refine hd none gh w hi trivial _ gh _ w hsim (Later.refl _ _ _) ?_
      rintro o1 s1 ⟨g', h', hr'⟩
      obtain ⟨s', r', rfl, hwk, hlo⟩ := endC_can h' hr'
      refine OutPost.weak hi hwk ?_
      have key : ∀ (m : Option AVal) (u : FrameMode), landA P cfg L fn m s' = some (out r') → ∀ g' a' w', Sim g' s' a' w' → Later gh [] w g' s'.H w' → ModeOk g' w' m u →
          LeavesInM (Fr none) 0 P fn a'.tmps (Comes1 gh [] w (out r') []) a'.defers u w' := by
        intro m u hla g' a' w' hs' hlat hmo
        obtain ⟨m', H', rr, H1, h1, h2, h3⟩ := landA_inv hla
        refine leavesInM_mono ?_ (leave_sound hm hN orc0_ok s'.D a'.defers m u s'.H g' w' m' H' hs'.defs hs'.inv hs'.tmps hmo h1 h2 hlat)
        rintro e w2 ⟨g2, hi2, hla2, he2⟩
        exact land_sound hi hi2 hla2 h3 he2
      cases o1 with
      | normal => exact fun g' a' w' hs' hlat => key none .returning hlo g' a' w' hs' hlat rfl
      | ret => exact fun g' a' w' hs' hlat => key none .returning hlo g' a' w' hs' hlat rfl
      | exit id => simp [landO] at hlo
      | pan v => exact fun g' a' w' x hv hs' hlat hrx => key (some v) (.panicking [{ v := x, recovered := false }]) hlo g' a' w' hs' hlat ⟨hv, x, rfl, hrx⟩
    · exact h.elim
  · exact h.elim

/-- The guide of a function that goes through maps, and that the kernel has checked. -/
structure CtrN (P : Program) [Globs] : Type 1 where
  f : FuncId
  X : Type
  args : X → List AVal
  sh : Sh
  out : sh.El → ARes
  g : X → G P sh.El
  ok : ∀ n x a, (g x).can n (fun y => out y = a) → FnVal P f (args x) a

def CtrN.of [hp : Plain P] (cfg : Cfg) (L : Nat) (f : FuncId) (X : Type) (args : X → List AVal) (sh : Sh) (out : sh.El → ARes) (g : X → G P sh.El) (h : ∀ x, fnCX P cfg L f (args x) out (g x) = (g x).claims (leafF out)) : CtrN P where
  f := f
  X := X
  args := args
  sh := sh
  out := out
  g := g
  ok := fun n x a hr => fnCX_sound hp.mixed hp.names (n := n) (by rw [h x]; exact G.claims_hold (fun _ => rfl) (g x)) hr

/-- Whatever the order, it computes 'S'. -/
def CtrN.all (c : CtrN P) (S : Nat → c.X → Option c.sh.El) (h : ∀ n x r, S n x = some r → ∃ m, (c.g x).can m fun y => c.out y = c.out r) : Ctr P where
  f := c.f
  X := c.X
  args := c.args
  sh := c.sh
  out := c.out
  S := S
  ok := fun n x r hr => let ⟨m, hm⟩ := h n x r hr; c.ok m x (c.out r) hm

end
end Go.AM
