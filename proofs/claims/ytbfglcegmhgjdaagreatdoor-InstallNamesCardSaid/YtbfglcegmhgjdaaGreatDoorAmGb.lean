/- Guides are sound: where the walk holds, the code does what the guide computes. No program. -/
import Derived.Test.YtbfglcegmhgjdaaGreatDoorAmGm
namespace Go.AM

section
set_option linter.unusedSectionVars false
variable [Globs] {P : Program} {cfg : Cfg} {X : Env P}

theorem orc0_ok : OrcOk P orc0 := ⟨fun _ _ _ _ _ h => by simp [orc0] at h, fun _ _ _ _ _ h => by simp [orc0] at h⟩

open Classical in
/-- One call with memory alone. -/
noncomputable def oneRef (f : FuncId) (args : List AVal) (H : List ABlk) (r : ARes) (H1 : List ABlk) : Orc :=
  ⟨fun f' args' H' => if f' = f ∧ args' = args ∧ H' = H then some (r, H1) else none, fun _ _ _ => none⟩

theorem oneRef_ok {f : FuncId} {args : List AVal} {H H1 : List ABlk} {r : ARes} (h : FnRef P f args H r H1) : OrcOk P (oneRef f args H r H1) := by
  refine ⟨fun f' args' H' r' H1' hr => ?_, fun _ _ _ _ _ h => by simp [oneRef] at h⟩
  simp only [oneRef] at hr
  split at hr
  · rename_i hc
    obtain ⟨rfl, rfl, rfl⟩ := hc
    simp only [Option.some.injEq, Prod.mk.injEq] at hr
    obtain ⟨rfl, rfl⟩ := hr
    exact h
  · cases hr

open Classical in
/-- One call alone. -/
noncomputable def oneCall (f : FuncId) (args : List AVal) (r : ARes) : Orc :=
  ⟨fun f' args' H => if f' = f ∧ args' = args ∧ H = [] then some (r, []) else none, fun _ _ _ => none⟩

theorem oneCall_ok {f : FuncId} {args : List AVal} {r : ARes} (h : FnVal P f args r) : OrcOk P (oneCall f args r) := by
  refine ⟨fun f' args' H r' H1 hr => ?_, fun _ _ _ _ _ h => by simp [oneCall] at h⟩
  simp only [oneCall] at hr
  split at hr
  · rename_i hc
    obtain ⟨rfl, rfl, rfl⟩ := hc
    simp only [Option.some.injEq, Prod.mk.injEq] at hr
    obtain ⟨rfl, rfl⟩ := hr
    exact h
  · cases hr

/-- A round ends so. -/
def RndOk (P : Program) [Globs] (b : Nat) (args : List AVal) (H : List ABlk) (r : ARes) (H1 : List ABlk) : Prop :=
  ∀ g w (vs : Array Value) k sz, Inv g H w → RL g w args vs.toList → g.rho b 0 = some (k, sz) →
    ∃ rec, w.heap[k]? = some (.loop rec) ∧ vs.size = rec.params.size ∧ RoundIn Fence.wide 0 P k rec.fn (roundTmps rec vs) rec.assign rec.body w (Comes1 g H w r H1)

open Classical in
/-- One round alone. -/
noncomputable def oneRnd (b : Nat) (args : List AVal) (H : List ABlk) (r : ARes) (H1 : List ABlk) : Orc :=
  ⟨fun _ _ _ => none, fun b' args' H' => if b' = b ∧ args' = args ∧ H' = H then some (r, H1) else none⟩

theorem oneRnd_ok {b : Nat} {args : List AVal} {H H1 : List ABlk} {r : ARes} (h : RndOk P b args H r H1) : OrcOk P (oneRnd b args H r H1) := by
  refine ⟨fun _ _ _ _ _ h => by simp [oneRnd] at h, fun b' args' H' r' H1' hr => ?_⟩
  simp only [oneRnd] at hr
  split at hr
  · rename_i hc
    obtain ⟨rfl, rfl, rfl⟩ := hc
    simp only [Option.some.injEq, Prod.mk.injEq] at hr
    obtain ⟨rfl, rfl⟩ := hr
    exact h
  · cases hr

theorem RndOk.wk {b : Nat} {args : List AVal} {H H1 : List ABlk} {r : ARes} (h : RndOk P b (wkL args) H r H1) : RndOk P b args H r H1 :=
  fun g w vs k sz hi hl hk => h g w vs k sz hi (RL_wkL _ _ hl) hk

/-- Where a call or a round is walked through in its place, it ends as the walk says. -/
structure NestOk (P : Program) [Globs] (N : Nest P) : Prop where
  fn : ∀ {ρ : Type} {n : Nat} {f : FuncId} {args : List AVal} {H : List ABlk} {g : G P ρ} {k : G P ρ → ARes → List ABlk → Prop} {r : ρ}, N.fn f args H g k → g.run n = some r →
    ∃ g' a H1, k g' a H1 ∧ g'.run n = some r ∧ FnRef P f args H a H1
  rnd : ∀ {ρ : Type} {n : Nat} {b : Nat} {args : List AVal} {H : List ABlk} {g : G P ρ} {k : G P ρ → ARes → List ABlk → Prop} {r : ρ}, N.rnd b args H g k → g.run n = some r →
    ∃ g' a H1, k g' a H1 ∧ g'.run n = some r ∧ RndOk P b args H a H1
  lp : ∀ {σ : Type} {sh : Sh} {n : Nat} {ro : Option Nat} {H0 : List ABlk} {b : Code} {g : G P (σ ⊕ sh.El)} {E : σ → St} {s : St} {Y : sh.El → AOut × St} {q : σ ⊕ sh.El}, N.lp ro H0 b g E s Y → g.run n = some q →
    ∃ (g' : G P (σ ⊕ sh.El)) (o : AOut) (s' : St), roundC H0 E Y g' o s' ∧ g'.run n = some q ∧ ∀ fro g0 w0, Inv g0 H0 w0 → RoOk g0 ro fro → Does P fro g0 H0 w0 b s fun o1 s1 => o1 = o ∧ s1 = s'

variable {ops : Array Oper} {n0 nid : Nat} {o : Oper} {s : St}

theorem stepOp_congr {orc orc' : Orc} (h : wantedA ops s.A o = some true → ∀ pre, (opPre P cfg nid (evalA s.A) o.op).run s.H = some pre → finish orc s.H pre = finish orc' s.H pre) :
    stepOp P cfg orc ops n0 o nid s = stepOp P cfg orc' ops n0 o nid s := by
  grind [stepOp]

theorem tick_sound {n : Nat} {ρ : Type} {r : ρ} : ∀ {g : G P ρ} {s : St} {k : G P ρ → St → Prop}, tickC g s k → g.run n = some r → ∃ g', k g' s ∧ g'.run n = some r
  | .br d c t f, s, k, h, hr => by
    simp only [tickC, setF_eq] at h
    obtain ⟨hd, h1, h2⟩ := h
    have hset : s.A.set d (.sc (.bool c)) = s.A := by
      apply List.ext_getElem?
      intro j
      by_cases hj : d = j
      · grind
      · rw [List.getElem?_set_ne hj]
    cases c with
    | true =>
      rw [hset] at h1
      simp only [G.run, if_true] at hr
      exact tick_sound h1 hr
    | false =>
      rw [hset] at h2
      simp only [G.run, Bool.false_eq_true, if_false] at hr
      exact tick_sound h2 hr
  | .eqi d ik x c t f, s, k, h, hr => by
    simp only [tickC, setF_eq] at h
    obtain ⟨hd, h1, h2⟩ := h
    by_cases hx : x = c
    · subst hx
      have hset : s.A.set d (.sc (.int ik x)) = s.A := by
        apply List.ext_getElem?
        intro j
        by_cases hj : d = j
        · grind
        · rw [List.getElem?_set_ne hj]
      rw [hset] at h1
      simp only [G.run, if_true] at hr
      exact tick_sound h1 hr
    · simp only [G.run, hx, if_false] at hr
      exact tick_sound h2 hr
  | .sp c t f, s, k, h, hr => by
    simp only [tickC] at h
    cases c with
    | true =>
      simp only [G.run, if_true] at hr
      exact tick_sound h.1 hr
    | false =>
      simp only [G.run, Bool.false_eq_true, if_false] at hr
      exact tick_sound h.2 hr
  | .fail, s, k, h, hr => by simp [G.run] at hr
  | .stop, s, k, h, hr => by simp [G.run] at hr
  | .done .., s, k, h, hr => ⟨_, h, hr⟩
  | .skip .., s, k, h, hr => ⟨_, h, hr⟩
  | .op .., s, k, h, hr => ⟨_, h, hr⟩
  | .call .., s, k, h, hr => ⟨_, h, hr⟩
  | .callR .., s, k, h, hr => ⟨_, h, hr⟩
  | .callS .., s, k, h, hr => ⟨_, h, hr⟩
  | .call1 .., s, k, h, hr => ⟨_, h, hr⟩
  | .tidy .., s, k, h, hr => ⟨_, h, hr⟩
  | .loop .., s, k, h, hr => ⟨_, h, hr⟩
  | .loopS .., s, k, h, hr => ⟨_, h, hr⟩
  | .unroll .., s, k, h, hr => ⟨_, h, hr⟩
  | .shutG .., s, k, h, hr => ⟨_, h, hr⟩
  | .join .., s, k, h, hr => ⟨_, h, hr⟩
  | .inl .., s, k, h, hr => ⟨_, h, hr⟩

theorem callOf_some {x : Option Pre} {f : FuncId} {args : List AVal} (h : callOf x = some (f, args)) : ∃ args' own, x = some (.byVal f args' own) ∧ wkL args' = args := by
  unfold callOf at h
  grind

theorem FnVal.wk {f : FuncId} {args : List AVal} {r : ARes} (h : FnVal P f (wkL args) r) : FnVal P f args r :=
  ⟨h.1, fun g w vs hi hl => h.2 g w vs hi (RL_wkL _ _ hl)⟩

theorem refOf_some {H : List ABlk} {x : Option Pre} {f : FuncId} {args : List AVal} {H1 : List ABlk} (h : refOf H x = some (f, args, H1)) : ∃ args' ids, x = some (.byRef f args' ids) ∧ wkL args' = args ∧ mask ids H = H1 := by
  unfold refOf at h
  grind

theorem closure_pure {ids : List Nat} {H : List ABlk} (hp : ∀ i, ids.contains i = true → ∃ x, H[i]? = some x ∧ prBlk x = true) :
    ∀ (n : Nat) (l seen : List Nat), onlyB ids l = true → l.length ≤ n → (closure n l seen).run H = some (closP l seen) ∧ (closure n l seen).reads H = fstVisit l seen
  | _, [], _, _, _ => by simp [closure, Rd.run, Rd.reads, closP, fstVisit]
  | 0, _ :: _, _, _, h => by simp at h
  | n + 1, c :: cs, seen, h, hl => by
    simp only [onlyB, Bool.and_eq_true] at h
    simp only [List.length_cons] at hl
    simp only [closure, closP, fstVisit]
    cases hc : seen.contains c with
    | true =>
      simp only [if_true]
      exact closure_pure hp n cs seen h.2 (by omega)
    | false =>
      obtain ⟨x, hb, hpb⟩ := hp c h.1
      obtain ⟨q1, q2⟩ := closure_pure hp n cs (c :: seen) h.2 (by omega)
      grind [prBlk_inv, Rd.run, Rd.reads]

theorem closP_sub {ids : List Nat} : ∀ (l seen : List Nat), onlyB ids l = true → (∀ i ∈ seen, ids.contains i = true) → ∀ i ∈ closP l seen, ids.contains i = true
  | [], _, _, hs, i, hi => hs i hi
  | c :: cs, seen, h, hs, i, hi => by
    simp only [onlyB, Bool.and_eq_true] at h
    simp only [closP] at hi
    cases hc : seen.contains c with
    | true => rw [hc] at hi; exact closP_sub cs seen h.2 hs i hi
    | false =>
      rw [hc] at hi
      refine closP_sub cs (c :: seen) h.2 (fun j hj => ?_) i hi
      grind

theorem run_bind_done {α β : Type} {H : List ABlk} : ∀ {m : Rd α} {f : α → β} {x : α}, m.run H = some x → (m.bind fun y => .done (f y)).run H = some (f x) ∧ (m.bind fun y => .done (f y)).reads H = m.reads H
  | .done a, f, x, h => by grind [Rd.run, Rd.bind, Rd.reads]
  | .get b k, f, x, h => by
    simp only [Rd.run] at h
    split at h
    · rename_i y hy
      have := run_bind_done (f := f) h
      simp [Rd.bind, Rd.run, Rd.reads, hy, this]
    · cases h

theorem call1Of_some {ids : List Nat} {rho : Operand → AVal} {op : Op} {nid : Nat} {H : List ABlk} {f : FuncId} {args : List AVal} {js rs : List Nat} (h : call1Of P cfg ids rho op = some (f, args, js, rs))
    (hp : ∀ i, ids.contains i = true → ∃ x, H[i]? = some x ∧ prBlk x = true) :
    (opPre P cfg nid rho op).run H = some (.byRef f args js) ∧ (opPre P cfg nid rho op).reads H = rs ∧ ∀ i ∈ js, ids.contains i = true := by
  unfold call1Of at h
  split at h
  · rename_i g _ _ _
    split at h
    · rename_i n p q hg
      split at h
      · rename_i fn hfn
        split at h
        · rename_i hc
          simp only [Bool.or_eq_false_iff] at hc
          dsimp only at h
          split at h
          · rename_i ho
            simp only [Option.some.injEq, Prod.mk.injEq] at h
            simp only [Bool.and_eq_true] at ho
            have ho2 := Nat.le_of_ble_eq_true ho.2
            obtain ⟨rfl, rfl, rfl, rfl⟩ := h
            obtain ⟨q1, q2⟩ := closure_pure hp 1000 _ [] ho.1 (by omega)
            simp only [opPre, hg, hfn, hc.1.1, Bool.false_eq_true, if_false, callPre, hc.1.2, hc.2, Bool.false_and]
            exact ⟨(run_bind_done q1).1, (run_bind_done q1).2.trans q2, closP_sub _ [] ho.1 (by simp)⟩
          · cases h
        · cases h
      · cases h
    · cases h
  · cases h

theorem ref1_some {H : List ABlk} {b : Nat} {x : Option (FuncId × List AVal × List Nat × List Nat)} {f : FuncId} {args : List AVal} {y : Option ABlk} (h : ref1 H b x = some (f, args, y)) : ∃ args' ids rs, x = some (f, args', ids, rs) ∧ AVal.butL b (wkL args') = args ∧ H[b]? = y ∧ ids.contains b = true := by
  unfold ref1 at h
  grind

theorem prC_ok : ∀ {l : List PR} {H : List ABlk}, prC l H → ∀ i, (l.map (·.b)).contains i = true → ∃ x, H[i]? = some x ∧ prBlk x = true
  | [], _, _, i, h => by simp at h
  | p :: ps, H, hc, i, h => by
    simp only [List.map_cons, List.contains_cons, Bool.or_eq_true, beq_iff_eq] at h
    rcases h with rfl | h
    · exact ⟨_, hc.1, p.pf⟩
    · exact prC_ok hc.2 i h

theorem FnRef.wk {f : FuncId} {args : List AVal} {H H1 : List ABlk} {r : ARes} (h : FnRef P f (wkL args) H r H1) : FnRef P f args H r H1 :=
  ⟨h.1, fun g w vs hi hl => h.2 g w vs hi (RL_wkL _ _ hl)⟩

theorem closX_ok {pr : List Nat} {H : List ABlk} (hp : ∀ i, pr.contains i = true → ∃ x, H[i]? = some x ∧ prBlk x = true) :
    ∀ (n : Nat) (l seen ids rs : List Nat), closX pr H n l seen = some (ids, rs) → (closure n l seen).run H = some ids ∧ (closure n l seen).reads H = rs
  | _, [], seen, ids, rs, h => by
    grind [closX, closure, Rd.run, Rd.reads]
  | 0, _ :: _, _, _, _, h => by simp [closX] at h
  | n + 1, b :: todo, seen, ids, rs, h => by
    simp only [closX] at h
    simp only [closure]
    cases hc : seen.contains b with
    | true =>
      rw [hc] at h
      simp only [if_true]
      exact closX_ok hp n todo seen ids rs h
    | false =>
      rw [hc] at h
      simp only [Bool.false_eq_true, if_false]
      cases hpr : pr.contains b with
      | true =>
        rw [hpr] at h
        simp only [Option.map_eq_some_iff, Prod.exists, Prod.mk.injEq] at h
        obtain ⟨ids', rs', h, rfl, rfl⟩ := h
        obtain ⟨x, hb, hpb⟩ := hp b hpr
        obtain ⟨q1, q2⟩ := closX_ok hp n todo (b :: seen) _ _ h
        grind [prBlk_inv, Rd.run, Rd.reads]
      | false =>
        rw [hpr] at h
        simp only at h
        split at h
        · rename_i v sz rows hb
          simp only [Option.map_eq_some_iff, Prod.exists, Prod.mk.injEq] at h
          obtain ⟨ids', rs', h, rfl, rfl⟩ := h
          obtain ⟨q1, q2⟩ := closX_ok hp n _ (b :: seen) _ _ h
          grind [Rd.run, Rd.reads]
        · rename_i hb
          simp only [Option.map_eq_some_iff, Prod.exists, Prod.mk.injEq] at h
          obtain ⟨ids', rs', h, rfl, rfl⟩ := h
          obtain ⟨q1, q2⟩ := closX_ok hp n _ (b :: seen) _ _ h
          grind [Rd.run, Rd.reads]
        · rename_i hb
          simp only [Option.map_eq_some_iff, Prod.exists, Prod.mk.injEq] at h
          obtain ⟨ids', rs', h, rfl, rfl⟩ := h
          obtain ⟨q1, q2⟩ := closX_ok hp n _ (b :: seen) _ _ h
          grind [Rd.run, Rd.reads]
        · rename_i hb
          simp only [Option.map_eq_some_iff, Prod.exists, Prod.mk.injEq] at h
          obtain ⟨ids', rs', h, rfl, rfl⟩ := h
          obtain ⟨q1, q2⟩ := closX_ok hp n _ (b :: seen) _ _ h
          grind [Rd.run, Rd.reads]
        · rename_i x hx hl hit hmp hb
          simp only [Option.map_eq_some_iff, Prod.exists, Prod.mk.injEq] at h
          obtain ⟨ids', rs', h, rfl, rfl⟩ := h
          obtain ⟨q1, q2⟩ := closX_ok hp n _ (b :: seen) _ _ h
          grind [Rd.run, Rd.reads]
        · cases h

def preOfX : FuncId ⊕ Nat → List AVal → List Nat → Pre
  | .inl f, args, ids => .byRef f args ids
  | .inr b, args, ids => .round b args ids

theorem preX_ok {cfg : Cfg} {pr : List Nat} {rho : Operand → AVal} {op : Op} {H : List ABlk} {t : FuncId ⊕ Nat} {args : List AVal} {ids rs : List Nat} (hp : ∀ i, pr.contains i = true → ∃ x, H[i]? = some x ∧ prBlk x = true)
    (h : preX P cfg pr rho op H = some (t, args, ids, rs)) : (opPre P cfg nid rho op).run H = some (preOfX t args ids) ∧ (opPre P cfg nid rho op).reads H = rs := by
  unfold preX at h
  split at h
  · rename_i g _ _ _
    split at h
    · rename_i n p q hg
      split at h
      · rename_i fn hfn
        split at h
        · rename_i hc
          simp only [Bool.or_eq_false_iff] at hc
          split at h
          · rename_i ids' rs' hcl
            simp only [Option.some.injEq, Prod.mk.injEq] at h
            obtain ⟨rfl, rfl, rfl, rfl⟩ := h
            obtain ⟨q1, q2⟩ := closX_ok hp _ _ _ _ _ hcl
            simp only [opPre, hg, hfn, hc.1.1, Bool.false_eq_true, if_false, callPre, hc.1.2, hc.2, Bool.false_and]
            exact ⟨(run_bind_done q1).1, (run_bind_done q1).2.trans q2⟩
          · cases h
        · cases h
      · cases h
    · rename_i b hg
      split at h
      · rename_i ids' rs' hcl
        simp only [Option.some.injEq, Prod.mk.injEq] at h
        obtain ⟨rfl, rfl, rfl, rfl⟩ := h
        obtain ⟨q1, q2⟩ := closX_ok hp _ _ _ _ _ hcl
        simp only [opPre, hg]
        exact ⟨(run_bind_done q1).1, (run_bind_done q1).2.trans q2⟩
      · cases h
    · cases h
  · cases h

theorem finC_inv {ids : List Nat} {H H1 : List ABlk} {a : ARes} {k : Eff → List Nat → Bool → Prop} {kp : AVal → Prop} (h : finC ids H a H1 k kp) :
    (∃ e, mergeFin H ids (some (a, H1)) = some (.ok e) ∧ k e (e.upd.map (·.1)) (!e.news.isEmpty)) ∨ (∃ v, mergeFin H ids (some (a, H1)) = some (.pan v ids) ∧ kp v) := by
  unfold finC at h
  split at h
  · rename_i v
    split at h
    · rename_i hl
      have hl := Nat.eq_of_beq_eq_true hl
      refine .inl ⟨{ val := v, upd := ids.map fun i => (i, H1.getD i .dead) }, ?_, ?_⟩
      · grind [mergeFin]
      · simpa [List.map_map, Function.comp_def] using h
    grind [effF_eq]
  grind [mergeFin]

mutual
theorem AVal.flat_pure : ∀ (u : AVal), u.flat = true → u.pure = true
  | .sc _, _ => rfl
  | .agg cs, h => AVal.flat_pureL cs h
  | .tup cs, h => AVal.flat_pureL cs h
  | .fn _ a b, h => by
    simp only [AVal.flat, Bool.and_eq_true] at h
    simp only [AVal.pure, AVal.flat_pureL a h.1, AVal.flat_pureL b h.2, Bool.and_self]
  | .ifc _ v, h => AVal.flat_pure v h
  | .glob _ _, _ => rfl
  | .emp, _ => rfl
  | .nz _, _ => rfl
  | .junk, _ => rfl
theorem AVal.flat_pureL : ∀ (l : List AVal), AVal.flatL l = true → AVal.pureL l = true
  | [], _ => rfl
  | a :: l, h => by
    simp only [AVal.flatL, Bool.and_eq_true] at h
    simp only [AVal.pureL, AVal.flat_pure a h.1, AVal.flat_pureL l h.2, Bool.and_self]
end

theorem run_bindS {α β : Type} (H : List ABlk) : ∀ (r : Rd α) (k : α → Rd β), (r.bind k).run H = (r.run H).bind fun x => (k x).run H
  | .fail, _ => rfl
  | .done _, _ => rfl
  | .get b f, k => by
    simp only [Rd.bind, Rd.run]
    cases H[b]? with
    | none => rfl
    | some x => exact run_bindS H (f x) k
theorem reads_bindS {α β : Type} (H : List ABlk) : ∀ (r : Rd α) (k : α → Rd β) (a : α), r.run H = some a → (r.bind k).reads H = r.reads H ++ (k a).reads H
  | .fail, _, _, h => by cases h
  | .done _, _, _, h => by obtain rfl := Option.some.inj h; rfl
  | .get b f, k, a, h => by
    simp only [Rd.bind, Rd.reads, Rd.run] at h ⊢
    cases hb : H[b]? with
    | none => rw [hb] at h; cases h
    | some x => rw [hb] at h; simp only [reads_bindS H (f x) k a h, List.cons_append]

theorem snCall_some {rho : Operand → AVal} {op : Op} {f : FuncId} {ain : List AVal} {nid : Nat} {H : List ABlk} {aout : List AVal} {rs : List Nat} (h : snCall P cfg rho op = some (f, ain))
    (h1 : (mapRd (snap snapFuel) ain).run H = some aout) (h2 : (mapRd (snap snapFuel) ain).reads H = rs) :
    (opPre P cfg nid rho op).run H = some (.byVal f aout (AVal.pureL ain)) ∧ (opPre P cfg nid rho op).reads H = rs := by
  unfold snCall at h
  split at h
  · rename_i g args _
    split at h
    · rename_i n p q hf
      split at h
      · rename_i fn hfn
        split at h
        · rename_i hb
          simp only [Option.some.injEq, Prod.mk.injEq] at h
          obtain ⟨rfl, rfl⟩ := h
          simp only [Bool.or_eq_false_iff, Bool.not_eq_false'] at hb
          simp only [opPre, hf, hfn, hb.1.1, Bool.false_eq_true, if_false, callPre, hb.1.2, hb.2, Bool.not_false, Bool.or_true, Bool.and_self, if_true]
          exact ⟨by rw [run_bindS, h1]; rfl, by rw [reads_bindS H _ _ _ h1, h2]; simp [Rd.reads]⟩
        · cases h
      · cases h
    · cases h
  · cases h

theorem stepC1_sound (hNe : NestOk P X.N) {n : Nat} {ρ : Type} {r : ρ} {g : G P ρ} {draw : Bool} {H0 : List ABlk} {k : G P ρ → OpRes → Foot → Prop} (h : stepC1 P X draw H0 ops n0 o nid g s k) (hr : g.run n = some r) :
    ∃ orc, OrcOk P orc ∧ ∃ res f g', stepOp P X.cfg orc ops n0 o nid s = some (res, f) ∧ k g' res f ∧ g'.run n = some r := by
  unfold stepC1 at h
  split at h
  · rename_i m g'
    split at h
    · rename_i res f hs
      exact ⟨orc0, orc0_ok, res, f, _, hs, h, by rw [G.less_run]; simpa [G.run] using hr⟩
    · exact nomatch h
  · rename_i X t kk
    obtain ⟨hw, hc, hk⟩ := h
    simp only [G.run] at hr
    cases hx : t.run with
    | none => rw [hx] at hr; cases hr
    | some x =>
      rw [hx] at hr
      obtain ⟨h1, h2⟩ := t.sound _ _ _ _ _ _ _ hc x hx
      have hk := hk x
      simp only [effF_eq, putF_eq, applyF_eq] at hk
      refine ⟨orc0, orc0_ok, _, _, kk x, ?_, hk, by simpa using hr⟩
      grind [stepOp, finish, effF_eq, putF_eq, applyF_eq]
  · rename_i c x kk
    obtain ⟨hw, hc, hk⟩ := h
    simp only [G.run] at hr
    cases hx : c.S n x with
    | none => rw [hx] at hr; cases hr
    | some q =>
      rw [hx] at hr
      have hk := (c.sh.all_iff _).1 hk q
      obtain ⟨args', own, hp, he⟩ := callOf_some hc
      split at hk
      · rename_i res f hs
        refine ⟨oneCall c.f args' (c.out q), oneCall_ok (FnVal.wk (by rw [he]; exact c.ok n x q hx)), res, f, kk q, ?_, hk, by simpa using hr⟩
        rw [← hs]
        refine stepOp_congr fun _ pre hpre => ?_
        rw [hp] at hpre
        simp only [Option.some.injEq] at hpre
        subst hpre
        simp [finish, avsF_eq, oneCall, orcC]
      · exact nomatch hk
  · rename_i z c x kk
    obtain ⟨hw, hz, hc, ha, hk⟩ := h
    simp only [G.run] at hr
    cases hx : c.S n x with
    | none => rw [hx] at hr; cases hr
    | some q =>
      rw [hx] at hr
      have hk := (c.sh.all_iff _).1 hk q
      obtain ⟨z1, z2⟩ := z.pf _ hz
      obtain ⟨hp, hrd⟩ := snCall_some (nid := nid) hc z1 z2
      have ha := Option.some.inj ha
      have horc := oneCall_ok (P := P) (FnVal.wk (args := z.aout) (by rw [ha]; exact c.ok n x q hx))
      split at hk
      · rename_i u hu
        split at hk
        · rename_i hfl
          simp only [putF_eq] at hk
          refine ⟨_, horc, _, _, kk q, ?_, hk, by simpa using hr⟩
          have hsn : (snap snapFuel u).run [] = some u := by
            rw [show snapFuel = 8 + 1 from rfl]
            simp only [snap, AVal.flat_pure u hfl, if_true, Rd.run]
          unfold stepOp
          rw [hw]
          simp only [hp, hrd, finish, avsF_eq, oneCall, and_self, if_true, hu, hsn, hfl, Bool.or_true, effF_eq, putF_eq, applyF_eq, Eff.apply, List.foldl_nil, List.append_nil, List.map_nil, List.isEmpty_nil, Bool.not_true, footOf, byRefs]
          rfl
        · exact hk.elim
      · rename_i u hu
        split at hk
        · rename_i hfl
          refine ⟨_, horc, _, _, kk q, ?_, hk, by simpa using hr⟩
          unfold stepOp
          rw [hw]
          simp only [hp, hrd, finish, avsF_eq, oneCall, and_self, if_true, hu, hfl, List.foldl_nil, footOf, byRefs]
          rfl
        · exact hk.elim
  · rename_i c x kk
    obtain ⟨hw, hc, hk⟩ := h
    simp only [G.run] at hr
    cases hx : c.S n x with
    | none => rw [hx] at hr; cases hr
    | some q =>
      rw [hx] at hr
      have hk := (c.sh.all_iff _).1 hk q
      obtain ⟨args', ids, hp, he, hm⟩ := refOf_some hc
      split at hk
      · rename_i res f hs
        refine ⟨oneRef c.f args' (c.heap x) (c.out q) (c.outH x q), oneRef_ok (FnRef.wk (by rw [he]; exact c.ok n x q hx)), res, f, kk q, ?_, hk, by simpa using hr⟩
        rw [← hs]
        refine stepOp_congr fun _ pre hpre => ?_
        rw [hp] at hpre
        simp only [Option.some.injEq] at hpre
        subst hpre
        simp [finish, avsF_eq, headsF_eq, oneRef, orcC, hm]
      · exact nomatch hk
  · rename_i c b v ex x kk
    obtain ⟨hw, hex, hc, hk⟩ := h
    simp only [G.run] at hr
    cases hx : c.S n x with
    | none => rw [hx] at hr; cases hr
    | some q =>
      rw [hx] at hr
      have hk := (c.sh.all_iff _).1 hk q
      obtain ⟨args', ids, rs, hp, he, hb, hbi⟩ := ref1_some hc
      obtain ⟨bsz, brows, hbx, hbp⟩ := row0_inv (c.b0 x)
      have hpure : ∀ i, (b :: ex.map (·.b)).contains i = true → ∃ x, s.H[i]? = some x ∧ prBlk x = true := by
        intro i hi
        simp only [List.contains_cons, Bool.or_eq_true, beq_iff_eq] at hi
        rcases hi with rfl | hi
        · exact ⟨.row v bsz brows, by rw [hb, hbx]; rfl, hbp⟩
        · exact prC_ok hex i hi
      have hcall := hp
      obtain ⟨hp, hrd, hsub⟩ := call1Of_some (nid := nid) (H := s.H) hp hpure
      have hlt : ∀ i ∈ ids, i < s.H.length := fun i hi => by
        grind
      have hblt : b < s.H.length := (List.getElem?_eq_some_iff.1 hb).1
      let H' := mask ids s.H
      have hl' : H'.length = s.H.length := mask_length _ _
      have hmb : (mask [b] H')[b]? = some ((c.blk x).setVer v) := by rw [mask_in (by simp), mask_in hbi]; exact hb
      have hmd : ∀ b', b' ≠ b → ∀ y, (mask [b] H')[b']? = some y → y = .dead := by
        intro b' hne y hy
        rcases mask_get hy with ⟨h1, _⟩ | ⟨_, h2, _⟩
        · grind
        · exact h2
      have href := FnRef.frame (FnRef.moveE (c.ok n x q hx) (c.a0 x) (c.b0 x) (c.b1 x q) (c.r0 q) b v (mask [b] H') hmb hmd) (by omega)
      have horc := oneRef_ok (P := P) (FnRef.wk (args := args') (FnRef.but (b := b) (by rw [he]; exact href)))
      refine ⟨_, horc, ?_⟩
      have hlen : (H'.set b ((c.outB x q).setVer v)).length = s.H.length := by rw [List.length_set, mask_length]
      have hdrop : (H'.set b ((c.outB x q).setVer v)).drop s.H.length = [] := List.drop_of_length_le (by rw [hlen]; exact Nat.le_refl _)
      have hid : idsOf (call1Of P X.cfg (b :: ex.map (·.b)) (evalA s.A) o.op) = (ids, rs) := by rw [hcall]; rfl
      cases ho : c.out q with
      | ret u =>
        rw [ho] at hk
        simp only [putF_eq, applyF_eq, hid] at hk
        refine ⟨_, _, kk q, ?_, hk, by simpa using hr⟩
        have happ : ∀ val news, news = [] → Eff.apply { val := val, upd := ids.map fun i => (i, (H'.set b ((c.outB x q).setVer v)).getD i .dead), news := news } s.H = Eff.apply { val := u.at1 b v, upd := [(b, (c.outB x q).setVer v)] } s.H := by
          intro val news hn
          subst hn
          simp only [Eff.apply, List.append_nil, List.foldl_cons, List.foldl_nil, List.foldl_map]
          apply List.ext_getElem?
          intro j
          rw [fold_set, List.getElem?_set]
          by_cases hj : b = j
          · grind
          · grind [mask_in]
        unfold stepOp
        rw [hw]
        simp only [hp, hrd, finish, avsF_eq, headsF_eq, oneRef, and_self, if_true, ARes.at1, mergeFin, hlen, Nat.le_refl, hdrop, ite_self, effF_eq, putF_eq, applyF_eq, List.isEmpty_nil, Bool.not_true, H']
        simp only [footOf, byRefs]
        rw [happ _ _ rfl]
        simp_all
      | pan u =>
        rw [ho] at hk
        have hfl : u.flat = true := by have := c.r0 q; rw [ho] at this; exact this
        simp only [hid] at hk
        refine ⟨_, _, kk q, ?_, hk, by simpa using hr⟩
        unfold stepOp
        rw [hw]
        simp only [hp, hrd, finish, avsF_eq, headsF_eq, oneRef, and_self, if_true, ARes.at1, mergeFin, hfl, H']
        simp only [footOf, byRefs]
  · rename_i pr g'
    obtain ⟨hw, hpr, hc⟩ := h
    simp only [G.run] at hr
    have hpure := prC_ok hpr
    split at hc
    · rename_i f args ids rs hx
      obtain ⟨hp, hrd⟩ := preX_ok (nid := nid) hpure hx
      simp only [preOfX] at hp
      simp only [headsF_eq] at hc
      obtain ⟨g2, a, H1, hk, hr2, hfn⟩ := hNe.fn hc hr
      refine ⟨_, oneRef_ok hfn, ?_⟩
      rcases finC_inv hk with ⟨e, hm, hk⟩ | ⟨v, hm, hk⟩
      · simp only [putF_eq, applyF_eq] at hk
        refine ⟨_, _, g2, ?_, hk, hr2⟩
        unfold stepOp
        rw [hw]
        simp only [hp, hrd, finish, avsF_eq, headsF_eq, oneRef, and_self, if_true, hm, effF_eq, putF_eq, applyF_eq]
        simp only [footOf, byRefs]
      · refine ⟨_, _, g2, ?_, hk, hr2⟩
        unfold stepOp
        rw [hw]
        simp only [hp, hrd, finish, avsF_eq, headsF_eq, oneRef, and_self, if_true, hm]
        simp only [footOf, byRefs]
    · rename_i b args ids rs hx
      obtain ⟨hp, hrd⟩ := preX_ok (nid := nid) hpure hx
      simp only [preOfX] at hp
      simp only [headsF_eq] at hc
      obtain ⟨g2, a, H1, hk, hr2, hfn⟩ := hNe.rnd hc hr
      refine ⟨_, oneRnd_ok hfn, ?_⟩
      rcases finC_inv hk with ⟨e, hm, hk⟩ | ⟨v, hm, hk⟩
      · simp only [putF_eq, applyF_eq] at hk
        refine ⟨_, _, g2, ?_, hk, hr2⟩
        unfold stepOp
        rw [hw]
        simp only [hp, hrd, finish, avsF_eq, headsF_eq, oneRnd, and_self, if_true, hm, effF_eq, putF_eq, applyF_eq]
        simp only [footOf, byRefs]
      · refine ⟨_, _, g2, ?_, hk, hr2⟩
        unfold stepOp
        rw [hw]
        simp only [hp, hrd, finish, avsF_eq, headsF_eq, oneRnd, and_self, if_true, hm]
        simp only [footOf, byRefs]
    · exact nomatch hc
  · simp [G.run] at hr
  · simp [G.run] at hr
  · simp [G.run] at hr
  · exact nomatch h
  · exact nomatch h

theorem runOps_congr {orc orc' : Nat → Orc} : ∀ (l : List (Oper × Nat)) (i : Nat) (s : St), (∀ j, i ≤ j → orc j = orc' j) → runOps P X.cfg orc ops n0 i l s = runOps P X.cfg orc' ops n0 i l s
  | [], _, _, _ => rfl
  | (o, nid) :: rest, i, s, h => by
    simp only [runOps, h i (Nat.le_refl _)]
    split
    · rw [runOps_congr rest (i + 1) _ fun j hj => h j (by omega)]
    · rfl
    · rfl

theorem stepC_sound (hNe : NestOk P X.N) {n : Nat} {ρ : Type} {r : ρ} {g : G P ρ} {H0 : List ABlk} {k : G P ρ → OpRes → Foot → Prop} (h : stepC P X true H0 ops n0 o nid g s k) (hr : g.run n = some r) :
    ∃ orc, OrcOk P orc ∧ ∃ res f g', stepOp P X.cfg orc ops n0 o nid s = some (res, f) ∧ k g' res f ∧ g'.run n = some r := by
  unfold stepC at h
  grind [stepC1_sound]

theorem runC_sound (hNe : NestOk P X.N) {n : Nat} {ρ : Type} {r : ρ} {H0 : List ABlk} : ∀ (l : List (Oper × Nat)) (i : Nat) (g : G P ρ) (s : St) (k : G P ρ → OpRes → List Foot → Prop), runC P X true H0 ops n0 l g s k → g.run n = some r →
    ∃ orcs : Nat → Orc, (∀ j, OrcOk P (orcs j)) ∧ ∃ res fs g', runOps P X.cfg orcs ops n0 i l s = some (res, fs) ∧ k g' res fs ∧ g'.run n = some r
  | [], i, g, s, k, h, hr => ⟨fun _ => orc0, fun _ => orc0_ok, .ok s, [], g, rfl, h, hr⟩
  | (o, nid) :: rest, i, g, s, k, h, hr => by
    simp only [runC] at h
    obtain ⟨g1, h, hr⟩ := tick_sound h hr
    obtain ⟨orc, ho, res, f, g2, hs, h, hr⟩ := stepC_sound hNe h hr
    cases res with
    | ok s' =>
      obtain ⟨A, H, D⟩ := s'
      simp only [spineF_eq] at h
      obtain ⟨orcs, hos, res, fs, g3, hrun, hk, hr⟩ := runC_sound hNe rest (i + 1) g2 _ _ h hr
      refine ⟨fun j => if j = i then orc else orcs j, fun j => (by grind : OrcOk P (if j = i then orc else orcs j)), res, f :: fs, g3, ?_, hk, hr⟩
      grind [runOps, runOps_congr]
    | pan v s' =>
      exact ⟨fun _ => orc, fun _ => ho, .pan v s', [f], g2, by simp only [runOps, hs], h, hr⟩

theorem regionC_sound (hNe : NestOk P X.N) {n : Nat} {ρ : Type} {r : ρ} {H0 : List ABlk} {g : G P ρ} {s : St} {k : G P ρ → OpRes → Prop} (h : regionC P X H0 ops true g s k) (hr : g.run n = some r) :
    ∃ orcs : Nat → Orc, (∀ j, OrcOk P (orcs j)) ∧ ∃ res g', regionI P X.cfg orcs ops true s = some res ∧ k g' res ∧ g'.run n = some r := by
  simp only [regionC, natF_eq, newsF_eq] at h
  obtain ⟨orcs, ho, res, fs, g', hrun, hk, hr⟩ := runC_sound hNe _ 0 _ _ _ h hr
  refine ⟨orcs, ho, ?_⟩
  simp only [regionI, natF_eq, newsF_eq, hrun]
  grind

/-! ### Slots forgotten -/

theorem keepA_get (keep : List Nat) : ∀ (A : List AVal) (i j : Nat), (keepA keep i A)[j]? = (A[j]?).map fun a => match keep.contains (i + j) with | true => a | false => .junk
  | [], _, _ => by simp [keepA]
  | a :: as, i, 0 => rfl
  | a :: as, i, j + 1 => by
    simp only [keepA, List.getElem?_cons_succ]
    rw [keepA_get keep as (i + 1) j, show i + 1 + j = i + (j + 1) by omega]

theorem RL_keep {g : Gh} {w : World} {keep : List Nat} {A : List AVal} {vs : List Value} (h : RL g w A vs) : RL g w (keepA keep 0 A) vs := by
  obtain ⟨h1, h2⟩ := RL_get _ _ h
  have hlen : (keepA keep 0 A).length = A.length := by
    have : ∀ (A : List AVal) (i : Nat), (keepA keep i A).length = A.length := by
      intro A
      induction A with
      | nil => intro i; rfl
      | cons a as ih => intro i; simp [keepA, ih]
    exact this A 0
  grind [RL_of, keepA_get, R]

theorem puC_ok : ∀ {l : List PU} {H : List ABlk}, puC l H → PuOk (l.map (·.b)) H
  | [], _, _ => fun _ h => by simp at h
  | p :: ps, H, h => by
    intro b hb x hx
    simp only [List.map_cons, List.mem_cons] at hb
    rcases hb with rfl | hb
    · rw [h.1] at hx; cases hx; exact p.pf
    · exact puC_ok h.2 b hb x hx

theorem wkL_len : ∀ (l : List AVal), (wkL l).length = l.length
  | [] => rfl
  | _ :: l => by simp [wkL, wkL_len l]

theorem RR_wkL {g : Gh} {w : World} : ∀ (l : List (List AVal)) (k o sz : Nat), RR g w l k o sz → RR g w (l.map wkL) k o sz
  | [], _, _, _, _ => by simp [RR]
  | r :: rs, k, o, sz, h => by
    simp only [RR, List.map_cons] at h ⊢
    exact ⟨⟨by rw [wkL_len]; exact h.1.1, wkL_pure _ h.1.2.1, RC_wkL _ _ _ h.1.2.2⟩, RR_wkL rs k (o + sz) sz h.2⟩

theorem R_lst_wk {g : Gh} {w : World} {rows : List (List AVal)} {x : Value} (h : R g w (.lst rows) x) : R g w (.lst (rows.map wkL)) x := by
  simp only [R, List.length_map] at h ⊢
  obtain ⟨a, cap, e, h1, h2⟩ := h
  refine ⟨a, cap, e, h1, ?_⟩
  rcases h2 with h2 | ⟨k, off, sz, ha, hr⟩
  · exact .inl h2
  · exact .inr ⟨k, off, sz, ha, RR_wkL _ _ _ _ hr⟩

theorem tidyC_inv {H0 : List ABlk} : ∀ {ts : List TS} {s : St} {k : St → Prop}, tsOk ts = true → tidyC H0 ts s k → ∃ s', Weak H0 s s' ∧ k s'
  | [], s, k, _, h => ⟨s, .refl _ _, h⟩
  | .keep l :: ts, s, k, hok, h => by
    simp only [tidyC, spineF_eq] at h
    obtain ⟨s', h1, h2⟩ := tidyC_inv (by simpa only [tsOk] using hok) h
    exact ⟨s', Weak.trans (s1 := { s with A := keepA l 0 s.A }) (fun _ _ g a w _ hl hs => ⟨g, ⟨hs.inv, RL_keep hs.tmps, hs.defs⟩, hl⟩) h1, h2⟩
  | .wk p :: ts, s, k, hok, h => by
    simp only [tidyC] at h
    split at h
    · rename_i s1 hw
      obtain ⟨s', h1, h2⟩ := tidyC_inv (by simpa only [tsOk] using hok) h
      exact ⟨s', (wkS_weak hw).trans h1, h2⟩
    · exact h.elim
  | .own p sz :: ts, s, k, hok, h => by
    simp only [tidyC] at h
    split at h
    · rename_i s1 hw
      obtain ⟨s', h1, h2⟩ := tidyC_inv (by simpa only [tsOk] using hok) h
      exact ⟨s', (ownS_weak hw).trans h1, h2⟩
    · exact h.elim
  | .frz z :: ts, s, k, hok, h => by
    simp only [tidyC] at h
    simp only [tsOk, Bool.and_eq_true, decide_eq_true_eq] at hok
    obtain ⟨q1, q2, h⟩ := h
    split at h
    · rename_i s1 hw
      obtain ⟨s', h1, h2⟩ := tidyC_inv hok.2 h
      exact ⟨s', (frzS_weak ⟨z.b, z.ver, z.sz, by rw [q1, hok.1], q2, z.pf⟩ hw).trans h1, h2⟩
    · exact h.elim
  | .frp z :: ts, s, k, hok, h => by
    simp only [tidyC] at h
    obtain ⟨q1, q2, h⟩ := h
    split at h
    · rename_i s1 hw
      obtain ⟨s', h1, h2⟩ := tidyC_inv (by simpa only [tsOk] using hok) h
      exact ⟨s', (frpS_weak ⟨z.b, z.ver, z.sz, q1, q2, z.pf⟩ hw).trans h1, h2⟩
    · exact h.elim
  | .rew z :: ts, s, k, hok, h => by
    simp only [tidyC] at h
    obtain ⟨q1, h⟩ := h
    obtain ⟨s', h1, h2⟩ := tidyC_inv (by simpa only [tsOk] using hok) h
    refine ⟨s', Weak.trans (s1 := setP s (.lst z.rows') z.p) (fun _ _ g a w _ hl hs => ?_) h1, h2⟩
    obtain ⟨p1, p2⟩ := setP_sound q1 hs (v' := .lst z.rows') fun x hx => by rw [← z.pf]; exact R_lst_wk hx
    exact ⟨g, p1, hl.trans p2⟩
  | .cut bl bump pu :: ts, s, k, hok, h => by
    simp only [tidyC, spineF_eq] at h
    obtain ⟨q1, h⟩ := h
    split at h
    · rename_i A H D hw
      obtain ⟨s', h1, h2⟩ := tidyC_inv (by simpa only [tsOk] using hok) h
      exact ⟨s', (cut_weak (puC_ok q1) hw).trans h1, h2⟩
    · exact h.elim

/-! ### Regions whose order is fixed -/

theorem stepD_sound (hNe : NestOk P X.N) {n : Nat} {ρ : Type} {r : ρ} {g : G P ρ} {H0 : List ABlk} {k : G P ρ → OpRes → Foot → Prop} (h : stepC P X false H0 ops n0 o nid g s k) (hr : g.run n = some r) :
    ∃ s2, Weak H0 s s2 ∧ ∃ orc, OrcOk P orc ∧ ∃ res f g', stepOp P X.cfg orc ops n0 o nid s2 = some (res, f) ∧ k g' res f ∧ g'.run n = some r := by
  unfold stepC at h
  split at h
  · grind [G.run, tidyC_inv, stepC1_sound]
  · exact ⟨s, .refl _ _, stepC1_sound hNe h hr⟩

theorem runD_sound (hNe : NestOk P X.N) {n : Nat} {ρ : Type} {r : ρ} {H0 : List ABlk} : ∀ (l : List (Oper × Nat)) (i : Nat) (g : G P ρ) (s : St) (k : G P ρ → OpRes → List Foot → Prop), runC P X false H0 ops n0 l g s k → g.run n = some r →
    (∀ (j : Nat), (l[j]?).map (fun (p : Oper × Nat) => p.1) = (ops.toList.drop i)[j]?) → ∃ g' res fs, k g' res fs ∧ g'.run n = some r ∧
    ∀ (fro : Option Nat), (∀ (k : Nat) (o : Oper), ops[k]? = some o → Calm fro o) → ∀ (gg : Gh) (ww : World) (Q : Exit → Act → World → Prop), Inv gg H0 ww → ∀ (g1 : Gh) (a : Act) (w : World), Sim g1 s a w → Later gg H0 ww g1 s.H w → RegPost Q gg H0 ww res → wpOpsIn (Fr fro) 0 P ops Q (List.range' i l.length) a w
  | [], i, g, s, k, h, hr, _ => ⟨g, .ok s, [], h, hr, fun _ _ _ _ _ _ g1 a w hs hl hp => hp g1 a w hs hl⟩
  | (o, nid) :: rest, i, g, s, k, h, hr, hj => by
    have hi : ops[i]? = some o := by
      have := hj 0
      simp at this
      exact this.symm
    simp only [runC] at h
    obtain ⟨g', h, hr⟩ := tick_sound h hr
    obtain ⟨s2, hw2, orc, ho, res, f, g3, hst, h, hr⟩ := stepD_sound hNe h hr
    cases res with
    | ok s' =>
      obtain ⟨A, H, D⟩ := s'
      simp only [spineF_eq] at h
      obtain ⟨g4, res4, fs4, hk4, hr4, hwp⟩ := runD_sound hNe rest (i + 1) g3 ⟨A, H, D⟩ _ h hr (fun j => by
        have := hj (j + 1)
        grind)
      refine ⟨g4, res4, _, hk4, hr4, fun fro hcalm gg ww Q hi0 g1 a w hs hl hp => ?_⟩
      simp only [List.length_cons, List.range'_succ, wpOpsIn_cons]
      obtain ⟨g2, hs2, hl2⟩ := hw2 gg ww g1 a w hi0 hl hs
      exact step_sound ho hs2 hi (hcalm i o hi) hst fun g5 a' w' hs' hla => hwp fro hcalm gg ww Q hi0 g5 a' w' hs' (hl2.trans hla) hp
    | pan v s' =>
      refine ⟨g3, .pan v s', _, h, hr, fun fro hcalm gg ww Q hi0 g1 a w hs hl hp => ?_⟩
      simp only [List.length_cons, List.range'_succ, wpOpsIn_cons]
      obtain ⟨g2, hs2, hl2⟩ := hw2 gg ww g1 a w hi0 hl hs
      exact step_sound ho hs2 hi (hcalm i o hi) hst fun g' w' x hv hs' hla hx => hp g' a w' x hv hs' (hl2.trans hla) hx

theorem regionD_sound (hNe : NestOk P X.N) {H0 : List ABlk} {n : Nat} {ρ : Type} {r : ρ} {id : Nat} {g : G P ρ} {s : St} {k : G P ρ → OpRes → Prop} (h : regionC P X H0 ops false g s k) (hr : g.run n = some r) :
    ∃ g' res, k g' res ∧ g'.run n = some r ∧ ∀ (fro : Option Nat), (∀ (k : Nat) (o : Oper), ops[k]? = some o → Calm fro o) → ∀ (gg : Gh) (ww : World), Inv gg H0 ww → Does P fro gg H0 ww (.region id ops false) s fun o s' => o = (outOf res).1 ∧ s' = (outOf res).2 := by
  simp only [regionC, natF_eq, newsF_eq] at h
  generalize (if countAllocs ops.toList = 0 then 0 else tailFree s.H) = t0 at h
  generalize countAllocs ops.toList - t0 = m0 at h
  generalize s.H.length - t0 = f0 at h
  obtain ⟨g', res, fs, hk, hr', hwp⟩ := runD_sound hNe _ 0 _ _ _ h hr (fun j => by rw [numbered_get]; simp)
  simp only [Bool.not_false, if_true] at hk
  refine ⟨g', res, hk, hr', fun fro hcalm gg ww hi0 Q g1 a w hs hl hp => ?_⟩
  obtain ⟨i1, i2⟩ := hs.inv.reserve m0
  have hs0 : Sim g1 { s with H := s.H ++ List.replicate m0 .unborn } a w := ⟨i1, hs.tmps, hs.defs⟩
  refine wpIn_region ?_
  rw [List.range_eq_range']
  have := hwp fro hcalm gg ww Q hi0 g1 a w hs0 (hl.trans i2) (by
    have := hp _ _ ⟨rfl, rfl⟩
    cases res with
    | ok s' => exact this
    | pan v s' => exact this)
  grind [numbered_len]

theorem preC_sound {H0 : List ABlk} {n : Nat} {ρ : Type} {r : ρ} {g : G P ρ} {s : St} {k : G P ρ → St → Prop} (h : preC H0 g s k) (hr : g.run n = some r) : ∃ s' g', Weak H0 s s' ∧ k g' s' ∧ g'.run n = some r := by
  unfold preC at h
  split at h
  · grind [G.run, tidyC_inv]
  · exact ⟨s, g, .refl _ _, h, hr⟩

/-! ### Code -/

theorem round_inv {n : Nat} {σ : Type} {sh : Sh} {H0 : List ABlk} {E : σ → St} {X : sh.El → AOut × St} {g : G P (σ ⊕ sh.El)} {o : AOut} {s : St} {q : σ ⊕ sh.El} (h : roundC H0 E X g o s) (hr : g.run n = some q) :
    ∃ s', Weak H0 s s' ∧ match q with | .inl a => o = .normal ∧ s' = E a | .inr t => o ≠ .normal ∧ (o, s') = X t := by
  unfold roundC at h
  split at h
  · grind [G.run, tidyC_inv]
  · grind [G.run, tidyC_inv]
  · simp [G.run] at hr
  · exact nomatch h

/-- A chain of rounds. -/
def Rounds (P : Program) [Globs] (H0 : List ABlk) (ro : Option Nat) (b : Code) : Nat → St → AOut → St → Prop
  | 0, _, _, _ => False
  | n + 1, s, o, s' => ∃ o1 s1, (∀ fro g0 w0, Inv g0 H0 w0 → RoOk g0 ro fro → Does P fro g0 H0 w0 b s fun o2 s2 => o2 = o1 ∧ s2 = s1) ∧
      match o1 with
      | .normal => Rounds P H0 ro b n s1 o s'
      | o1 => o1 = o ∧ s1 = s'

theorem iterC_inv {ro : Option Nat} {H0 : List ABlk} {b : Code} {n : Nat} {ρ : Type} {r : ρ} {k : G P ρ → AOut → St → Prop}
    (ih : ∀ (g : G P ρ) (s : St) (k : G P ρ → AOut → St → Prop), gxC P X H0 b g s k → g.run n = some r → ∃ g' o s', k g' o s' ∧ g'.run n = some r ∧ ∀ fro g0 w0, Inv g0 H0 w0 → RoOk g0 ro fro → Does P fro g0 H0 w0 b s fun o1 s1 => o1 = o ∧ s1 = s') :
    ∀ (m : Nat) (g : G P ρ) (s : St), iterC (fun g s k => gxC P X H0 b g s k) m g s k → g.run n = some r → ∃ g' o s', k g' o s' ∧ g'.run n = some r ∧ o ≠ .normal ∧ Rounds P H0 ro b m s o s'
  | 0, _, _, h, _ => h.elim
  | m + 1, g, s, h, hr => by
    simp only [iterC] at h
    obtain ⟨g1, o1, s1, hk, hr1, hd⟩ := ih g s _ h hr
    cases o1 with
    | normal =>
      obtain ⟨g', o, s', h1, h2, h3, h4⟩ := iterC_inv ih m g1 s1 hk hr1
      exact ⟨g', o, s', h1, h2, h3, .normal, s1, hd, h4⟩
    | exit id => exact ⟨g1, _, s1, hk, hr1, (fun h => (by cases h)), _, s1, hd, rfl, rfl⟩
    | ret => exact ⟨g1, _, s1, hk, hr1, (fun h => (by cases h)), _, s1, hd, rfl, rfl⟩
    | pan v => exact ⟨g1, _, s1, hk, hr1, (fun h => (by cases h)), _, s1, hd, rfl, rfl⟩

theorem calm_of {ro fro : Option Nat} {g0 : Gh} {ops : Array Oper} (hro : RoOk g0 ro fro) (h : (ro.isSome && ops.toList.any putsOff) = false) : ∀ (k : Nat) (o : Oper), ops[k]? = some o → Calm fro o := by
  intro k o hk
  cases ro with
  | none =>
    cases fro with
    | none => exact .inl rfl
    | some k => exact hro.elim
  | some b =>
    right
    grind

/-- What the code comes to may be told more weakly. -/
theorem Does.post {fro : Option Nat} {g0 : Gh} {H0 : List ABlk} {w0 : World} (hi0 : Inv g0 H0 w0) {c : Code} {s s1 s2 : St} {o : AOut} (hw : Weak H0 s1 s2) (h : Does P fro g0 H0 w0 c s fun o1 s' => o1 = o ∧ s' = s1) :
    Does P fro g0 H0 w0 c s fun o1 s' => o1 = o ∧ s' = s2 :=
  fun Q g a w hs hl hk => h Q g a w hs hl fun o' s' ⟨e1, e2⟩ => by grind [OutPost.weak]

theorem joinC_inv {H0 : List ABlk} {sh : Sh} {Y : sh.El → AOut × St} {n : Nat} {g : G P sh.El} {o : AOut} {s : St} {t : sh.El} (h : joinC H0 Y g o s) (hr : g.run n = some t) : ∃ s', Weak H0 s s' ∧ (o, s') = Y t := by
  unfold joinC at h
  split at h
  · grind [G.run, tidyC_inv]
  · simp [G.run] at hr
  · exact nomatch h

theorem nest0_ok : NestOk P (nest0 P) := ⟨fun h => h.elim, fun h => h.elim, fun h => h.elim⟩
theorem conK_ok {ρ : Type} {n : Nat} {f : FuncId} {args : List AVal} {H : List ABlk} {c : CtrR P} {x : c.X} {kk : c.sh.El → G P ρ} {k : G P ρ → ARes → List ABlk → Prop} {r : ρ} (h : conK P f args H c x kk k) (hr : (G.callR c x kk).run n = some r) :
    ∃ g' a H1, k g' a H1 ∧ g'.run n = some r ∧ FnRef P f args H a H1 := by
  obtain ⟨_, he, h⟩ := h
  simp only [Option.some.injEq, Prod.mk.injEq] at he
  obtain ⟨rfl, ha, rfl⟩ := he
  obtain ⟨q, hq, hr⟩ := Option.bind_eq_some_iff.1 (show (c.S n x).bind (fun q => (kk q).run n) = some r from hr)
  refine ⟨kk q, c.out q, c.outH x q, (c.sh.all_iff _).1 h q, hr, FnRef.wk ?_⟩
  rw [ha]
  exact c.ok n x q hq
theorem nestK_ok : NestOk P (nestK P) := by
  refine ⟨fun h hr => ?_, fun h => h.elim, fun h => h.elim⟩
  simp only [nestK] at h
  split at h
  · exact conK_ok h hr
  · exact h.elim
theorem at_ok (hNe : NestOk P X.N) (draw : Bool) : NestOk P (X.at draw).N := by
  grind [Env.at, nestK_ok]
theorem at_cfg (draw : Bool) : (X.at draw).cfg = X.cfg := by unfold Env.at; split <;> rfl

theorem sealC_det (hNe : NestOk P X.N) {H0 : List ABlk} {n : Nat} {σ : Type} {sh : Sh} {b : Code} {E : σ → St} {s : St} {Y : sh.El → AOut × St} {q : σ ⊕ sh.El} {f : G P (σ ⊕ sh.El) → Prop}
    (ih : ∀ g, f g → g.run n = some q → ∃ (g' : G P (σ ⊕ sh.El)) (o : AOut) (s' : St), roundC H0 E Y g' o s' ∧ g'.run n = some q ∧ ∀ fro g0 w0, Inv g0 H0 w0 → RoOk g0 X.ro fro → Does P fro g0 H0 w0 b s fun o1 s1 => o1 = o ∧ s1 = s')
    {g : G P (σ ⊕ sh.El)} (h : sealC X.N X.ro H0 b E s Y g f) (hr : g.run n = some q) :
    ∃ (g' : G P (σ ⊕ sh.El)) (o : AOut) (s' : St), roundC H0 E Y g' o s' ∧ g'.run n = some q ∧ ∀ fro g0 w0, Inv g0 H0 w0 → RoOk g0 X.ro fro → Does P fro g0 H0 w0 b s fun o1 s1 => o1 = o ∧ s1 = s' := by
  unfold sealC at h
  split at h
  · exact hNe.lp h (by simpa [G.run] using hr)
  · exact ih _ h hr

/-- What the walk comes to is what the code does. -/
theorem gxC_det (hm : P.follows .mixedOrders = true) (hNe : NestOk P X.N) {H0 : List ABlk} {n : Nat} : ∀ (c : Code) {ρ : Type} (r : ρ) (g : G P ρ) (s : St) (k : G P ρ → AOut → St → Prop), gxC P X H0 c g s k → g.run n = some r →
    ∃ g' o s', k g' o s' ∧ g'.run n = some r ∧ ∀ fro g0 w0, Inv g0 H0 w0 → RoOk g0 X.ro fro → Does P fro g0 H0 w0 c s fun o1 s1 => o1 = o ∧ s1 = s' := by
  intro c
  induction c with
  | skip => intro ρ r g s k h hr; exact ⟨g, .normal, s, h, hr, fun _ _ _ _ _ => .skip ⟨rfl, rfl⟩⟩
  | region id ops draw =>
    intro ρ r g s k h hr
    simp only [gxC] at h
    split at h
    · exact h.elim
    rename_i hoff
    obtain ⟨s1, g1, hw, h, hr⟩ := preC_sound h hr
    cases draw with
    | false =>
      obtain ⟨g', res, hk, hr', hd⟩ := regionD_sound hNe (id := id) h hr
      cases res with
      | ok s' => exact ⟨g', .normal, s', hk, hr', fun fro g0 w0 hi hro => .weak hi hw (hd fro (calm_of hro hoff) g0 w0 hi)⟩
      | pan v s' => exact ⟨g', .pan v, s', hk, hr', fun fro g0 w0 hi hro => .weak hi hw (hd fro (calm_of hro hoff) g0 w0 hi)⟩
    | true =>
      obtain ⟨orcs, ho, res, g', hreg, h, hr⟩ := regionC_sound (at_ok hNe true) h hr
      rw [at_cfg] at hreg
      cases res with
      | ok s' => exact ⟨g', .normal, s', h, hr, fun fro g0 w0 hi hro => .weak hi hw (.region hm ho (calm_of hro hoff) hreg ⟨rfl, rfl⟩)⟩
      | pan v s' => exact ⟨g', .pan v, s', h, hr, fun fro g0 w0 hi hro => .weak hi hw (.region hm ho (calm_of hro hoff) hreg ⟨rfl, rfl⟩)⟩
  | seq a b iha ihb =>
    intro ρ r g s k h hr
    simp only [gxC] at h
    obtain ⟨g1, o1, s1, h1, hr1, d1⟩ := iha r g s _ h hr
    cases o1 with
    | normal =>
      obtain ⟨g2, o2, s2, h2, hr2, d2⟩ := ihb r g1 s1 k h1 hr1
      refine ⟨g2, o2, s2, h2, hr2, fun fro g0 w0 hi hro => .seq ((d1 fro g0 w0 hi hro).mono fun o s' ⟨e1, e2⟩ => ?_)⟩
      grind
    | exit id => exact ⟨g1, _, s1, h1, hr1, fun fro g0 w0 hi hro => .seq ((d1 fro g0 w0 hi hro).mono fun o s' ⟨e1, e2⟩ => by grind)⟩
    | ret => exact ⟨g1, _, s1, h1, hr1, fun fro g0 w0 hi hro => .seq ((d1 fro g0 w0 hi hro).mono fun o s' ⟨e1, e2⟩ => by grind)⟩
    | pan v => exact ⟨g1, _, s1, h1, hr1, fun fro g0 w0 hi hro => .seq ((d1 fro g0 w0 hi hro).mono fun o s' ⟨e1, e2⟩ => by grind)⟩
  | cond c a b iha ihb =>
    have main : ∀ {ρ : Type} (r : ρ) (g : G P ρ) (s : St) (k : G P ρ → AOut → St → Prop), condC P X H0 c a b (fun g s k => gxC P X H0 a g s k) (fun g s k => gxC P X H0 b g s k) g s k → g.run n = some r →
        ∃ g' o s', k g' o s' ∧ g'.run n = some r ∧ ∀ fro g0 w0, Inv g0 H0 w0 → RoOk g0 X.ro fro → Does P fro g0 H0 w0 (.cond c a b) s fun o1 s1 => o1 = o ∧ s1 = s' := by
      intro ρ r g s k h hr
      unfold condC at h
      obtain ⟨s1, g1, hw, h, hr⟩ := preC_sound h hr
      obtain ⟨g1, h, hr⟩ := tick_sound h hr
      split at h
      · rename_i m g2
        have hr2 : (G.less m g2).run n = some r := by rw [G.less_run]; simpa [G.run] using hr
        split at h
        · rename_i hc
          obtain ⟨g', o, s', h1, h2, d⟩ := iha r _ _ k h hr2
          exact ⟨g', o, s', h1, h2, fun fro g0 w0 hi hro => .weak hi hw (.cond true hc (d fro g0 w0 hi hro))⟩
        · rename_i hc
          obtain ⟨g', o, s', h1, h2, d⟩ := ihb r _ _ k h hr2
          exact ⟨g', o, s', h1, h2, fun fro g0 w0 hi hro => .weak hi hw (.cond false hc (d fro g0 w0 hi hro))⟩
        · exact h.elim
      · simp [G.run] at hr
      · exact nomatch h
    intro ρ r g s k h hr
    simp only [gxC] at h
    split at h
    · rename_i sh Y g1 kk
      obtain ⟨t, ht, hr⟩ := Option.bind_eq_some_iff.1 (show (g1.run n).bind (fun t => (kk t).run n) = some r from hr)
      obtain ⟨g', o, s', h1, h2, d⟩ := main t g1 s _ h.1 ht
      obtain ⟨s'', hw, e⟩ := joinC_inv h1 h2
      have e1 : o = (Y t).1 := congrArg Prod.fst e
      have e2 : s'' = (Y t).2 := congrArg Prod.snd e
      refine ⟨kk t, (Y t).1, (Y t).2, (sh.all_iff _).1 h.2 t, hr, fun fro g0 w0 hi hro => ?_⟩
      rw [← e1, ← e2]
      exact (d fro g0 w0 hi hro).post hi hw
    · exact main r g s k h hr
  | block id b ih =>
    have main : ∀ {ρ : Type} (r : ρ) (g : G P ρ) (s : St) (k : G P ρ → AOut → St → Prop), gxC P X H0 b g s (blockC id k) → g.run n = some r →
        ∃ g' o s', k g' o s' ∧ g'.run n = some r ∧ ∀ fro g0 w0, Inv g0 H0 w0 → RoOk g0 X.ro fro → Does P fro g0 H0 w0 (.block id b) s fun o1 s1 => o1 = o ∧ s1 = s' := by
      intro ρ r g s k h hr
      obtain ⟨g1, o1, s1, h1, hr1, d1⟩ := ih r g s _ h hr
      refine ⟨g1, behind id o1, s1, ?_, hr1, fun fro g0 w0 hi hro => .block ((d1 fro g0 w0 hi hro).mono fun o s' ⟨e1, e2⟩ => by grind)⟩
      unfold blockC at h1
      cases o1 with
      | exit id' =>
        grind [behind]
      | normal => exact h1
      | ret => exact h1
      | pan v => exact h1
    intro ρ r g s k h hr
    simp only [gxC] at h
    split at h
    · rename_i sh Y g1 kk
      obtain ⟨t, ht, hr⟩ := Option.bind_eq_some_iff.1 (show (g1.run n).bind (fun t => (kk t).run n) = some r from hr)
      obtain ⟨g', o, s', h1, h2, d⟩ := main t g1 s _ h.1 ht
      obtain ⟨s'', hw, e⟩ := joinC_inv h1 h2
      have e1 : o = (Y t).1 := congrArg Prod.fst e
      have e2 : s'' = (Y t).2 := congrArg Prod.snd e
      refine ⟨kk t, (Y t).1, (Y t).2, (sh.all_iff _).1 h.2 t, hr, fun fro g0 w0 hi hro => ?_⟩
      rw [← e1, ← e2]
      exact (d fro g0 w0 hi hro).post hi hw
    · exact main r g s k h hr
  | loop b ih =>
    intro ρ r g s k h hr
    simp only [gxC] at h
    split at h
    · rename_i m g1
      simp only [G.run] at hr
      obtain ⟨g', o, s', h1, h2, hne, hrd⟩ := iterC_inv (ro := X.ro) (fun g s k h hr => ih r g s k h hr) m g1 s h hr
      refine ⟨g', o, s', h1, h2, fun fro g0 w0 hi hro => .loop hi (n := m) (s0 := s) (fun m s => Rounds P H0 X.ro b m s o s') (fun s h => h.elim) (.refl _ _) hrd ?_⟩
      rintro m s1 ⟨o1, s2, hd, hx⟩
      refine (hd fro g0 w0 hi hro).mono fun o3 s3 ⟨e1, e2⟩ => ?_
      subst e1; subst e2
      refine ⟨s3, .refl _ _, ?_⟩
      grind
    · rename_i σ sh hd E Y a0 body kk
      obtain ⟨h0, hb, hx⟩ := h
      simp only [G.run, Option.ite_none_right_eq_some] at hr
      obtain ⟨hok, hr⟩ := hr
      cases ht : iterO (fun a => (body a).run n) n a0 with
      | none => rw [ht] at hr; cases hr
      | some t =>
        rw [ht] at hr
        have hx := (sh.all_iff _).1 hx t
        obtain ⟨_, h0, rfl⟩ := tidyC_inv hok h0
        refine ⟨kk t, (Y t).1, (Y t).2, hx, by simpa using hr, fun fro g0 w0 hi hro => .loop hi (n := n) (s0 := E a0) (fun m s1 => ∃ a, s1 = E a ∧ iterO (fun a => (body a).run n) m a = some t) (fun s ⟨a, _, h⟩ => by simp [iterO] at h) h0 ⟨a0, rfl, ht⟩ ?_⟩
        rintro m s1 ⟨a, rfl, hit⟩
        simp only [iterO] at hit
        cases hq : (body a).run n with
        | none => rw [hq] at hit; cases hit
        | some q =>
          rw [hq] at hit
          obtain ⟨g', o', s', h', hr', d'⟩ := sealC_det hNe (fun g h hr => ih q g (E a) _ h hr) (hb a) hq
          refine (d' fro g0 w0 hi hro).mono fun o2 s2 ⟨e1, e2⟩ => ?_
          grind [round_inv]
    · rename_i hsh sh hd E Y a0 body kk
      obtain ⟨h0, hb, hx⟩ := h
      have hb := (hsh.all_iff _).1 hb
      simp only [G.run, Option.ite_none_right_eq_some] at hr
      obtain ⟨hok, hr⟩ := hr
      cases ht : iterO (fun a => (body a).run n) n a0 with
      | none => rw [ht] at hr; cases hr
      | some t =>
        rw [ht] at hr
        have hx := (sh.all_iff _).1 hx t
        obtain ⟨_, h0, rfl⟩ := tidyC_inv hok h0
        refine ⟨kk t, (Y t).1, (Y t).2, hx, by simpa using hr, fun fro g0 w0 hi hro => .loop hi (n := n) (s0 := E a0) (fun m s1 => ∃ a, s1 = E a ∧ iterO (fun a => (body a).run n) m a = some t) (fun s ⟨a, _, h⟩ => by simp [iterO] at h) h0 ⟨a0, rfl, ht⟩ ?_⟩
        rintro m s1 ⟨a, rfl, hit⟩
        simp only [iterO] at hit
        cases hq : (body a).run n with
        | none => rw [hq] at hit; cases hit
        | some q =>
          rw [hq] at hit
          obtain ⟨g', o', s', h', hr', d'⟩ := sealC_det hNe (fun g h hr => ih q g (E a) _ h hr) (hb a) hq
          refine (d' fro g0 w0 hi hro).mono fun o2 s2 ⟨e1, e2⟩ => ?_
          grind [round_inv]
    · simp [G.run] at hr
    · exact nomatch h
  | exit id => intro ρ r g s k h hr; exact ⟨g, _, s, h, hr, fun _ _ _ _ _ => .exit ⟨rfl, rfl⟩⟩
  | ret => intro ρ r g s k h hr; exact ⟨g, _, s, h, hr, fun _ _ _ _ _ => .ret ⟨rfl, rfl⟩⟩
  | rangeFunc x ps as bd =>
    intro ρ r g s k h hr
    simp only [gxC] at h
    obtain ⟨s1, g1, hw, h, hr⟩ := preC_sound h hr
    split at h
    · rename_i pr g2
      obtain ⟨_, h⟩ := h
      simp only [G.run] at hr
      split at h
      · rename_i f p q hf
        split at h
        · rename_i l H1 D1 hen
          rw [spineF_eq] at h
          obtain ⟨hpr, h⟩ := h
          split at h
          · rename_i ids rs hcl
            simp only [headsF_eq] at h
            obtain ⟨hq, _⟩ := closX_ok (prC_ok hpr) _ _ _ _ _ hcl
            obtain ⟨g3, a, H2, hk, hr3, hfn⟩ := hNe.fn h hr
            have ho := oneRef_ok hfn
            have hran : ∀ out s', rangeA (oneRef f (p ++ [.yld l] ++ q) (mask ids H1) a H2) X.ro 0 (evalA s1.A x) ps as bd s1 = some (out, s') → ∀ fro g0 w0, Inv g0 H0 w0 → RoOk g0 X.ro fro → Does P fro g0 H0 w0 (.rangeFunc x ps as bd) s fun o1 s1 => o1 = out ∧ s1 = s' := by
              intro out s' hra fro g0 w0 hi hro
              refine .weak hi hw fun Q g a w hs hl hp => ?_
              exact range_sound ho (hro.mono hl.ext) hra hs ((hp out s' ⟨rfl, rfl⟩).later hl)
            rcases finC_inv hk with ⟨e, hm, hk⟩ | ⟨v, hm, hk⟩
            · simp only [applyF_eq] at hk
              split at hk
              · rename_i out s' hend
                refine ⟨g3, out, s', hk, hr3, hran out s' ?_⟩
                simp only [rangeA, hf, hen, spineF_eq, hq, finish, avsF_eq, headsF_eq, oneRef, and_self, if_true, hm, effF_eq, applyF_eq, hend]
              · exact hk.elim
            · refine ⟨g3, _, _, hk, hr3, hran _ _ ?_⟩
              simp only [rangeA, hf, hen, spineF_eq, hq, finish, avsF_eq, headsF_eq, oneRef, and_self, if_true, hm]
          · exact h.elim
        · exact h.elim
      · exact h.elim
    · simp [G.run] at hr
    · exact nomatch h
  | _ => intro ρ r g s k h hr; exact h.elim

theorem leavesInM_mono {F : Fence} {fn : Func} {tmps : Array Value} {R R' : Ending → World → Prop} (hR : ∀ e w, R e w → R' e w) : ∀ {ds : List Deferred} {m : Nat} {u : FrameMode} {w : World}, LeavesInM F m P fn tmps R ds u w → LeavesInM F m P fn tmps R' ds u w
  | [], m, u, w, h => by
    cases u with
    | run => exact h
    | returning => obtain ⟨v, h1, h2⟩ := h; exact ⟨v, h1, hR _ _ h2⟩
    | panicking chain => exact hR _ _ h
  | d :: ds, m, u, w, h => by
    obtain ⟨hrun, h⟩ := h
    refine ⟨hrun, ?_⟩
    rcases h with ⟨r, w', htar, htake, hrest⟩ | ⟨hn, fv, cap, f, args, htar, hinv, hlead, hcall⟩
    · exact .inl ⟨r, w', htar, htake, leavesInM_mono hR hrest⟩
    · refine .inr ⟨hn, fv, cap, f, args, htar, hinv, hlead, hcall.mono fun e u' w' h => ?_⟩
      cases e with
      | returned v => exact leavesInM_mono hR h
      | panicked chain => exact leavesInM_mono hR h
      | outgrown => exact hR _ _ h

theorem landR_inv {L : Nat} {fn : Func} {m : Option AVal} {s : St} {r' : ARes} {H1 : List ABlk} (h : landR P cfg L fn m s = some (r', H1)) :
    ∃ m' H' r, leave P cfg orc0 L s.D m s.H = some (m', H') ∧ ending P fn s.A m' H' = some (r, H1) ∧ (∀ v, r = .ret v → r' = .ret (wkD v)) ∧ (∀ v, r = .pan v → r' = .pan v) := by
  grind [landR]

theorem FnRef.of (hm : P.follows .mixedOrders = true) (hN : ∀ (f : FuncId) (fn : Func), P.funcs[f]? = some fn → fn.name ≠ "runtime.NumGoroutine") {L : Nat} {f : FuncId} {fn : Func} {c : Code} {args : List AVal} {H0 H1 : List ABlk} {a : ARes} {o : AOut} {s s' : St}
    (hf : P.funcs[f]? = some fn) (hb : fn.body = some c) (hd : ∀ g0 w0, Inv g0 H0 w0 → Does P none g0 H0 w0 c ⟨frameA fn.ntmps args, H0, []⟩ fun o1 s1 => o1 = o ∧ s1 = s) (hwk : Weak H0 s s') (hlo : landRO P cfg L fn o s' = some (a, H1)) : FnRef P f args H0 a H1 := by
  refine ⟨⟨fn, c, hf, hb, hN f fn hf⟩, fun gh w vs hi hl => callsIn_wide.1 (callsIn_of_wp_marks (F := Fr none) (n := 0) hf hb trivial ?_)⟩
  have hsim : Sim gh ⟨frameA fn.ntmps args, H0, []⟩ { tmps := vs ++ Array.replicate (fn.ntmps - vs.size) undef, defers := [] } w := ⟨hi, frame_RL hl _, rfl⟩
  refine hd gh w hi _ gh _ w hsim (Later.refl _ _ _) fun o1 s1 ⟨e1, e2⟩ => ?_
  subst e1; subst e2
  refine OutPost.weak hi hwk ?_
  have key : ∀ (m : Option AVal) (u : FrameMode), landR P cfg L fn m s' = some (a, H1) → ∀ g' a' w', Sim g' s' a' w' → Later gh H0 w g' s'.H w' → ModeOk g' w' m u →
      LeavesInM (Fr none) 0 P fn a'.tmps (Comes1 gh H0 w a H1) a'.defers u w' := by
    intro m u hla g' a' w' hs' hlat hmo
    obtain ⟨m', H', rr, h1, h2, h3, h4⟩ := landR_inv hla
    refine leavesInM_mono ?_ (leave_sound hm hN orc0_ok s'.D a'.defers m u s'.H g' w' m' H' hs'.defs hs'.inv hs'.tmps hmo h1 h2 hlat)
    rintro e w2 ⟨g2, hi2, hla2, he2⟩
    refine ⟨g2, hi2, hla2, ?_⟩
    cases rr with
    | ret v => rw [h3 v rfl]; obtain ⟨x, rfl, hx⟩ := he2; exact ⟨x, rfl, R_wkD _ _ hx⟩
    | pan v => rw [h4 v rfl]; exact he2
  cases o1 with
  | normal => exact fun g' a' w' hs' hlat => key none .returning hlo g' a' w' hs' hlat rfl
  | ret => exact fun g' a' w' hs' hlat => key none .returning hlo g' a' w' hs' hlat rfl
  | exit id => simp [landRO] at hlo
  | pan v => exact fun g' a' w' x hv hs' hlat hrx => key (some v) (.panicking [{ v := x, recovered := false }]) hlo g' a' w' hs' hlat ⟨hv, x, rfl, hrx⟩

theorem landR_flat {L : Nat} {fn : Func} {m : Option AVal} {s : St} {a : ARes} {H1 : List ABlk} (h : landR P cfg L fn m s = some (a, H1)) : ∀ v, a = .pan v → v.flat = true := by
  grind [landR]

theorem landRO_flat {L : Nat} {fn : Func} {o : AOut} {s : St} {a : ARes} {H1 : List ABlk} (h : landRO P cfg L fn o s = some (a, H1)) : ∀ v, a = .pan v → v.flat = true := by
  cases o with
  | normal => exact landR_flat h
  | ret => exact landR_flat h
  | exit id => simp [landRO] at h
  | pan v => exact landR_flat h

theorem nestN_ok {nd : Bool} (hm : P.follows .mixedOrders = true) (hN : ∀ (f : FuncId) (fn : Func), P.funcs[f]? = some fn → fn.name ≠ "runtime.NumGoroutine") : ∀ d, NestOk P (nestN P cfg nd d)
  | 0 => ⟨fun h => h.elim, fun h => h.elim, fun h => h.elim⟩
  | d + 1 => by
    have ih := nestN_ok (nd := nd) hm hN d
    constructor
    · intro ρ n f args H g k r h hr
      simp only [nestN, fnN] at h
      split at h
      · exact conK_ok h hr
      split at h
      · rename_i fn hf
        split at h
        · rename_i c hb
          obtain ⟨g1, o, s1, h, hr, hd⟩ := gxC_det (X := ⟨cfg, none, nestN P cfg nd d, nd⟩) hm ih c r g _ _ h hr
          unfold endN at h
          split at h
          · rename_i ts pr g2
            simp only [G.run, Option.ite_none_right_eq_some] at hr
            obtain ⟨s', hw, h⟩ := tidyC_inv hr.1 h
            split at h
            · rename_i a H1 hla
              have hfn := FnRef.of hm hN hf hb (fun g0 w0 hi => hd none g0 w0 hi trivial) hw hla
              obtain ⟨_, hpr, h⟩ := h
              grind [spineF_eq, FnRef.trim, landRO_flat, prC_ok]
            · exact h.elim
          · simp [G.run] at hr
          · exact nomatch h
        · exact h.elim
      · exact h.elim
    · intro ρ n b args H g k r h hr
      simp only [nestN, rndN] at h
      split at h
      · rename_i st pend fid A ps assign body hb
        split at h
        · rename_i hlen
          have hlen := Nat.eq_of_beq_eq_true hlen
          obtain ⟨g1, o1, s1, h, hr, hd1⟩ := gxC_det (X := ⟨cfg, some b, nestN P cfg nd d, nd⟩) hm ih assign r g _ _ h hr
          split at h
          · split at h
            · rename_i pend1 fid1 A1 ps1 as1 bd1 hb1
              rw [spineF_eq] at h
              obtain ⟨g2, o2, s2, h, hr, hd2⟩ := gxC_det (X := ⟨cfg, some b, nestN P cfg nd d, nd⟩) hm ih body r g1 _ _ h hr
              unfold endB at h
              split at h
              · rename_i j hj
                split at h
                · rename_i ts g3
                  simp only [G.run, Option.ite_none_right_eq_some] at hr
                  obtain ⟨s3, hw, h⟩ := tidyC_inv hr.1 h
                  split at h
                  · rename_i H2 hmk
                    refine ⟨g3, _, H2, h, hr.2, fun gh w vs k sz hi hl hk => ?_⟩
                    obtain ⟨k0, tmps0, dk0, fn0, q1, q2, q3⟩ := hi.good b _ hb
                    rw [hk] at q1
                    simp only [Option.some.injEq, Prod.mk.injEq] at q1
                    obtain ⟨rfl, rfl⟩ := q1
                    have hvs := (RL_get _ _ hl).1
                    refine ⟨_, q2, by grind, ?_⟩
                    rw [roundTmps_eq _ ps vs rfl]
                    have hsim : Sim gh ⟨setAll A ps args, H, []⟩ { tmps := (ps.zip vs.toList).foldl (fun (tmps : Array Value) (p : Tmp × Value) => tmps.setIfInBounds p.1 p.2) tmps0, defers := [] } w :=
                      ⟨hi, setAll_RL ps args A _ tmps0 q3 hl, rfl⟩
                    refine roundIn_of_wpIn trivial ?_
                    refine hd1 (some k) gh w hi ⟨0, hk⟩ _ gh _ w hsim (Later.refl _ _ _) fun oo ss ⟨e1, e2⟩ => ?_
                    subst e1; subst e2
                    intro gg1 a1 w1 hs1 hla1
                    have hk1 := hla1.ext.rho _ _ _ hk
                    obtain ⟨k1, tmps1, dk1, fn1, u1, u2, u3⟩ := hs1.inv.good b _ hb1
                    rw [hk1] at u1
                    simp only [Option.some.injEq, Prod.mk.injEq] at u1
                    obtain ⟨rfl, -⟩ := u1
                    refine ⟨_, run_beginRound u2 rfl, ?_⟩
                    obtain ⟨i2, l2⟩ := hs1.inv.put (y := .loop .busy pend1 fid1 A1 ps1 as1 bd1)
                      (ob := .loop { state := .busy, pending := pend1, fn := fn1, tmps := tmps1, params := ps1.toArray, assign := as1, body := bd1, defers := dk1 }) hb1 rfl hk1 rfl (shape?_loop u2)
                      fun hext => ⟨_, tmps1, dk1, fn1, hk1, World.putObj_heap_same (Array.getElem?_eq_some_iff.1 u2).1, RL_mono hext _ _ u3⟩
                    have hsim2 : Sim gg1 { ss with H := ss.H.set b (.loop .busy pend1 fid1 A1 ps1 as1 bd1) } a1 (w1.putObj k (.loop { state := .busy, pending := pend1, fn := fn1, tmps := tmps1, params := ps1.toArray, assign := as1, body := bd1, defers := dk1 })) :=
                      ⟨i2, RL_mono l2.ext _ _ hs1.tmps, RD_mono l2.ext _ _ hs1.defs⟩
                    refine hd2 (some k) gh w hi ⟨0, hk⟩ _ gg1 a1 _ hsim2 (hla1.trans l2) fun oo2 ss2 ⟨e1, e2⟩ => ?_
                    subst e1; subst e2
                    refine OutPost.weak hi hw ?_
                    have hend : ∀ g' a' w', Sim g' s3 a' w' → Later gh H w g' s3.H w' →
                        ∃ v w'', (Instr.endRound k j).run P w' = .ok v w'' ∧ Comes1 gh H w (.ret (.sc (.bool j.isNone))) H2 (.returned v) w'' := by
                      intro g' a' w' hs' hla'
                      obtain ⟨rr, e1, e2, e3⟩ := marked_sound hs'.inv (hla'.ext.rho _ _ _ hk) hmk
                      exact ⟨_, _, run_endRound j e1, g', e2, hla'.trans e3, _, rfl, by simp [R]⟩
                    cases oo2 with
                    | normal =>
                      simp only [jumpOf, Option.some.injEq] at hj
                      subst hj
                      exact fun g' a' w' h1 h2 => hend g' a' w' h1 h2
                    | ret =>
                      simp only [jumpOf, Option.some.injEq] at hj
                      subst hj
                      exact fun g' a' w' h1 h2 => hend g' a' w' h1 h2
                    | exit id =>
                      simp only [jumpOf, Option.some.injEq] at hj
                      subst hj
                      exact fun g' a' w' h1 h2 => hend g' a' w' h1 h2
                    | pan v => cases hj
                  · exact h.elim
                · simp [G.run] at hr
                · exact nomatch h
              · exact h.elim
            · exact h.elim
          · exact h.elim
        · exact h.elim
      · exact h.elim
    · intro σ sh n ro H0 b g E s Y q h hr
      obtain ⟨h⟩ := h
      exact gxC_det (X := ⟨cfg, ro, nestN P cfg nd d, nd⟩) hm ih b q g s _ h hr


end
end Go.AM
