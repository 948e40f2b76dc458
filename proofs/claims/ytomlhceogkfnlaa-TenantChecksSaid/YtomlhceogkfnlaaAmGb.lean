/- Guides are sound: where the walk holds, the code does what the guide computes. No program. -/
import Derived.Test.YtomlhceogkfnlaaAmGm
namespace Go.AM

section
set_option linter.unusedSectionVars false
variable [Globs] {P : Program} {cfg : Cfg}

theorem orc0_ok : OrcOk P orc0 := ⟨fun _ _ _ _ _ h => by simp [orc0] at h, fun _ _ _ _ _ h => by simp [orc0] at h⟩

open Classical in
/-- One call with memory alone. -/
noncomputable def oneRef (f : FuncId) (args : List AVal) (H : List ABlk) (r : ARes) (H1 : List ABlk) : Orc :=
  ⟨fun f' args' H' => if f' = f ∧ args' = args ∧ H' = H then some (r, H1) else none, fun _ _ _ => none⟩

theorem oneRef_ok {f : FuncId} {args : List AVal} {H H1 : List ABlk} {r : ARes} (h : FnRef P f args H r H1) : OrcOk P (oneRef f args H r H1) := by
  refine ⟨fun f' args' H' r' H1' hr => ?_, fun _ _ _ _ _ h => by simp [oneRef] at h⟩
  simp only [oneRef] at hr
  split at hr
  · rename_i hc
    obtain ⟨rfl, rfl, rfl⟩ := hc
    simp only [Option.some.injEq, Prod.mk.injEq] at hr
    obtain ⟨rfl, rfl⟩ := hr
    exact h
  · cases hr

open Classical in
/-- One call alone. -/
noncomputable def oneCall (f : FuncId) (args : List AVal) (r : ARes) : Orc :=
  ⟨fun f' args' H => if f' = f ∧ args' = args ∧ H = [] then some (r, []) else none, fun _ _ _ => none⟩

theorem oneCall_ok {f : FuncId} {args : List AVal} {r : ARes} (h : FnVal P f args r) : OrcOk P (oneCall f args r) := by
  refine ⟨fun f' args' H r' H1 hr => ?_, fun _ _ _ _ _ h => by simp [oneCall] at h⟩
  simp only [oneCall] at hr
  split at hr
  · rename_i hc
    obtain ⟨rfl, rfl, rfl⟩ := hc
    simp only [Option.some.injEq, Prod.mk.injEq] at hr
    obtain ⟨rfl, rfl⟩ := hr
    exact h
  · cases hr

variable {ops : Array Oper} {n0 nid : Nat} {o : Oper} {s : St}

theorem stepOp_congr {orc orc' : Orc} (h : wantedA ops s.A o = some true → ∀ pre, (opPre P cfg nid (evalA s.A) o.op).run s.H = some pre → finish orc s.H pre = finish orc' s.H pre) :
    stepOp P cfg orc ops n0 o nid s = stepOp P cfg orc' ops n0 o nid s := by
  unfold stepOp
  split
  · rfl
  · rfl
  · rename_i hw
    simp only
    split
    · rfl
    · rename_i pre hp
      rw [h hw pre hp]

theorem tick_sound {n : Nat} {ρ : Type} {r : ρ} : ∀ {g : G P ρ} {s : St} {k : G P ρ → St → Prop}, tickC g s k → g.run n = some r → ∃ g', k g' s ∧ g'.run n = some r
  | .br d c t f, s, k, h, hr => by
    simp only [tickC, setF_eq] at h
    obtain ⟨hd, h1, h2⟩ := h
    have hset : s.A.set d (.sc (.bool c)) = s.A := by
      apply List.ext_getElem?
      intro j
      by_cases hj : d = j
      · subst hj
        obtain ⟨hlt, _⟩ := List.getElem?_eq_some_iff.1 hd
        rw [List.getElem?_set_self hlt, hd]
      · rw [List.getElem?_set_ne hj]
    cases c with
    | true =>
      rw [hset] at h1
      simp only [G.run, if_true] at hr
      exact tick_sound h1 hr
    | false =>
      rw [hset] at h2
      simp only [G.run, Bool.false_eq_true, if_false] at hr
      exact tick_sound h2 hr
  | .sp c t f, s, k, h, hr => by
    simp only [tickC] at h
    cases c with
    | true =>
      simp only [G.run, if_true] at hr
      exact tick_sound h.1 hr
    | false =>
      simp only [G.run, Bool.false_eq_true, if_false] at hr
      exact tick_sound h.2 hr
  | .fail, s, k, h, hr => by simp [G.run] at hr
  | .stop, s, k, h, hr => by simp [G.run] at hr
  | .done .., s, k, h, hr => ⟨_, h, hr⟩
  | .skip .., s, k, h, hr => ⟨_, h, hr⟩
  | .op .., s, k, h, hr => ⟨_, h, hr⟩
  | .call .., s, k, h, hr => ⟨_, h, hr⟩
  | .callR .., s, k, h, hr => ⟨_, h, hr⟩
  | .call1 .., s, k, h, hr => ⟨_, h, hr⟩
  | .tidy .., s, k, h, hr => ⟨_, h, hr⟩
  | .loop .., s, k, h, hr => ⟨_, h, hr⟩
  | .unroll .., s, k, h, hr => ⟨_, h, hr⟩

theorem callOf_some {x : Option Pre} {f : FuncId} {args : List AVal} (h : callOf x = some (f, args)) : ∃ args' own, x = some (.byVal f args' own) ∧ wkL args' = args := by
  unfold callOf at h
  split at h
  · rename_i f' args' own
    simp only [Option.some.injEq, Prod.mk.injEq] at h
    obtain ⟨rfl, rfl⟩ := h
    exact ⟨args', own, rfl, rfl⟩
  · cases h

theorem FnVal.wk {f : FuncId} {args : List AVal} {r : ARes} (h : FnVal P f (wkL args) r) : FnVal P f args r :=
  ⟨h.1, fun g w vs hi hl => h.2 g w vs hi (RL_wkL _ _ hl)⟩

theorem refOf_some {H : List ABlk} {x : Option Pre} {f : FuncId} {args : List AVal} {H1 : List ABlk} (h : refOf H x = some (f, args, H1)) : ∃ args' ids, x = some (.byRef f args' ids) ∧ wkL args' = args ∧ mask ids H = H1 := by
  unfold refOf at h
  split at h
  · rename_i f' args' ids
    simp only [Option.some.injEq, Prod.mk.injEq] at h
    obtain ⟨rfl, rfl, rfl⟩ := h
    exact ⟨args', ids, rfl, rfl, rfl⟩
  · cases h

theorem closure_only {b : Nat} {H : List ABlk} : ∀ (n : Nat) (l : List Nat), onlyB b l = true → l.length ≤ n → (closure n l [b]).run H = some [b] ∧ (closure n l [b]).reads H = []
  | _, [], _, _ => by simp [closure, Rd.run, Rd.reads]
  | 0, _ :: _, _, h => by simp at h
  | n + 1, c :: cs, h, hl => by
    simp only [onlyB, Bool.and_eq_true] at h
    have hc := Nat.eq_of_beq_eq_true h.1
    subst hc
    simp only [closure, List.contains_cons, beq_self_eq_true, Bool.true_or, if_true]
    exact closure_only n cs h.2 (by simpa using hl)

theorem closure_one {b : Nat} {H : List ABlk} {l : List Nat} {v sz : Nat} {rows : List (List AVal)} (h : oneB b l = true) (hb : H[b]? = some (.row v sz rows)) (hp : rows.all AVal.pureL = true) : (closure 1000 l []).run H = some [b] ∧ (closure 1000 l []).reads H = [b] := by
  cases l with
  | nil => simp [oneB] at h
  | cons c cs =>
    simp only [oneB, Bool.and_eq_true] at h
    obtain ⟨⟨h1, h2⟩, h3⟩ := h
    have hc := Nat.eq_of_beq_eq_true h1
    subst hc
    have h3 := Nat.le_of_ble_eq_true h3
    obtain ⟨q1, q2⟩ := closure_only (H := H) 999 cs h2 (by omega)
    simp only [closure, List.contains_nil, Bool.false_eq_true, if_false, Rd.run, Rd.reads, hb, hp, if_true, List.nil_append, q1, q2, and_self]

theorem run_bind_done {α β : Type} {H : List ABlk} : ∀ {m : Rd α} {f : α → β} {x : α}, m.run H = some x → (m.bind fun y => .done (f y)).run H = some (f x) ∧ (m.bind fun y => .done (f y)).reads H = m.reads H
  | .done a, f, x, h => by simp only [Rd.run, Option.some.injEq] at h; subst h; simp [Rd.bind, Rd.run, Rd.reads]
  | .get b k, f, x, h => by
    simp only [Rd.run] at h
    split at h
    · rename_i y hy
      have := run_bind_done (f := f) h
      simp [Rd.bind, Rd.run, Rd.reads, hy, this]
    · cases h

theorem call1Of_some {b : Nat} {rho : Operand → AVal} {op : Op} {nid : Nat} {H : List ABlk} {f : FuncId} {args : List AVal} {v sz : Nat} {rows : List (List AVal)} (h : call1Of P cfg b rho op = some (f, args)) (hb : H[b]? = some (.row v sz rows)) (hp : rows.all AVal.pureL = true) :
    (opPre P cfg nid rho op).run H = some (.byRef f args [b]) ∧ (opPre P cfg nid rho op).reads H = [b] := by
  unfold call1Of at h
  split at h
  · rename_i g _ _ _
    split at h
    · rename_i n p q hg
      split at h
      · rename_i fn hfn
        split at h
        · rename_i hc
          simp only [Bool.or_eq_false_iff] at hc
          split at h
          · rename_i ho
            simp only [Option.some.injEq, Prod.mk.injEq] at h
            obtain ⟨rfl, rfl⟩ := h
            obtain ⟨q1, q2⟩ := closure_one ho hb hp
            simp only [opPre, hg, hfn, hc.1.1, Bool.false_eq_true, if_false, callPre, hc.1.2, hc.2]
            exact ⟨(run_bind_done q1).1, (run_bind_done q1).2.trans q2⟩
          · cases h
        · cases h
      · cases h
    · cases h
  · cases h

theorem ref1_some {H : List ABlk} {b : Nat} {x : Option (FuncId × List AVal)} {f : FuncId} {args : List AVal} {y : Option ABlk} (h : ref1 H b x = some (f, args, y)) : ∃ args', x = some (f, args') ∧ wkL args' = args ∧ H[b]? = y := by
  unfold ref1 at h
  split at h
  · simp only [Option.some.injEq, Prod.mk.injEq] at h
    obtain ⟨rfl, rfl, rfl⟩ := h
    exact ⟨_, rfl, rfl, rfl⟩
  · cases h

theorem FnRef.wk {f : FuncId} {args : List AVal} {H H1 : List ABlk} {r : ARes} (h : FnRef P f (wkL args) H r H1) : FnRef P f args H r H1 :=
  ⟨h.1, fun g w vs hi hl => h.2 g w vs hi (RL_wkL _ _ hl)⟩

theorem stepC1_sound {n : Nat} {ρ : Type} {r : ρ} {g : G P ρ} {draw : Bool} {H0 : List ABlk} {k : G P ρ → OpRes → Foot → Prop} (h : stepC1 P cfg draw H0 ops n0 o nid g s k) (hr : g.run n = some r) :
    ∃ orc, OrcOk P orc ∧ ∃ res f g', stepOp P cfg orc ops n0 o nid s = some (res, f) ∧ k g' res f ∧ g'.run n = some r := by
  unfold stepC1 at h
  split at h
  · rename_i m g'
    split at h
    · rename_i res f hs
      exact ⟨orc0, orc0_ok, res, f, _, hs, h, by rw [G.less_run]; simpa [G.run] using hr⟩
    · exact nomatch h
  · rename_i X t kk
    obtain ⟨hw, hc, hk⟩ := h
    simp only [G.run] at hr
    cases hx : t.run with
    | none => rw [hx] at hr; cases hr
    | some x =>
      rw [hx] at hr
      obtain ⟨h1, h2⟩ := t.sound _ _ _ _ _ _ _ hc x hx
      have hk := hk x
      simp only [effF_eq, putF_eq, applyF_eq] at hk
      refine ⟨orc0, orc0_ok, _, _, kk x, ?_, hk, by simpa using hr⟩
      unfold stepOp
      rw [hw]
      simp only [h1, h2, finish, effF_eq, putF_eq, applyF_eq]
  · rename_i c x kk
    obtain ⟨hw, hc, hk⟩ := h
    simp only [G.run] at hr
    cases hx : c.S n x with
    | none => rw [hx] at hr; cases hr
    | some q =>
      rw [hx] at hr
      have hk := (c.sh.all_iff _).1 hk q
      obtain ⟨args', own, hp, he⟩ := callOf_some hc
      split at hk
      · rename_i res f hs
        refine ⟨oneCall c.f args' (c.out q), oneCall_ok (FnVal.wk (by rw [he]; exact c.ok n x q hx)), res, f, kk q, ?_, hk, by simpa using hr⟩
        rw [← hs]
        refine stepOp_congr fun _ pre hpre => ?_
        rw [hp] at hpre
        simp only [Option.some.injEq] at hpre
        subst hpre
        simp [finish, avsF_eq, oneCall, orcC]
      · exact nomatch hk
  · rename_i c x kk
    obtain ⟨hw, hc, hk⟩ := h
    simp only [G.run] at hr
    cases hx : c.S n x with
    | none => rw [hx] at hr; cases hr
    | some q =>
      rw [hx] at hr
      have hk := (c.sh.all_iff _).1 hk q
      obtain ⟨args', ids, hp, he, hm⟩ := refOf_some hc
      split at hk
      · rename_i res f hs
        refine ⟨oneRef c.f args' (c.heap x) (c.out q) (c.outH x q), oneRef_ok (FnRef.wk (by rw [he]; exact c.ok n x q hx)), res, f, kk q, ?_, hk, by simpa using hr⟩
        rw [← hs]
        refine stepOp_congr fun _ pre hpre => ?_
        rw [hp] at hpre
        simp only [Option.some.injEq] at hpre
        subst hpre
        simp [finish, avsF_eq, headsF_eq, oneRef, orcC, hm]
      · exact nomatch hk
  · rename_i c b v x kk
    obtain ⟨hw, hc, hk⟩ := h
    simp only [G.run] at hr
    cases hx : c.S n x with
    | none => rw [hx] at hr; cases hr
    | some q =>
      rw [hx] at hr
      have hk := (c.sh.all_iff _).1 hk q
      obtain ⟨args', hp, he, hb⟩ := ref1_some hc
      obtain ⟨bsz, brows, hbx, hbp⟩ := row0_inv (c.b0 x)
      obtain ⟨hp, hrd⟩ := call1Of_some (nid := nid) (H := s.H) (sz := bsz) (rows := brows) (v := v) hp (by rw [hb, hbx]; rfl) hbp
      have hblt : b < s.H.length := (List.getElem?_eq_some_iff.1 hb).1
      have hmb : (mask [b] s.H)[b]? = some ((c.blk x).setVer v) := by rw [mask_in (by simp)]; exact hb
      have hmd : ∀ b', b' ≠ b → ∀ y, (mask [b] s.H)[b']? = some y → y = .dead := by
        intro b' hne y hy
        rcases mask_get hy with ⟨h1, _⟩ | ⟨_, h2, _⟩
        · simp only [List.contains_cons, List.contains_nil, Bool.or_false, beq_iff_eq] at h1; exact absurd h1 hne
        · exact h2
      have href := FnRef.move (c.ok n x q hx) (c.a0 x) (c.b0 x) (c.b1 x q) (c.r0 q) b v (mask [b] s.H) hmb hmd
      have horc := oneRef_ok (P := P) (FnRef.wk (args := args') (by rw [he]; exact href))
      refine ⟨_, horc, ?_⟩
      have hlen : ((mask [b] s.H).set b ((c.outB x q).setVer v)).length = s.H.length := by rw [List.length_set, mask_length]
      have hgd : ((mask [b] s.H).set b ((c.outB x q).setVer v)).getD b .dead = (c.outB x q).setVer v := by
        rw [List.getD_eq_getElem?_getD, List.getElem?_set_self (by rw [mask_length]; exact hblt)]; rfl
      have hdrop : ((mask [b] s.H).set b ((c.outB x q).setVer v)).drop s.H.length = [] := List.drop_of_length_le (by rw [hlen]; exact Nat.le_refl _)
      cases ho : c.out q with
      | ret u =>
        rw [ho] at hk
        simp only [putF_eq, applyF_eq] at hk
        refine ⟨_, _, kk q, ?_, hk, by simpa using hr⟩
        unfold stepOp
        rw [hw]
        simp only [hp, hrd, finish, avsF_eq, headsF_eq, oneRef, and_self, if_true, mergeFin, hlen, Nat.le_refl, List.map_cons, List.map_nil, hgd, hdrop, ite_self, effF_eq, putF_eq, applyF_eq, List.isEmpty_nil, Bool.not_true]
        simp only [footOf, byRefs]
      | pan u =>
        rw [ho] at hk
        have hfl : u.flat = true := by have := c.r0 q; rw [ho] at this; exact this
        refine ⟨_, _, kk q, ?_, hk, by simpa using hr⟩
        unfold stepOp
        rw [hw]
        simp only [hp, hrd, finish, avsF_eq, headsF_eq, oneRef, and_self, if_true, mergeFin, hfl, List.foldl_cons, List.foldl_nil]
        simp only [footOf, byRefs]
  · simp [G.run] at hr
  · exact nomatch h
  · exact nomatch h

theorem runOps_congr {orc orc' : Nat → Orc} : ∀ (l : List (Oper × Nat)) (i : Nat) (s : St), (∀ j, i ≤ j → orc j = orc' j) → runOps P cfg orc ops n0 i l s = runOps P cfg orc' ops n0 i l s
  | [], _, _, _ => rfl
  | (o, nid) :: rest, i, s, h => by
    simp only [runOps, h i (Nat.le_refl _)]
    split
    · rw [runOps_congr rest (i + 1) _ fun j hj => h j (by omega)]
    · rfl
    · rfl

theorem stepC_sound {n : Nat} {ρ : Type} {r : ρ} {g : G P ρ} {H0 : List ABlk} {k : G P ρ → OpRes → Foot → Prop} (h : stepC P cfg true H0 ops n0 o nid g s k) (hr : g.run n = some r) :
    ∃ orc, OrcOk P orc ∧ ∃ res f g', stepOp P cfg orc ops n0 o nid s = some (res, f) ∧ k g' res f ∧ g'.run n = some r := by
  unfold stepC at h
  split at h
  · exact h.elim
  · exact stepC1_sound h hr

theorem runC_sound {n : Nat} {ρ : Type} {r : ρ} {H0 : List ABlk} : ∀ (l : List (Oper × Nat)) (i : Nat) (g : G P ρ) (s : St) (k : G P ρ → OpRes → List Foot → Prop), runC P cfg true H0 ops n0 l g s k → g.run n = some r →
    ∃ orcs : Nat → Orc, (∀ j, OrcOk P (orcs j)) ∧ ∃ res fs g', runOps P cfg orcs ops n0 i l s = some (res, fs) ∧ k g' res fs ∧ g'.run n = some r
  | [], i, g, s, k, h, hr => ⟨fun _ => orc0, fun _ => orc0_ok, .ok s, [], g, rfl, h, hr⟩
  | (o, nid) :: rest, i, g, s, k, h, hr => by
    simp only [runC] at h
    obtain ⟨g1, h, hr⟩ := tick_sound h hr
    obtain ⟨orc, ho, res, f, g2, hs, h, hr⟩ := stepC_sound h hr
    cases res with
    | ok s' =>
      obtain ⟨A, H, D⟩ := s'
      simp only [spineF_eq] at h
      obtain ⟨orcs, hos, res, fs, g3, hrun, hk, hr⟩ := runC_sound rest (i + 1) g2 _ _ h hr
      refine ⟨fun j => if j = i then orc else orcs j, fun j => (by by_cases hj : j = i <;> simp [hj, ho, hos] : OrcOk P (if j = i then orc else orcs j)), res, f :: fs, g3, ?_, hk, hr⟩
      simp only [runOps, if_true, hs]
      rw [runOps_congr (orc' := orcs) rest (i + 1) _ fun j hj => if_neg (by omega), hrun]
    | pan v s' =>
      exact ⟨fun _ => orc, fun _ => ho, .pan v s', [f], g2, by simp only [runOps, hs], h, hr⟩

theorem regionC_sound {n : Nat} {ρ : Type} {r : ρ} {H0 : List ABlk} {g : G P ρ} {s : St} {k : G P ρ → OpRes → Prop} (h : regionC P cfg H0 ops true g s k) (hr : g.run n = some r) :
    ∃ orcs : Nat → Orc, (∀ j, OrcOk P (orcs j)) ∧ ∃ res g', regionI P cfg orcs ops true s = some res ∧ k g' res ∧ g'.run n = some r := by
  simp only [regionC, natF_eq, newsF_eq] at h
  obtain ⟨orcs, ho, res, fs, g', hrun, hk, hr⟩ := runC_sound _ 0 _ _ _ h hr
  refine ⟨orcs, ho, ?_⟩
  simp only [regionI, natF_eq, newsF_eq, hrun]
  simp only [Bool.not_true, Bool.false_eq_true, if_false] at hk ⊢
  split at hk
  · rename_i hc
    rw [if_pos hc]
    cases res with
    | ok s' => exact ⟨_, g', rfl, hk, hr⟩
    | pan v s' =>
      simp only at hk ⊢
      split at hk
      · rename_i hw
        rw [if_pos hw]
        exact ⟨_, g', rfl, hk, hr⟩
      · exact hk.elim
  · exact hk.elim

/-! ### Slots forgotten -/

theorem keepA_get (keep : List Nat) : ∀ (A : List AVal) (i j : Nat), (keepA keep i A)[j]? = (A[j]?).map fun a => match keep.contains (i + j) with | true => a | false => .junk
  | [], _, _ => by simp [keepA]
  | a :: as, i, 0 => rfl
  | a :: as, i, j + 1 => by
    simp only [keepA, List.getElem?_cons_succ]
    rw [keepA_get keep as (i + 1) j, show i + 1 + j = i + (j + 1) by omega]

theorem RL_keep {g : Gh} {w : World} {keep : List Nat} {A : List AVal} {vs : List Value} (h : RL g w A vs) : RL g w (keepA keep 0 A) vs := by
  obtain ⟨h1, h2⟩ := RL_get _ _ h
  have hlen : (keepA keep 0 A).length = A.length := by
    have : ∀ (A : List AVal) (i : Nat), (keepA keep i A).length = A.length := by
      intro A
      induction A with
      | nil => intro i; rfl
      | cons a as ih => intro i; simp [keepA, ih]
    exact this A 0
  refine RL_of _ _ (by rw [hlen, h1]) fun j b y hj hy => ?_
  rw [keepA_get] at hj
  obtain ⟨a, ha, rfl⟩ := Option.map_eq_some_iff.1 hj
  obtain ⟨y', hy', hr⟩ := h2 j a ha
  rw [hy] at hy'; cases hy'
  split
  · exact hr
  · simp [R]

theorem puC_ok : ∀ {l : List PU} {H : List ABlk}, puC l H → PuOk (l.map (·.b)) H
  | [], _, _ => fun _ h => by simp at h
  | p :: ps, H, h => by
    intro b hb x hx
    simp only [List.map_cons, List.mem_cons] at hb
    rcases hb with rfl | hb
    · rw [h.1] at hx; cases hx; exact p.pf
    · exact puC_ok h.2 b hb x hx

theorem wkL_len : ∀ (l : List AVal), (wkL l).length = l.length
  | [] => rfl
  | _ :: l => by simp [wkL, wkL_len l]

theorem RR_wkL {g : Gh} {w : World} : ∀ (l : List (List AVal)) (k o sz : Nat), RR g w l k o sz → RR g w (l.map wkL) k o sz
  | [], _, _, _, _ => by simp [RR]
  | r :: rs, k, o, sz, h => by
    simp only [RR, List.map_cons] at h ⊢
    exact ⟨⟨by rw [wkL_len]; exact h.1.1, wkL_pure _ h.1.2.1, RC_wkL _ _ _ h.1.2.2⟩, RR_wkL rs k (o + sz) sz h.2⟩

theorem R_lst_wk {g : Gh} {w : World} {rows : List (List AVal)} {x : Value} (h : R g w (.lst rows) x) : R g w (.lst (rows.map wkL)) x := by
  simp only [R, List.length_map] at h ⊢
  obtain ⟨a, cap, e, h1, h2⟩ := h
  refine ⟨a, cap, e, h1, ?_⟩
  rcases h2 with h2 | ⟨k, off, sz, ha, hr⟩
  · exact .inl h2
  · exact .inr ⟨k, off, sz, ha, RR_wkL _ _ _ _ hr⟩

theorem tidyC_inv {H0 : List ABlk} : ∀ {ts : List TS} {s : St} {k : St → Prop}, tsOk ts = true → tidyC H0 ts s k → ∃ s', Weak H0 s s' ∧ k s'
  | [], s, k, _, h => ⟨s, .refl _ _, h⟩
  | .keep l :: ts, s, k, hok, h => by
    simp only [tidyC, spineF_eq] at h
    obtain ⟨s', h1, h2⟩ := tidyC_inv (by simpa only [tsOk] using hok) h
    exact ⟨s', Weak.trans (s1 := { s with A := keepA l 0 s.A }) (fun _ _ g a w _ hl hs => ⟨g, ⟨hs.inv, RL_keep hs.tmps, hs.defs⟩, hl⟩) h1, h2⟩
  | .wk p :: ts, s, k, hok, h => by
    simp only [tidyC] at h
    split at h
    · rename_i s1 hw
      obtain ⟨s', h1, h2⟩ := tidyC_inv (by simpa only [tsOk] using hok) h
      exact ⟨s', (wkS_weak hw).trans h1, h2⟩
    · exact h.elim
  | .own p sz :: ts, s, k, hok, h => by
    simp only [tidyC] at h
    split at h
    · rename_i s1 hw
      obtain ⟨s', h1, h2⟩ := tidyC_inv (by simpa only [tsOk] using hok) h
      exact ⟨s', (ownS_weak hw).trans h1, h2⟩
    · exact h.elim
  | .frz z :: ts, s, k, hok, h => by
    simp only [tidyC] at h
    simp only [tsOk, Bool.and_eq_true, decide_eq_true_eq] at hok
    obtain ⟨q1, q2, h⟩ := h
    split at h
    · rename_i s1 hw
      obtain ⟨s', h1, h2⟩ := tidyC_inv hok.2 h
      exact ⟨s', (frzS_weak ⟨z.b, z.ver, z.sz, by rw [q1, hok.1], q2, z.pf⟩ hw).trans h1, h2⟩
    · exact h.elim
  | .rew z :: ts, s, k, hok, h => by
    simp only [tidyC] at h
    obtain ⟨q1, h⟩ := h
    obtain ⟨s', h1, h2⟩ := tidyC_inv (by simpa only [tsOk] using hok) h
    refine ⟨s', Weak.trans (s1 := setP s (.lst z.rows') z.p) (fun _ _ g a w _ hl hs => ?_) h1, h2⟩
    obtain ⟨p1, p2⟩ := setP_sound q1 hs (v' := .lst z.rows') fun x hx => by rw [← z.pf]; exact R_lst_wk hx
    exact ⟨g, p1, hl.trans p2⟩
  | .cut bl bump pu :: ts, s, k, hok, h => by
    simp only [tidyC, spineF_eq] at h
    obtain ⟨q1, h⟩ := h
    split at h
    · rename_i A H D hw
      obtain ⟨s', h1, h2⟩ := tidyC_inv (by simpa only [tsOk] using hok) h
      exact ⟨s', (cut_weak (puC_ok q1) hw).trans h1, h2⟩
    · exact h.elim

/-! ### Regions whose order is fixed -/

theorem stepD_sound {n : Nat} {ρ : Type} {r : ρ} {g : G P ρ} {gg : Gh} {H0 : List ABlk} {ww : World} (hi0 : Inv gg H0 ww) {k : G P ρ → OpRes → Foot → Prop} (h : stepC P cfg false H0 ops n0 o nid g s k) (hr : g.run n = some r)
    {g1 : Gh} {a : Act} {w : World} (hs : Sim g1 s a w) (hl : Later gg H0 ww g1 s.H w) :
    ∃ g2 s2, Sim g2 s2 a w ∧ Later gg H0 ww g2 s2.H w ∧ ∃ orc, OrcOk P orc ∧ ∃ res f g', stepOp P cfg orc ops n0 o nid s2 = some (res, f) ∧ k g' res f ∧ g'.run n = some r := by
  unfold stepC at h
  split at h
  · rename_i l g'
    simp only [G.run, Option.ite_none_right_eq_some] at hr
    obtain ⟨s', hw, h⟩ := tidyC_inv hr.1 h
    obtain ⟨g2, h1, h2⟩ := hw gg ww g1 a w hi0 hl hs
    exact ⟨g2, s', h1, h2, stepC1_sound h hr.2⟩
  · exact ⟨g1, s, hs, hl, stepC1_sound h hr⟩

theorem runD_sound {n : Nat} {ρ : Type} {r : ρ} {gg : Gh} {H0 : List ABlk} {ww : World} (hi0 : Inv gg H0 ww) {Q : Exit → Act → World → Prop} : ∀ (l : List (Oper × Nat)) (i : Nat) (g : G P ρ) (s : St) (k : G P ρ → OpRes → List Foot → Prop), runC P cfg false H0 ops n0 l g s k → g.run n = some r →
    (∀ (j : Nat), (l[j]?).map (fun (p : Oper × Nat) => p.1) = (ops.toList.drop i)[j]?) → ∀ (g1 : Gh) (a : Act) (w : World), Sim g1 s a w → Later gg H0 ww g1 s.H w →
    (∀ g' res fs, k g' res fs → g'.run n = some r → RegPost Q gg H0 ww res) → wpOpsIn (Fr none) 0 P ops Q (List.range' i l.length) a w
  | [], i, g, s, k, h, hr, _, g1, a, w, hs, hl, hp => by
    have := hp _ _ _ h hr
    exact this g1 a w hs hl
  | (o, nid) :: rest, i, g, s, k, h, hr, hj, g1, a, w, hs, hl, hp => by
    simp only [List.length_cons, List.range'_succ, wpOpsIn_cons]
    have hi : ops[i]? = some o := by
      have := hj 0
      simp at this
      exact this.symm
    simp only [runC] at h
    obtain ⟨g', h, hr⟩ := tick_sound h hr
    obtain ⟨g2, s2, hs2, hl2, orc, ho, res, f, g3, hst, h, hr⟩ := stepD_sound hi0 h hr hs hl
    cases res with
    | ok s' =>
      obtain ⟨A, H, D⟩ := s'
      simp only [spineF_eq] at h
      refine step_sound ho hs2 hi (.inl rfl) hst fun g4 a' w' hs' hla => ?_
      refine runD_sound hi0 rest (i + 1) g3 ⟨A, H, D⟩ _ h hr (fun j => ?_) g4 a' w' hs' (hl2.trans hla) fun g' res fs hk hr' => hp _ _ _ hk hr'
      have := hj (j + 1)
      simp only [List.getElem?_cons_succ, List.getElem?_drop] at this ⊢
      rw [this]; congr 1; omega
    | pan v s' =>
      have := hp _ _ _ h hr
      exact step_sound ho hs2 hi (.inl rfl) hst fun g' w' x hv hs' hla hx => this g' a w' x hv hs' (hl2.trans hla) hx

theorem regionD_sound {gg : Gh} {H0 : List ABlk} {ww : World} (hi0 : Inv gg H0 ww) {n : Nat} {ρ : Type} {r : ρ} {id : Nat} {g : G P ρ} {s : St} {k : G P ρ → OpRes → Prop} {Φ : AOut → St → Prop} (h : regionC P cfg H0 ops false g s k) (hr : g.run n = some r)
    (hk : ∀ g' res, k g' res → g'.run n = some r → Φ (outOf res).1 (outOf res).2) : Does P gg H0 ww (.region id ops false) s Φ := by
  intro Q g1 a w hs hl hp
  simp only [regionC, natF_eq, newsF_eq] at h
  generalize (if countAllocs ops.toList = 0 then 0 else tailFree s.H) = t0 at h
  generalize countAllocs ops.toList - t0 = m0 at h
  generalize s.H.length - t0 = f0 at h
  obtain ⟨i1, i2⟩ := hs.inv.reserve m0
  have hs0 : Sim g1 { s with H := s.H ++ List.replicate m0 .unborn } a w := ⟨i1, hs.tmps, hs.defs⟩
  refine wpIn_region ?_
  rw [List.range_eq_range']
  have := runD_sound hi0 (Q := Q) _ 0 _ _ _ h hr (fun j => by rw [numbered_get]; simp) g1 a w hs0 (hl.trans i2) fun g' res fs hk' hr' => by
    simp only [Bool.not_false, if_true] at hk'
    have := hp _ _ (hk g' res hk' hr')
    cases res with
    | ok s' => exact this
    | pan v s' => exact this
  rw [numbered_len] at this
  simpa using this

theorem preC_sound {H0 : List ABlk} {n : Nat} {ρ : Type} {r : ρ} {g : G P ρ} {s : St} {k : G P ρ → St → Prop} (h : preC H0 g s k) (hr : g.run n = some r) : ∃ s' g', Weak H0 s s' ∧ k g' s' ∧ g'.run n = some r := by
  unfold preC at h
  split at h
  · rename_i l g'
    simp only [G.run, Option.ite_none_right_eq_some] at hr
    obtain ⟨s', hw, h⟩ := tidyC_inv hr.1 h
    exact ⟨s', g', hw, h, hr.2⟩
  · exact ⟨s, g, .refl _ _, h, hr⟩

/-! ### Code -/

theorem round_inv {n : Nat} {σ : Type} {sh : Sh} {H0 : List ABlk} {E : σ → St} {X : sh.El → AOut × St} {g : G P (σ ⊕ sh.El)} {o : AOut} {s : St} {q : σ ⊕ sh.El} (h : roundC H0 E X g o s) (hr : g.run n = some q) :
    ∃ s', Weak H0 s s' ∧ match q with | .inl a => o = .normal ∧ s' = E a | .inr t => o ≠ .normal ∧ (o, s') = X t := by
  unfold roundC at h
  split at h
  · rename_i ts a
    simp only [G.run, Option.ite_none_right_eq_some, Option.some.injEq] at hr
    obtain ⟨hok, rfl⟩ := hr
    obtain ⟨s', h1, h2⟩ := tidyC_inv hok h
    simp only [Prod.mk.injEq] at h2
    exact ⟨s', h1, h2.1, h2.2⟩
  · rename_i ts t
    simp only [G.run, Option.ite_none_right_eq_some, Option.some.injEq] at hr
    obtain ⟨hok, rfl⟩ := hr
    split at h
    · exact h.elim
    · rename_i hne
      obtain ⟨s', h1, h2⟩ := tidyC_inv hok h
      exact ⟨s', h1, hne, h2⟩
  · simp [G.run] at hr
  · exact nomatch h

theorem gxC_sound (hm : P.follows .mixedOrders = true) {g0 : Gh} {H0 : List ABlk} {w0 : World} (hi0 : Inv g0 H0 w0) {n : Nat} : ∀ (c : Code) {ρ : Type} (r : ρ) (g : G P ρ) (s : St) (k : G P ρ → AOut → St → Prop) (Φ : AOut → St → Prop), gxC P cfg H0 c g s k → g.run n = some r →
    (∀ g' o s', k g' o s' → g'.run n = some r → Φ o s') → Does P g0 H0 w0 c s Φ := by
  intro c
  induction c with
  | skip => intro ρ r g s k Φ h hr hk; exact .skip (hk _ _ _ h hr)
  | region id ops draw =>
    intro ρ r g s k Φ h hr hk
    simp only [gxC] at h
    obtain ⟨s1, g1, hw, h, hr⟩ := preC_sound h hr
    refine .weak hi0 hw ?_
    cases draw with
    | false =>
      refine regionD_sound hi0 h hr fun g' res h' hr' => ?_
      cases res with
      | ok s' => exact hk _ _ _ h' hr'
      | pan v s' => exact hk _ _ _ h' hr'
    | true =>
      obtain ⟨orcs, ho, res, g', hreg, h, hr⟩ := regionC_sound h hr
      refine .region hm ho hreg ?_
      cases res with
      | ok s' => exact hk _ _ _ h hr
      | pan v s' => exact hk _ _ _ h hr
  | seq a b iha ihb =>
    intro ρ r g s k Φ h hr hk
    simp only [gxC] at h
    refine .seq (iha r g s _ _ h hr fun g' o s' h' hr' => ?_)
    cases o with
    | normal => exact ihb r g' s' k Φ h' hr' hk
    | exit id => exact hk _ _ _ h' hr'
    | ret => exact hk _ _ _ h' hr'
    | pan v => exact hk _ _ _ h' hr'
  | cond c a b iha ihb =>
    intro ρ r g s k Φ h hr hk
    simp only [gxC] at h
    obtain ⟨s1, g1, hw, h, hr⟩ := preC_sound h hr
    refine .weak hi0 hw ?_
    obtain ⟨g1, h, hr⟩ := tick_sound h hr
    split at h
    · rename_i m g2
      have hr2 : (G.less m g2).run n = some r := by rw [G.less_run]; simpa [G.run] using hr
      split at h
      · rename_i hc
        exact .cond true hc (iha r _ _ k Φ h hr2 hk)
      · rename_i hc
        exact .cond false hc (ihb r _ _ k Φ h hr2 hk)
      · exact h.elim
    · simp [G.run] at hr
    · exact nomatch h
  | block id b ih =>
    intro ρ r g s k Φ h hr hk
    simp only [gxC] at h
    refine .block (ih r g s _ _ h hr fun g' o s' h' hr' => ?_)
    cases o with
    | exit id' =>
      simp only at h'
      simp only [behind]
      split at h'
      · rename_i he; rw [if_pos he]; exact hk _ _ _ h' hr'
      · rename_i he; rw [if_neg he]; exact hk _ _ _ h' hr'
    | normal => exact hk _ _ _ h' hr'
    | ret => exact hk _ _ _ h' hr'
    | pan v => exact hk _ _ _ h' hr'
  | loop b ih =>
    intro ρ r g s k Φ h hr hk
    simp only [gxC] at h
    split at h
    · rename_i m g1
      simp only [G.run] at hr
      refine .loop hi0 (n := m) (s0 := s) (fun m s => ∃ g, iterC (fun g s k => gxC P cfg H0 b g s k) m g s k ∧ g.run n = some r) (fun s ⟨g, h, _⟩ => h.elim) (.refl _ _) ⟨g1, h, hr⟩ ?_
      rintro m s1 ⟨g2, h2, hr2⟩
      simp only [iterC] at h2
      refine ih r g2 s1 _ _ h2 hr2 fun g' o s' h' hr' => ⟨s', .refl _ _, ?_⟩
      cases o with
      | normal => exact ⟨g', h', hr'⟩
      | exit id => exact hk _ _ _ h' hr'
      | ret => exact hk _ _ _ h' hr'
      | pan v => exact hk _ _ _ h' hr'
    · rename_i σ sh hd E X a0 body kk
      obtain ⟨h0, hb, hx⟩ := h
      simp only [G.run, Option.ite_none_right_eq_some] at hr
      obtain ⟨hok, hr⟩ := hr
      cases ht : iterO (fun a => (body a).run n) n a0 with
      | none => rw [ht] at hr; cases hr
      | some t =>
        rw [ht] at hr
        have hx := (sh.all_iff _).1 hx t
        obtain ⟨_, h0, rfl⟩ := tidyC_inv hok h0
        refine .loop hi0 (n := n) (s0 := E a0) (fun m s1 => ∃ a, s1 = E a ∧ iterO (fun a => (body a).run n) m a = some t) (fun s ⟨a, _, h⟩ => by simp [iterO] at h) h0 ⟨a0, rfl, ht⟩ ?_
        rintro m s1 ⟨a, rfl, hit⟩
        simp only [iterO] at hit
        cases hq : (body a).run n with
        | none => rw [hq] at hit; cases hit
        | some q =>
          rw [hq] at hit
          refine ih q (body a) (E a) _ _ (hb a) hq fun g' o s' h' hr' => ?_
          obtain ⟨s3, hw, hm⟩ := round_inv h' hr'
          refine ⟨s3, hw, ?_⟩
          cases q with
          | inl a' =>
            obtain ⟨rfl, rfl⟩ := hm
            exact ⟨a', rfl, hit⟩
          | inr t' =>
            simp only [Option.some.injEq] at hit
            subst hit
            obtain ⟨hne, hm⟩ := hm
            rw [← hm] at hx
            have : Φ o s3 := hk _ _ _ hx (by simpa using hr)
            cases o with
            | normal => exact absurd rfl hne
            | exit id => exact this
            | ret => exact this
            | pan v => exact this
    · simp [G.run] at hr
    · exact nomatch h
  | exit id => intro ρ r g s k Φ h hr hk; exact .exit (hk _ _ _ h hr)
  | ret => intro ρ r g s k Φ h hr hk; exact .ret (hk _ _ _ h hr)
  | _ => intro ρ r g s k Φ h hr hk; exact h.elim

end
end Go.AM
