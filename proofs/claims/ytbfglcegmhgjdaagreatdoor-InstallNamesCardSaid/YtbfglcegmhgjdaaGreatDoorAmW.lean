/- Code. No program. -/
import Derived.Test.YtbfglcegmhgjdaaGreatDoorAmV
import Derived.Scope
import Derived.RangeFuncNested
namespace Go.AM

section
set_option linter.unusedSectionVars false
variable [Globs] {P : Program} {cfg : Cfg} {orc : Orc} {g : Gh} {H : List ABlk} {w : World}

/-- What a statement comes to. -/
def OutPost (Q : Exit → Act → World → Prop) (g : Gh) (H : List ABlk) (w : World) (s' : St) : AOut → Prop
  | .normal => ∀ g' a' w', Sim g' s' a' w' → Later g H w g' s'.H w' → Q .normal a' w'
  | .exit id => ∀ g' a' w', Sim g' s' a' w' → Later g H w g' s'.H w' → Q (.exit id) a' w'
  | .ret => ∀ g' a' w', Sim g' s' a' w' → Later g H w g' s'.H w' → Q .ret a' w'
  | .pan v => ∀ g' a' w' x, v.flat = true → Sim g' s' a' w' → Later g H w g' s'.H w' → R g' w' v x → Q (.panic [{ v := x, recovered := false }]) a' w'

theorem OutPost.later {Q : Exit → Act → World → Prop} {g1 : Gh} {H1 : List ABlk} {w1 : World} {s' : St} {r : AOut} (h : OutPost Q g H w s' r) (hl : Later g H w g1 H1 w1) : OutPost Q g1 H1 w1 s' r := by
  cases r with
  | normal => exact fun g' a' w' hs hl' => h g' a' w' hs (hl.trans hl')
  | exit id => exact fun g' a' w' hs hl' => h g' a' w' hs (hl.trans hl')
  | ret => exact fun g' a' w' hs hl' => h g' a' w' hs (hl.trans hl')
  | pan v => exact fun g' a' w' x hv hs hl' hr => h g' a' w' x hv hs (hl.trans hl') hr

theorem RL_forget {a : Act} : ∀ (l : List Nat) (A : List AVal), RL g w A a.tmps.toList → RL g w (forget l A) a.tmps.toList
  | [], _, h => h
  | t :: l, A, h => by
    have := RL_forget (a := a) l (A.set t .junk) (by
      grind [RL_get, RL_of, R])
    simpa [forget] using this

/-- We are in the round of a loop of ours, or in none. -/
def RoOk (g : Gh) : Option Nat → Option Nat → Prop
  | none, none => True
  | some b, some k => ∃ sz, g.rho b 0 = some (k, sz)
  | _, _ => False

theorem RoOk.mono {g g' : Gh} {w w' : World} (h : Ext g w g' w') : ∀ {x y : Option Nat}, RoOk g x y → RoOk g' x y
  | none, none, _ => trivial
  | some _, some _, ⟨sz, hr⟩ => ⟨sz, h.rho _ _ _ hr⟩
  | none, some _, hr => hr.elim
  | some _, none, hr => hr.elim

theorem loop_sound {fro : Option Nat} {ro : Option Nat} {c : Code} {f : St → Option (AOut × St)} {Q : Exit → Act → World → Prop}
    (hc : ∀ (Q : Exit → Act → World → Prop) (s : St) (g : Gh) (a : Act) (w : World) (out : AOut) (s' : St), RoOk g ro fro → f s = some (out, s') → Sim g s a w → OutPost Q g s.H w s' out → c.wpIn (Fr fro) 0 P Q a w) :
    ∀ (n : Nat) (s : St) (g : Gh) (a : Act) (w : World) (out : AOut) (s' : St), RoOk g ro fro → iter f n s = some (out, s') → Sim g s a w → OutPost Q g s.H w s' out →
      ∀ (b : Frame) (k : List Item) (cs : List Frame), b.roundOf = (Fr fro).round → ∃ e a' w', Q e a' w' ∧ ArrivesIn (Machine.fenced P (Fr fro)) P (lone (b.atR a (.code c :: .inLoop c :: k)) cs w) b k cs e a' w'
  | 0, s, g, a, w, out, s', _, h, _, _ => by simp [iter] at h
  | n + 1, s, g, a, w, out, s', hro, h, hs, hp => by
    intro b k cs hb
    simp only [iter] at h
    have hstep : c.wpIn (Fr fro) 0 P (Exit.then (fun a' w' => ∀ (b : Frame) (k : List Item) (cs : List Frame), b.roundOf = (Fr fro).round → ∃ e a2 w2, Q e a2 w2 ∧ ArrivesIn (Machine.fenced P (Fr fro)) P (lone (b.atR a' (.code c :: .inLoop c :: k)) cs w') b k cs e a2 w2) Q) a w := by
      split at h
      · rename_i s1 hf
        exact hc _ s g a w .normal s1 hro hf hs fun g' a' w' hs' hla => loop_sound hc n s1 g' a' w' out s' (hro.mono hla.ext) h hs' (hp.later hla)
      · rename_i hne
        cases hf : f s with
        | none => rw [hf] at h; cases h
        | some r =>
          obtain ⟨o1, s1⟩ := r
          rw [hf] at h
          simp only [Option.some.injEq, Prod.mk.injEq] at h
          obtain ⟨rfl, rfl⟩ := h
          refine hc _ s g a w o1 s1 hro hf hs ?_
          cases o1 with
          | normal => exact absurd hf (hne s1)
          | exit id => exact hp
          | ret => exact hp
          | pan v => exact hp
    obtain ⟨e, a₁, w₁, hq, harr⟩ := hstep b (.inLoop c :: k) cs hb trivial (room_Fr _ _)
    cases e with
    | normal =>
      obtain ⟨e₂, a₂, w₂, hq₂, harr₂⟩ := hq b k cs hb
      exact ⟨e₂, a₂, w₂, hq₂, .of_steps (StepsIn.trans harr (.one (fenced_calm (n := 0) trivial (room_Fr _ _) rfl) stepR_inLoop)) harr₂⟩
    | exit id => exact ⟨_, a₁, w₁, hq, .pass (x := .inLoop c) rfl (fun _ _ => .inl (by simp)) harr⟩
    | goto l => exact ⟨_, a₁, w₁, hq, .pass (x := .inLoop c) rfl (fun _ _ => .inl (by simp)) harr⟩
    | ret => exact ⟨_, a₁, w₁, hq, .pass (x := .inLoop c) rfl (fun _ _ => .inl (by simp)) harr⟩
    | panic ch => exact ⟨_, a₁, w₁, hq, .pass (x := .inLoop c) rfl (fun _ _ => .inl (by simp)) harr⟩
    | outgrown => exact ⟨_, a₁, w₁, hq, .pass (x := .inLoop c) rfl (fun _ _ => .inl (by simp)) harr⟩

/-! ### A loop over a function -/

/-- A block of ours becomes another one of the machine's own kinds. -/
theorem Inv.put {b k z : Nat} {x y : ABlk} {ob : Obj} (hi : Inv g H w) (hb : H[b]? = some x) (hv : x.live = some 0) (hk : g.rho b 0 = some (k, z)) (hy : y.live = some 0)
    (hnc : w.shape? k = none) (hg : Ext g w g (w.putObj k ob) → Good g (w.putObj k ob) b y) :
    Inv g (H.set b y) (w.putObj k ob) ∧ Later g H w g (H.set b y) (w.putObj k ob) := by
  refine hi.inplace hb hv hk hy (fun j hj => World.putObj_heap_other hj) World.putObj_size (fun j x hx => ?_) rfl ⟨rfl, Nat.le_of_eq rfl⟩ rfl hg
  have hj : j ≠ k := by rintro rfl; rw [hnc] at hx; cases hx
  simpa [World.shape?, World.putObj_heap_other (o := ob) hj] using hx

theorem shape?_loop {k : Nat} {r : Loop} (h : w.heap[k]? = some (.loop r)) : w.shape? k = none := by simp [World.shape?, h]

/-- The record is entered. -/
theorem enter_sound {ro fro : Option Nat} {fid : FuncId} {ps : Array Tmp} {assign body : Code} {s : St} {a : Act} {l : Nat} {H1 : List ABlk} {D1 : List DefA} (hro : RoOk g ro fro) (hs : Sim g s a w)
    (h : enterA ro fid ps assign body s = some (l, H1, D1)) (fn : FuncId) :
    ∃ k mark w1 g1, (Instr.enterLoop fn a.tmps ps assign body fro).run P w = .ok (k, mark) w1 ∧ Inv g1 H1 w1 ∧ Later g s.H w g1 H1 w1 ∧ g1.rho l 0 = some (k, 0) ∧ RD g1 w1 D1 (mark ++ a.defers) := by
  unfold enterA at h
  cases ro with
  | none =>
    cases fro with
    | some k => exact hro.elim
    | none =>
      simp only [Option.some.injEq, Prod.mk.injEq] at h
      obtain ⟨rfl, rfl, rfl⟩ := h
      obtain ⟨i0, l0⟩ := hs.inv.reserve 2
      have hn0 : (s.H ++ List.replicate 2 ABlk.unborn)[s.H.length]? = some .unborn := by simp
      obtain ⟨i1, l1, r1⟩ := i0.newBlk (sz := 0) (y := .defs) (ob := .deferred (some [])) hn0 rfl ⟨w.heap.size, by simp [Gh.born], alloc_get⟩
      have hn1 : ((s.H ++ List.replicate 2 ABlk.unborn).set s.H.length .defs)[s.H.length + 1]? = some .unborn := by
        rw [List.getElem?_set_ne (by omega)]; simp
      have hl1 := RL_mono l1.ext _ _ (RL_mono l0.ext _ _ hs.tmps)
      obtain ⟨i2, l2, r2⟩ := i1.newBlk (sz := 0) (y := .loop .ready none fid s.A ps.toList assign body)
        (ob := .loop { state := .ready, pending := none, fn := fn, tmps := a.tmps, params := ps, assign := assign, body := body, defers := w.heap.size }) hn1 rfl
        ⟨(w.alloc (.deferred (some []))).heap.size, a.tmps, w.heap.size, fn, by simp [Gh.born], by rw [alloc_get], RL_mono (Ext.born (i1.fresh _ 0 (.inl hn1)) (fun k o hs => cell?_of_heap (RowKit.Below.heap_alloc _ _ k (i1.stold k o hs)) o) fun k x hx => shape?_alloc hx) _ _ hl1⟩
      have hH : ((s.H ++ List.replicate 2 ABlk.unborn).set s.H.length .defs).set (s.H.length + 1) (.loop .ready none fid s.A ps.toList assign body) = s.H ++ [.defs, .loop .ready none fid s.A ps.toList assign body] := by
        rw [List.set_append_right _ _ (Nat.le_refl _), List.set_append_right _ _ (by omega)]
        simp [List.replicate]
      rw [hH] at i2 l2
      refine ⟨_, _, _, _, run_enterLoop_outer fn a.tmps ps assign body, i2, l0.trans (l1.trans l2), by simpa using r2, ?_⟩
      refine ⟨_, _, rfl, ⟨w.heap.size, 0, l2.ext.rho _ _ _ r1, rfl⟩, ?_⟩
      exact RD_mono (l0.trans (l1.trans l2)).ext _ _ hs.defs
  | some b =>
    cases fro with
    | none => exact hro.elim
    | some kb =>
      simp only at h
      split at h
      · rename_i st pend fid' A' ps' as' bd' hb
        simp only [Option.some.injEq, Prod.mk.injEq] at h
        obtain ⟨rfl, rfl, rfl⟩ := h
        obtain ⟨k0, tmps0, dk0, fn0, q1, q2, _⟩ := hs.inv.good b _ hb
        obtain ⟨sz, hr⟩ := hro
        rw [hr] at q1
        simp only [Option.some.injEq, Prod.mk.injEq] at q1
        obtain ⟨rfl, _⟩ := q1
        obtain ⟨i0, l0⟩ := hs.inv.reserve 1
        have hn0 : (s.H ++ List.replicate 1 ABlk.unborn)[s.H.length]? = some .unborn := by simp
        have hl1 := RL_mono l0.ext _ _ hs.tmps
        obtain ⟨i2, l2, r2⟩ := i0.newBlk (sz := 0) (y := .loop .ready none fid s.A ps.toList assign body)
          (ob := .loop { state := .ready, pending := none, fn := fn, tmps := a.tmps, params := ps, assign := assign, body := body, defers := dk0 }) hn0 rfl
          ⟨w.heap.size, a.tmps, dk0, fn, by simp [Gh.born], by rw [alloc_get], RL_mono (Ext.born (i0.fresh _ 0 (.inl hn0)) (fun k o hs => cell?_of_heap (RowKit.Below.heap_alloc _ _ k (i0.stold k o hs)) o) fun k x hx => shape?_alloc hx) _ _ hl1⟩
        have hH : (s.H ++ List.replicate 1 ABlk.unborn).set s.H.length (.loop .ready none fid s.A ps.toList assign body) = s.H ++ [.loop .ready none fid s.A ps.toList assign body] := by
          rw [List.set_append_right _ _ (Nat.le_refl _)]
          simp [List.replicate]
        rw [hH] at i2 l2
        exact ⟨_, _, _, _, run_enterLoop_inner q2 fn a.tmps ps assign body, i2, l0.trans l2, r2, RD_mono (l0.trans l2).ext _ _ hs.defs⟩
      · cases h

/-- The record is left. -/
theorem end_sound {fro : Option Nat} {l k : Nat} {D1 : List DefA} {s s' : St} {out : AOut} {H2 : List ABlk} {a : Act} {Q : Exit → Act → World → Prop} (hk : g.rho l 0 = some (k, 0)) (hi : Inv g H2 w) (ht : RL g w s.A a.tmps.toList) (hd : RD g w D1 a.defers)
    (h : endA l D1 s H2 = some (out, s')) (hp : OutPost Q g H2 w s' out) :
    ∃ jump w4, (Instr.endLoop k).run P w = .ok jump w4 ∧ (match jump with | none => Q .normal a w4 | some c => c.wpIn (Fr fro) 0 P Q a w4) := by
  unfold endA at h
  split at h
  · rename_i st pend fid A ps assign body hb
    split at h
    · cases h
    · rename_i hst
      obtain ⟨k0, tmps0, dk0, fn0, q1, q2, q3⟩ := hi.good l _ hb
      rw [hk] at q1
      simp only [Option.some.injEq, Prod.mk.injEq] at q1
      obtain ⟨rfl, _⟩ := q1
      refine ⟨_, _, run_endLoop q2 hst, ?_⟩
      obtain ⟨i1, l1⟩ := hi.put (y := .loop .exhausted pend fid A ps assign body)
        (ob := .loop { state := .exhausted, pending := pend, fn := fn0, tmps := tmps0, params := ps.toArray, assign := assign, body := body, defers := dk0 }) hb rfl hk rfl (shape?_loop q2)
        fun hext => ⟨_, tmps0, dk0, fn0, hk, World.putObj_heap_same (Array.getElem?_eq_some_iff.1 q2).1, RL_mono hext _ _ q3⟩
      have hsim : Sim g { s with H := H2.set l (.loop .exhausted pend fid A ps assign body), D := D1 } a (w.putObj k (.loop { state := .exhausted, pending := pend, fn := fn0, tmps := tmps0, params := ps.toArray, assign := assign, body := body, defers := dk0 })) :=
        ⟨i1, RL_mono l1.ext _ _ ht, RD_mono l1.ext _ _ hd⟩
      split at h
      · simp only [Option.some.injEq, Prod.mk.injEq] at h
        obtain ⟨rfl, rfl⟩ := h
        exact hp g _ _ hsim l1
      · simp only [Option.some.injEq, Prod.mk.injEq] at h
        obtain ⟨rfl, rfl⟩ := h
        exact wpIn_ret (hp g _ _ hsim l1)
      · simp only [Option.some.injEq, Prod.mk.injEq] at h
        obtain ⟨rfl, rfl⟩ := h
        exact wpIn_exit (hp g _ _ hsim l1)
      · cases h
  · cases h

theorem range_sound (ho : OrcOk P orc) {ro fro : Option Nat} {fid : FuncId} {x : Operand} {ps : Array Tmp} {assign body : Code} {s s' : St} {a : Act} {out : AOut} {Q : Exit → Act → World → Prop} (hro : RoOk g ro fro)
    (h : rangeA orc ro fid (evalA s.A x) ps assign body s = some (out, s')) (hs : Sim g s a w) (hp : OutPost Q g s.H w s' out) : (Code.rangeFunc x ps assign body).wpIn (Fr fro) 0 P Q a w := by
  unfold rangeA at h
  split at h
  · rename_i n p q hf
    split at h
    · rename_i l H1 D1 hen
      rw [spineF_eq] at h
      split at h
      · rename_i ids hids
        have hev := hs.eval x
        rw [hf] at hev
        refine wpIn_rangeFunc fun fn _ => ?_
        obtain ⟨k, mark, w1, g1, hrun, i1, l1, rk, hd⟩ := enter_sound (P := P) hro hs hen fn
        have hev1 := R_mono l1.ext _ _ hev
        simp only [R] at hev1
        obtain ⟨va, vb, hfo, ra, rb⟩ := hev1
        have hl : RL g1 w1 (p ++ [.yld l] ++ q) ((va.toArray ++ #[Value.func (.yield k) #[] #[]]) ++ vb.toArray).toList := by
          simp only [Array.toList_append]
          refine RL_append (RL_append (by simpa using ra) ?_) (by simpa using rb)
          simp only [RL, R]
          exact ⟨_, _, rfl, ⟨k, 0, rk, rfl⟩, rfl⟩
        have ht := RL_mono l1.ext _ _ hs.tmps
        have hfin : ∃ fin, finish orc H1 (.byRef n (p ++ [.yld l] ++ q) ids) = some fin := by
          cases hc : finish orc H1 (.byRef n (p ++ [.yld l] ++ q) ids) with
          | none => rw [hc] at h; cases h
          | some fin => exact ⟨fin, rfl⟩
        obtain ⟨fin, hfin⟩ := hfin
        obtain ⟨⟨fn1, c1, k1, k2, k3⟩, hpost⟩ := byRef_post ho i1 hl hfin
        refine ⟨k, mark, w1, { target := .fn (.func n) vb.toArray, args := va.toArray ++ #[Value.func (.yield k) #[] #[]] }, w1, n, (va.toArray ++ #[Value.func (.yield k) #[] #[]]) ++ vb.toArray, w1, hrun, ?_, fun _ _ => trivial, ?_, depth_Fr fro, calls_Fr ?_⟩
        · have hc : a.eval (.const (.func (.yield k) #[] #[])) = .func (.yield k) #[] #[] := rfl
          simp [resolve, hfo, Deferred.ofValue, hc]
        · simp [invoke, run_callFunc k1 k2 k3]
        · rw [hfin] at h
          rcases hpost with ⟨eff, rfl, hcalls⟩ | ⟨v', rfl, hfl, hcalls⟩
          · refine hcalls.mono ?_
            rintro e w' ⟨y, g', rfl, hi', _, hla⟩
            simp only [effF_eq, applyF_eq] at h
            exact end_sound (a := { a with defers := mark ++ a.defers }) (hla.ext.rho _ _ _ rk) hi' (RL_mono hla.ext _ _ ht) (RD_mono hla.ext _ _ hd) h (hp.later (l1.trans hla))
          · refine hcalls.mono ?_
            rintro e w' ⟨y, rfl, hi', hr, hla⟩
            simp only [Option.some.injEq, Prod.mk.injEq] at h
            obtain ⟨rfl, rfl⟩ := h
            exact hp g1 { a with defers := mark ++ a.defers } w' y hfl ⟨hi', RL_mono hla.ext _ _ ht, RD_mono hla.ext _ _ hd⟩ (l1.trans hla) hr
      · cases h
    · cases h
  · cases h

theorem stepR_scope {P : Program} {b : Frame} {a : Act} {k : List Item} {cs : List Frame} {w : World} {c : Code} :
    step P (lone (b.atR a (.code (.scope c) :: k)) cs w) = .next (lone (b.atR a (.code c :: .inScope c :: k)) cs w) :=
  step_lone_go (by simp [stepG, stepG.exec, Frame.atR])
theorem stepR_inScope {P : Program} {b : Frame} {a : Act} {k : List Item} {cs : List Frame} {w : World} {c : Code} :
    step P (lone (b.atR a (.inScope c :: k)) cs w) = .next (lone (b.atR a k) cs w) :=
  step_lone_go (by simp [stepG, stepG.exec, Frame.atR])

/-- A scope that is gone through without a jump to a label. -/
theorem wpIn_scope {F : Fence} {n : Nat} {P : Program} {Q : Exit → Act → World → Prop} {a : Act} {w : World} {c : Code} (h : c.wpIn F n P (Exit.noGoto Q) a w) : (Code.scope c).wpIn F n P Q a w := by
  intro b k cs hro hb hr
  have h0 : (lone (b.atR a (.code (.scope c) :: k)) cs w).fenced P F := fenced_calm hb hr rfl
  obtain ⟨e, a₁, w₁, hq, harr⟩ := h b (.inScope c :: k) cs hro hb hr
  cases e with
  | normal => exact ⟨.normal, a₁, w₁, hq, .head h0 stepR_scope (StepsIn.trans harr (.one (fenced_calm hb hr rfl) stepR_inScope))⟩
  | exit id' =>
    have hx : exitTo id' (.inScope c :: k) = exitTo id' k := by simp [exitTo]
    exact ⟨.exit id', a₁, w₁, hq, fun k' hk => .head h0 stepR_scope (harr.1 k' (by rw [hx]; exact hk)),
      fun hr' hk => let ⟨k₁, h1, h2⟩ := harr.2 hr' (by rw [hx]; exact hk); ⟨k₁, h1, .head h0 stepR_scope h2⟩⟩
  | goto l => exact hq.elim
  | ret => exact ⟨_, a₁, w₁, hq, .of_steps (.one h0 stepR_scope) harr⟩
  | panic ch => exact ⟨_, a₁, w₁, hq, .of_steps (.one h0 stepR_scope) harr⟩
  | outgrown => exact ⟨_, a₁, w₁, hq, .of_steps (.one h0 stepR_scope) harr⟩

theorem exec_sound (hm : P.follows .mixedOrders = true) (ho : OrcOk P orc) {ro fro : Option Nat} {fid n : Nat} : ∀ (c : Code) (cur : Nat) (Q : Exit → Act → World → Prop) (s : St) (g : Gh) (a : Act) (w : World) (out : AOut) (s' : St), RoOk g ro fro →
    exec P cfg orc ro fid n cur c s = some (out, s') → Sim g s a w → OutPost Q g s.H w s' out → c.wpIn (Fr fro) 0 P Q a w := by
  intro c
  induction c with
  | skip =>
    intro cur Q s g a w out s' hro h hs hp
    simp only [exec, Option.some.injEq, Prod.mk.injEq] at h
    obtain ⟨rfl, rfl⟩ := h
    exact wpIn_skip (hp g a w hs (Later.refl _ _ _))
  | region id ops draw =>
    intro cur Q s g a w out s' hro h hs hp
    simp only [exec] at h
    split at h
    · cases h
    · rename_i hoff
      have hcalm : ∀ (k : Nat) (o : Oper), ops[k]? = some o → Calm fro o := by
        intro k o hk
        cases ro with
        | none =>
          cases fro with
          | none => exact .inl rfl
          | some k => exact hro.elim
        | some b =>
          right
          grind
      split at h
      · rename_i s1 hr
        simp only [Option.some.injEq, Prod.mk.injEq] at h
        obtain ⟨rfl, rfl⟩ := h
        exact region_sound hm (fun _ => ho) hcalm hr hs hp
      · rename_i v s1 hr
        simp only [Option.some.injEq, Prod.mk.injEq] at h
        obtain ⟨rfl, rfl⟩ := h
        exact region_sound hm (fun _ => ho) hcalm hr hs hp
      · cases h
  | seq x y ihx ihy =>
    intro cur Q s g a w out s' hro h hs hp
    simp only [exec] at h
    refine wpIn_seq ?_
    split at h
    · rename_i s1 hx
      exact ihx cur _ s g a w .normal s1 hro hx hs fun g' a' w' hs' hla => ihy cur Q s1 g' a' w' out s' (hro.mono hla.ext) h hs' (hp.later hla)
    · rename_i hne
      refine ihx cur _ s g a w out s' hro h hs ?_
      cases out with
      | normal => exact absurd h (hne s')
      | exit id => exact hp
      | ret => exact hp
      | pan v => exact hp
  | cond c x y ihx ihy =>
    intro cur Q s g a w out s' hro h hs hp
    simp only [exec] at h
    have hev := hs.eval c
    split at h
    · rename_i hc
      rw [hc] at hev
      simp only [R] at hev
      exact wpIn_cond_true hev (ihx cur Q s g a w out s' hro h hs hp)
    · rename_i hc
      rw [hc] at hev
      simp only [R] at hev
      exact wpIn_cond_false hev (ihy cur Q s g a w out s' hro h hs hp)
    · cases h
  | block id b ih =>
    intro cur Q s g a w out s' hro h hs hp
    simp only [exec] at h
    refine wpIn_block ?_
    split at h
    · rename_i id' s1 hb
      split at h
      · rename_i he
        simp only [Option.some.injEq, Prod.mk.injEq] at h
        obtain ⟨rfl, rfl⟩ := h
        refine ih id _ s g a w (.exit id') s1 hro hb hs fun g' a' w' hs' hla => ?_
        simp only [Exit.inBlock, he, if_true]
        exact hp g' a' w' hs' hla
      · rename_i he
        simp only [Option.some.injEq, Prod.mk.injEq] at h
        obtain ⟨rfl, rfl⟩ := h
        refine ih id _ s g a w (.exit id') s1 hro hb hs fun g' a' w' hs' hla => ?_
        simp only [Exit.inBlock, he, if_false]
        exact hp g' a' w' hs' hla
    · rename_i hne
      refine ih id _ s g a w out s' hro h hs ?_
      cases out with
      | normal => exact hp
      | exit id' => exact absurd h (hne id' s')
      | ret => exact hp
      | pan v => exact hp
  | loop b ih =>
    intro cur Q s g a w out s' hro h hs hp
    simp only [exec] at h
    intro fr k cs hfr _ hroom
    have := loop_sound (P := P) (c := b) (Q := Q) (ro := ro) (fro := fro) (f := fun s => exec P cfg orc ro fid n cur b { s with A := forget (cfg.kill fid cur) s.A })
      (fun Q s g a w out s' hro hf hs hp => ih cur Q _ g a w out s' hro hf ⟨hs.inv, RL_forget _ _ hs.tmps, hs.defs⟩ hp) n s g a w out s' hro h hs hp fr k cs hfr
    obtain ⟨e, a', w', hq, harr⟩ := this
    exact ⟨e, a', w', hq, .of_steps (.one (fenced_calm trivial hroom rfl) stepR_loop) harr⟩
  | exit id =>
    intro cur Q s g a w out s' hro h hs hp
    simp only [exec, Option.some.injEq, Prod.mk.injEq] at h
    obtain ⟨rfl, rfl⟩ := h
    exact wpIn_exit (hp g a w hs (Later.refl _ _ _))
  | ret =>
    intro cur Q s g a w out s' hro h hs hp
    simp only [exec, Option.some.injEq, Prod.mk.injEq] at h
    obtain ⟨rfl, rfl⟩ := h
    exact wpIn_ret (hp g a w hs (Later.refl _ _ _))
  | rangeFunc x ps as bd =>
    grind [exec, range_sound]
  | scope b ih =>
    intro cur Q s g a w out s' hro h hs hp
    simp only [exec] at h
    refine wpIn_scope (ih cur _ s g a w out s' hro h hs ?_)
    cases out <;> exact hp
  | label l =>
    intro cur Q s g a w out s' hro h hs hp
    simp only [exec, Option.some.injEq, Prod.mk.injEq] at h
    obtain ⟨rfl, rfl⟩ := h
    exact wpIn_label (hp g a w hs (Later.refl _ _ _))
  | goto => grind [exec]
  | refuse => grind [exec]

/-! ### Results -/

def resOne (tmps : Array Value) : ResultVar → Sem Value
  | .tmp t => pure (tmps.getD t undef)
  | .cell b t => do loadVar t (← asAddr (tmps.getD b undef))

theorem results_eq (fn : Func) (tmps : Array Value) : results fn tmps = (fn.results.mapM (resOne tmps) >>= fun vs => pure (if h : vs.size = 1 then vs[0] else .tuple vs)) := by
  have : (fun r => match r with
    | ResultVar.tmp t => (pure (tmps.getD t undef) : Sem Value)
    | ResultVar.cell a t => do loadVar t (← asAddr (tmps.getD a undef))) = resOne tmps := by
    funext r; cases r <;> rfl
  unfold results
  rw [← this]
  rfl

theorem result_sound {A : List AVal} {a : Act} (hi : Inv g H w) (hl : RL g w A a.tmps.toList) : ∀ (rv : ResultVar) (v : AVal), resultA P A H rv = some v →
    ∃ x, (resOne a.tmps rv).run P w = .ok x w ∧ R g w v x := by
  intro rv v h
  have hget : ∀ t, R g w (A.getD t nothing) (a.tmps.getD t undef) := fun t =>
    (Sim.eval (s := ⟨A, H, []⟩) (a := { a with defers := [] }) ⟨hi, hl, rfl⟩ (.tmp t) : _)
  cases rv with
  | tmp t =>
    simp only [resultA, Option.some.injEq] at h
    subst h
    exact ⟨_, rfl, hget t⟩
  | cell t T =>
    simp only [resultA] at h
    split at h
    · rename_i eff he
      simp only [Option.some.injEq] at h
      subst h
      have hx := hget t
      unfold loadA at he
      split at he
      · rename_i b off hb
        rw [hb] at hx; simp only [R] at hx
        obtain ⟨y, hy, rfl⟩ := yields_some he
        obtain ⟨cs, hcs, hl'⟩ := Option.bind_eq_some_iff.1 hy
        obtain ⟨vs, v1, v2, v3, v4⟩ := RL_of_RC (hi.globs _ _ hcs).2
        obtain ⟨v, r1, r2⟩ := run_loadVar (P := P) (k := b) (p := 0) hl' v3 v2 v4
        refine ⟨v, ?_, r2⟩
        simp only [Nat.zero_add] at r1
        simp [resOne, hx, asAddr, r1]
      · rename_i b ver i off hb
        rw [hb] at hx; simp only [R] at hx
        obtain ⟨k, sz, hk, hv⟩ := hx
        obtain ⟨⟨sz', rows⟩, h1, h2⟩ := bind_some he
        have hrow := rowOf_some h1
        obtain ⟨y, hy, rfl⟩ := yields_some h2
        obtain ⟨cs, hcs, hl'⟩ := Option.bind_eq_some_iff.1 hy
        obtain ⟨k', c, e, q1, q2, q3, _⟩ := hi.row b ver _ _ hrow hk
        rw [hk] at q1; simp at q1; obtain ⟨rfl, rfl⟩ := q1
        obtain ⟨_, q4⟩ := RowsAt_get _ _ _ _ q3 hcs
        obtain ⟨vs, v1, v2, v3, v4⟩ := RL_of_CellsAt q4
        obtain ⟨v, r1, r2⟩ := run_loadVar (P := P) (k := k) (p := 0 + i * sz) hl' v3 v2 (fun j hj => by rw [cell?_cells q2]; exact v4 j hj)
        refine ⟨v, ?_, r2⟩
        simp at r1
        simp [resOne, hv, asAddr, r1]
      · rename_i cs off hb
        rw [hb] at hx; simp only [R] at hx
        obtain ⟨k, p, hv, _, hc⟩ := hx
        obtain ⟨y, hy, rfl⟩ := yields_some he
        obtain ⟨vs, v1, v2, v3, v4⟩ := RL_of_RC hc
        obtain ⟨v, r1, r2⟩ := run_loadVar (P := P) (k := k) (p := p) hy v3 v2 v4
        refine ⟨v, ?_, r2⟩
        simp [resOne, hv, asAddr, r1]
      · simp [Rd.run] at he
    · cases h

theorem results_sound {fn : Func} {A : List AVal} {a : Act} {vs : List AVal} (hi : Inv g H w) (hl : RL g w A a.tmps.toList) (h : resultsA P A H fn.results.toList = some vs) :
    ∃ x, (results fn a.tmps).run P w = .ok x w ∧ R g w (resultOf vs) x := by
  have key : ∀ (l : List ResultVar) (vs : List AVal), resultsA P A H l = some vs → ∃ xs : List Value,
      (l.mapM (resOne a.tmps)).run P w = .ok xs w ∧ RL g w vs xs := by
    intro l
    induction l with
    | nil => intro vs h; simp [resultsA] at h; subst h; exact ⟨[], by simp, by simp [RL]⟩
    | cons r rs ih =>
      intro vs h
      simp only [resultsA] at h
      split at h
      · rename_i v vs' h1 h2
        simp only [Option.some.injEq] at h
        subst h
        obtain ⟨x, x1, x2⟩ := result_sound hi hl r v h1
        obtain ⟨xs, y1, y2⟩ := ih vs' h2
        refine ⟨x :: xs, ?_, by grind [RL]⟩
        simp_all
      · cases h
  obtain ⟨xs, h1, h2⟩ := key _ _ h
  have hlen := (RL_get _ _ h2).1
  have hm : (fn.results.mapM (resOne a.tmps)).run P w = .ok xs.toArray w := by
    rw [Array.mapM_eq_mapM_toList]
    simp only [Sem.run_map, h1, Result.andThen_ok]
  rw [results_eq]
  simp only [Sem.run_bind, hm, Result.andThen_ok, Sem.run_pure]
  refine ⟨if h : xs.toArray.size = 1 then xs.toArray[0] else .tuple xs.toArray, ?_, ?_⟩
  · rfl
  · match vs, xs, h2, hlen with
    | [], [], h2, _ => simp [resultOf, R, RL]
    | [v], [x], h2, _ => simpa [resultOf, RL] using h2
    | v :: v' :: vs, x :: x' :: xs, h2, _ =>
      grind [resultOf, R]
end
end Go.AM
