/- Calls and rounds. No program. -/
import Derived.Test.YtbfglcegmhgjdaaGreatDoorAmW
import Derived.RecoverIn
namespace Go.AM

section
set_option linter.unusedSectionVars false
variable [Globs] {P : Program} {cfg : Cfg} {orc : Orc} {g : Gh} {H : List ABlk} {w : World}

theorem wpSIn_mono {F : Fence} {n : Nat} {c : Code} {Q Q' : Exit → Act → List Frame → World → Prop} {a : Act} {cs : List Frame} (h : c.wpSIn F n P Q a cs w) (hq : ∀ e a cs w, Q e a cs w → Q' e a cs w) : c.wpSIn F n P Q' a cs w :=
  fun b k hb hr hF hroom => let ⟨e, a', cs', w', l, q, r⟩ := h b k hb hr hF hroom; ⟨e, a', cs', w', l, hq _ _ _ _ q, r⟩

/-- What recover() gives to a deferred call. -/
def recovers (cs : List Frame) : Value × List Frame :=
  match recoverD cs with
  | some p => p
  | none => (.nilIface, cs)

theorem split_sound (hm : P.follows .mixedOrders = true) (ho : OrcOk P orc) {fid n cur : Nat} : ∀ (c : Code) (d : Option Tmp) (rest : Code), splitRecover c = some (d, rest) → ∀ (Q : Exit → Act → World → Prop) (s : St) (g : Gh) (a : Act) (cs : List Frame) (w : World) (out : AOut) (s' : St),
    exec P cfg orc none fid n cur rest s = some (out, s') → Sim g s (a.put d (recovers cs).1) w → OutPost Q g s.H w s' out → c.wpSIn (Fr none) 0 P (fun e a' cs' w' => cs' = (recovers cs).2 ∧ Q e a' w') a cs w := by
  intro c
  induction c with
  | region id ops draw =>
    intro d rest h Q s g a cs w out s' hx hs hp
    unfold splitRecover at h
    cases draw
    · simp only at h
      split at h
      · rename_i o hops
        split at h
        · rename_i args tys hop hg
          simp only [Option.some.injEq, Prod.mk.injEq] at h
          obtain ⟨rfl, rfl⟩ := h
          simp only [exec, Option.some.injEq, Prod.mk.injEq] at hx
          obtain ⟨rfl, rfl⟩ := hx
          refine wpSIn_region ?_
          have hsz : ops.size = 1 := by rw [← Array.length_toList, hops]; rfl
          have h0 : ops[0]? = some o := by
            have : ops.toList[0]? = some o := by rw [hops]; rfl
            simpa using this
          rw [hsz]
          have hw : Region.wanted o (yielded ops a.tmps) = true := by simp [Region.wanted, hg]
          have hex : (execOp a.eval o).run P w = .ok .recover w := by
            simp [execOp, hop, resolve, invoke, builtin]
          show wpOpsSIn (Fr none) 0 P ops _ [0] a cs w
          simp only [wpOpsSIn, h0, hw, if_true, hex]
          refine ⟨fun _ _ => trivial, ?_⟩
          have hq := hp g _ w hs (Later.refl _ _ _)
          grind [recovers]
        · cases h
      · cases h
    · simp at h
  | seq x y ihx ihy =>
    intro d rest h Q s g a cs w out s' hx hs hp
    simp only [splitRecover] at h
    split at h
    · rename_i d' x' hsp
      simp only [Option.some.injEq, Prod.mk.injEq] at h
      obtain ⟨rfl, rfl⟩ := h
      simp only [exec] at hx
      refine wpSIn_seq ?_
      have hy : ∀ (s1 : St) (g' : Gh) (a' : Act) (w' : World), exec P cfg orc none fid n cur y s1 = some (out, s') → Sim g' s1 a' w' → OutPost Q g' s1.H w' s' out →
          y.wpSIn (Fr none) 0 P (fun e a' cs' w' => cs' = (recovers cs).2 ∧ Q e a' w') a' (recovers cs).2 w' := fun s1 g' a' w' h1 h2 h3 =>
        wpSIn_of_wpIn rfl (wpIn_mono (exec_sound hm ho (ro := none) (fro := none) y cur Q s1 g' a' w' out s' trivial h1 h2 h3) fun e a w h => ⟨rfl, h⟩)
      split at hx
      · rename_i s1 hx1
        refine wpSIn_mono (ihx d' x' hsp (fun e a' w' => Exit.thenS (y.wpSIn (Fr none) 0 P (fun e a' cs' w' => cs' = (recovers cs).2 ∧ Q e a' w')) (fun e a' cs' w' => cs' = (recovers cs).2 ∧ Q e a' w') e a' (recovers cs).2 w') s g a cs w .normal s1 hx1 hs fun g' a' w' hs' hla => hy s1 g' a' w' hx hs' (hp.later hla)) ?_
        grind
      · rename_i hne
        refine wpSIn_mono (ihx d' x' hsp (fun e a' w' => Exit.thenS (y.wpSIn (Fr none) 0 P (fun e a' cs' w' => cs' = (recovers cs).2 ∧ Q e a' w')) (fun e a' cs' w' => cs' = (recovers cs).2 ∧ Q e a' w') e a' (recovers cs).2 w') s g a cs w out s' hx hs ?_) ?_
        · cases out with
          | normal => exact absurd hx (hne s')
          | exit id => exact fun g' a' w' h1 h2 => ⟨rfl, hp g' a' w' h1 h2⟩
          | ret => exact fun g' a' w' h1 h2 => ⟨rfl, hp g' a' w' h1 h2⟩
          | pan v => exact fun g' a' w' x hv h1 h2 h3 => ⟨rfl, hp g' a' w' x hv h1 h2 h3⟩
        grind
    · cases h
  | _ => grind [splitRecover]

theorem frame_RL {args : List AVal} {vs : Array Value} (h : RL g w args vs.toList) (k : Nat) : RL g w (frameA k args) (vs ++ Array.replicate (k - vs.size) undef).toList := by
  unfold frameA
  rw [spineF_eq]
  have hl := (RL_get _ _ h).1
  simp only [Array.length_toList] at hl
  simp only [Array.toList_append, Array.toList_replicate, ← hl]
  refine RL_append h ?_
  generalize k - vs.size = m
  induction m with
  | zero => simp [RL]
  | succ m ih => grind [RL, R_nothing]

/-- While the function goes back, or panics. -/
def ModeOk (g : Gh) (w : World) : Option AVal → FrameMode → Prop
  | none, u => u = .returning
  | some v, u => v.flat = true ∧ ∃ x, u = .panicking [{ v := x, recovered := false }] ∧ R g w v x

/-- A block of ours is given up. -/
theorem Inv.bury {b k z : Nat} {x : ABlk} {ob : Obj} (hi : Inv g H w) (hb : H[b]? = some x) (hv : x.live = some 0) (hk : g.rho b 0 = some (k, z)) (hnc : w.shape? k = none) :
    Inv g (H.set b .dead) (w.putObj k ob) ∧ Later g H w g (H.set b .dead) (w.putObj k ob) := by
  have hfree : ∀ o, ¬ g.st k o := fun o => hi.free b x 0 k z o hb hv hk
  have ho : ∀ j, j ≠ k → (w.putObj k ob).heap[j]? = w.heap[j]? := fun j hj => World.putObj_heap_other hj
  have hext : Ext g w g (w.putObj k ob) := ⟨fun _ _ _ h => h, fun _ _ h => h, fun k' o h => cell?_of_heap (ho k' (fun e => hfree o (e ▸ h))) o, fun j x hx => by
    have hj : j ≠ k := by rintro rfl; rw [hnc] at hx; cases hx
    simpa [World.shape?, World.putObj_heap_other (o := ob) hj] using hx⟩
  have f : ∀ (b1 : Nat) (x1 : ABlk), (H.set b ABlk.dead)[b1]? = some x1 → x1 = .dead ∨ (b1 ≠ b ∧ H[b1]? = some x1) := by
    intro b1 x1 h
    rcases getElem?_setB h with ⟨rfl, he, _⟩ | ⟨h1, h⟩
    · exact .inl he
    · exact .inr ⟨h1, h⟩
  refine ⟨⟨fun b' x' h => ?_, fun b1 b2 x1 x2 v1 v2 k' z1 z2 h1 h2 l1 l2 => ?_, fun b' ver h => ?_, fun b' x' v1 v2 h hl => ?_, fun b' x' v1 k' z' o h hl => ?_, fun k' o h => by rw [World.putObj_size]; exact hi.stold k' o h, hi.globs.mono hext⟩,
    ⟨hext, by simp_all, fun k' _ hn => ?_, ?_, by simp, rfl, ⟨rfl, Nat.le_of_eq rfl⟩, rfl, fun _ _ _ h => .inl h, fun b1 hb1 => ?_, fun _ ver _ z h => .inl ⟨ver, z, h⟩⟩⟩
  · rcases f _ _ h with rfl | ⟨hne, h⟩
    · trivial
    · exact Good_mono hext (hi.good b' x' h) (fun v' k' z' h1 h2 => ho k' (fun e => hne (hi.inj b' b x' x v' 0 k z' z h hb h1 hv (e ▸ h2) hk))) fun _ _ h => h
  · rcases f _ _ h1 with rfl | ⟨_, h1⟩
    · cases l1
    · rcases f _ _ h2 with rfl | ⟨_, h2⟩
      · cases l2
      · exact hi.inj b1 b2 x1 x2 v1 v2 k' z1 z2 h1 h2 l1 l2
  · grind [hi.fresh]
  · rcases f _ _ h with rfl | ⟨_, h⟩
    · cases hl
    · exact hi.next b' x' v1 v2 h hl
  · rcases f _ _ h with rfl | ⟨_, h⟩
    · cases hl
    · exact hi.free b' x' v1 k' z' o h hl
  · exact ho k' fun e => hn (e ▸ ⟨b, x, 0, z, hb, hv, hk⟩)
  · rintro k' _ ⟨b', x', v1, z1, h, hl, hz⟩
    rcases f _ _ h with rfl | ⟨_, h⟩
    · cases hl
    · exact ⟨b', x', v1, z1, h, hl, hz⟩
  grind

theorem leave_sound (hm : P.follows .mixedOrders = true) (hN : ∀ (f : FuncId) (fn : Func), P.funcs[f]? = some fn → fn.name ≠ "runtime.NumGoroutine") (ho : OrcOk P orc) {n : Nat} {fn : Func} {A : List AVal} {a : Act} {r : ARes} {H1 : List ABlk} {g0 : Gh} {H0 : List ABlk} {w0 : World} :
    ∀ (D : List DefA) (ds : List Deferred) (m : Option AVal) (u : FrameMode) (Hc : List ABlk) (g : Gh) (w : World) (m' : Option AVal) (H' : List ABlk),
    RD g w D ds → Inv g Hc w → RL g w A a.tmps.toList → ModeOk g w m u → leave P cfg orc n D m Hc = some (m', H') → ending P fn A m' H' = some (r, H1) → Later g0 H0 w0 g Hc w →
    LeavesInM (Fr none) 0 P fn a.tmps (Comes1 g0 H0 w0 r H1) ds u w
  | [], ds, m, u, Hc, g, w, m', H', hd, hi, hl, hmo, h, he, hla => by
    simp only [RD] at hd
    subst hd
    simp only [leave, Option.some.injEq, Prod.mk.injEq] at h
    obtain ⟨rfl, rfl⟩ := h
    cases m with
    | none =>
      simp only [ModeOk] at hmo
      subst hmo
      simp only [ending] at he
      split at he
      · rename_i vs hvs
        simp only [Option.some.injEq, Prod.mk.injEq] at he
        obtain ⟨rfl, rfl⟩ := he
        obtain ⟨x, h1, h2⟩ := results_sound hi hl hvs
        exact ⟨x, h1, g, hi, hla, x, rfl, h2⟩
      · cases he
    | some v =>
      obtain ⟨_, x, rfl, hr⟩ := hmo
      simp only [ending, Option.some.injEq, Prod.mk.injEq] at he
      obtain ⟨rfl, rfl⟩ := he
      exact ⟨g, hi, hla, x, rfl, hr⟩
  | .call f args :: D, ds, m, u, Hc, g, w, m', H', hd, hi, hl, hmo, h, he, hla => by
    obtain ⟨d, ds', rfl, ⟨cap, htar, hargs⟩, hds⟩ := hd
    simp only [leave] at h
    split at h
    · rename_i b Hd hdef
      unfold deferred at hdef
      split at hdef
      · rename_i fnd hfn
        split at hdef
        · rename_i c hb
          split at hdef
          · rename_i dd rest hsp
            have hargs' : RL g w args (d.args ++ cap).toList := by simpa using hargs
            have hinv : (invoke d.target d.args).run P w = .ok (.enter f (d.args ++ cap)) w := by
              rw [htar]
              simp [invoke, run_callFunc hfn hb (hN f fnd hfn)]
            have hrun : u ≠ .run := by
              cases m with
              | none => grind [ModeOk]
              | some v => obtain ⟨_, x, rfl, _⟩ := hmo; simp
            refine ⟨hrun, .inr ⟨depth_Fr none, .func f, cap, f, d.args ++ cap, htar, hinv, fun _ _ => trivial, callsDIn_of_wpSIn hfn hb trivial fun c₀ cs hc0 => ?_⟩⟩
            -- what recover gives
            have hrec : ∃ x u', recovers (c₀ :: cs) = (x, { c₀ with mode := u' } :: cs) ∧ R g w (m.getD (.sc .nilIface)) x ∧ ModeOk g w (if m.isSome then none else m) (settle u') := by
              cases m with
              | none =>
                simp only [ModeOk] at hmo
                subst hmo
                refine ⟨.nilIface, .returning, ?_, by simp [R], by simp [ModeOk, settle]⟩
                have : ({ c₀ with mode := FrameMode.returning } : Frame) = c₀ := by rw [← hc0]
                rw [this]
                simp [recovers, recoverD, hc0]
              | some v =>
                obtain ⟨hv, x, rfl, hr⟩ := hmo
                refine ⟨x, .panicking [{ v := x, recovered := true }], ?_, hr, by simp [ModeOk, settle]⟩
                simp [recovers, recoverD, hc0]
            obtain ⟨x, u', hrec, hrx, hmo'⟩ := hrec
            have hsim : Sim g ⟨putA (frameA fnd.ntmps args) dd (m.getD (.sc .nilIface)), Hc, []⟩ (({ tmps := (d.args ++ cap) ++ Array.replicate (fnd.ntmps - (d.args ++ cap).size) undef, defers := [] } : Act).put dd (recovers (c₀ :: cs)).1) w := by
              refine ⟨hi, RL_put' (a := { tmps := (d.args ++ cap) ++ Array.replicate (fnd.ntmps - (d.args ++ cap).size) undef, defers := [] }) (frame_RL hargs' _) (by rw [hrec]; exact hrx) dd, by rw [put_defers]; rfl⟩
            -- behind the call
            have hnext : ∀ (s1 : St), s1.D.isEmpty = true → fnd.results.isEmpty = true → (m.isSome, s1.H) = (b, Hd) → ∀ g' a' w', Sim g' s1 a' w' → Later g Hc w g' s1.H w' →
                a'.defers = [] ∧ ∃ u2, (recovers (c₀ :: cs)).2 = { c₀ with mode := u2 } :: cs ∧ ∃ v, (results fnd a'.tmps).run P w' = .ok v w' ∧ LeavesInM (Fr none) 0 P fn a.tmps (Comes1 g0 H0 w0 r H1) ds' (settle u2) w' := by
              intro s1 hD hR hb2 g' a' w' hs' hla'
              simp only [Prod.mk.injEq] at hb2
              obtain ⟨rfl, rfl⟩ := hb2
              refine ⟨?_, u', by rw [hrec], .tuple #[], ?_, ?_⟩
              · have := hs'.defs
                have hDe : s1.D = [] := by simpa using hD
                rw [hDe] at this
                exact this
              · have : fnd.results = #[] := by simpa using hR
                rw [results_eq, this]
                simp
              · refine leave_sound hm hN ho D ds' _ (settle u') s1.H g' w' m' H' (RD_mono hla'.ext _ _ hds) hs'.inv (RL_mono hla'.ext _ _ hl) ?_ h he (hla.trans hla')
                cases m with
                | none => simpa [ModeOk] using hmo'
                | some v => simpa [ModeOk] using hmo'
            split at hdef
            · rename_i s1 hex
              split at hdef
              · rename_i hc
                simp only [Bool.and_eq_true] at hc
                simp only [Option.some.injEq] at hdef
                refine wpSIn_mono (split_sound hm ho c dd rest hsp (fun e a' w' => match e with | .normal => a'.defers = [] ∧ ∃ u2, (recovers (c₀ :: cs)).2 = { c₀ with mode := u2 } :: cs ∧ ∃ v, (results fnd a'.tmps).run P w' = .ok v w' ∧ LeavesInM (Fr none) 0 P fn a.tmps (Comes1 g0 H0 w0 r H1) ds' (settle u2) w' | _ => False) _ g _ (c₀ :: cs) w .normal s1 hex hsim (hnext s1 hc.1 hc.2 hdef)) ?_
                rintro e a' cs' w' ⟨rfl, hq⟩
                cases e with
                | normal => exact hq
                | _ => exact hq.elim
              · cases hdef
            · rename_i s1 hex
              split at hdef
              · rename_i hc
                simp only [Bool.and_eq_true] at hc
                simp only [Option.some.injEq] at hdef
                refine wpSIn_mono (split_sound hm ho c dd rest hsp (fun e a' w' => match e with | .ret => a'.defers = [] ∧ ∃ u2, (recovers (c₀ :: cs)).2 = { c₀ with mode := u2 } :: cs ∧ ∃ v, (results fnd a'.tmps).run P w' = .ok v w' ∧ LeavesInM (Fr none) 0 P fn a.tmps (Comes1 g0 H0 w0 r H1) ds' (settle u2) w' | _ => False) _ g _ (c₀ :: cs) w .ret s1 hex hsim (hnext s1 hc.1 hc.2 hdef)) ?_
                rintro e a' cs' w' ⟨rfl, hq⟩
                cases e with
                | ret => exact hq
                | _ => exact hq.elim
              · cases hdef
            · cases hdef
          · cases hdef
        · cases hdef
      · cases hdef
    · cases h
  | .mark b :: D, ds, m, u, Hc, g, w, m', H', hd, hi, hl, hmo, h, he, hla => by
    obtain ⟨d, ds', rfl, ⟨k, sz, hk, htar⟩, hds⟩ := hd
    simp only [leave] at h
    split at h
    · rename_i hb
      obtain ⟨k0, q1, q2⟩ := hi.good b _ hb
      rw [hk] at q1
      simp only [Option.some.injEq, Prod.mk.injEq] at q1
      obtain ⟨rfl, _⟩ := q1
      have hrun : u ≠ .run := by
        cases m with
        | none => grind [ModeOk]
        | some v => obtain ⟨_, x, rfl, _⟩ := hmo; simp
      obtain ⟨i1, l1⟩ := hi.bury (ob := .deferred none) hb rfl hk (by simp [World.shape?, q2])
      refine ⟨hrun, .inl ⟨k, _, htar, run_takeDeferred q2, ?_⟩⟩
      refine leave_sound hm hN ho D ds' m u _ g _ m' H' (RD_mono l1.ext _ _ hds) i1 (RL_mono l1.ext _ _ hl) ?_ h he (hla.trans l1)
      cases m with
      | none => exact hmo
      | some v => obtain ⟨hv, x, hx, hr⟩ := hmo; exact ⟨hv, x, hx, R_mono l1.ext _ _ hr⟩
    · cases h

/-- A function, over callees that are as 'orc' says. -/
theorem bodyOf_sound (hm : P.follows .mixedOrders = true) (hN : ∀ (f : FuncId) (fn : Func), P.funcs[f]? = some fn → fn.name ≠ "runtime.NumGoroutine") (ho : OrcOk P orc) {n : Nat} {f : FuncId} {args : List AVal} {H : List ABlk} {r : ARes} {H1 : List ABlk} (h : bodyOf P cfg orc n f args H = some (r, H1)) :
    (∃ fn c, P.funcs[f]? = some fn ∧ fn.body = some c ∧ fn.name ≠ "runtime.NumGoroutine") ∧
    ∀ g w (vs : Array Value), Inv g H w → RL g w args vs.toList → Calls P f vs w (Comes1 g H w r H1) := by
  unfold bodyOf at h
  split at h
  · rename_i fn hf
    split at h
    · rename_i c hb
      refine ⟨⟨fn, c, hf, hb, hN f fn hf⟩, fun g w vs hi hl => callsIn_wide.1 (callsIn_of_wp_marks (F := Fr none) (n := 0) hf hb trivial ?_)⟩
      have hsim : Sim g ⟨frameA fn.ntmps args, H, []⟩ { tmps := vs ++ Array.replicate (fn.ntmps - vs.size) undef, defers := [] } w := ⟨hi, frame_RL hl _, rfl⟩
      split at h
      · rename_i s1 hex
        split at h
        · rename_i m H' hlv
          exact exec_sound hm ho (ro := none) (fro := none) c 0 _ _ g _ w .normal s1 trivial hex hsim fun g' a' w' hs' hla => leave_sound hm hN ho s1.D a'.defers none .returning s1.H g' w' m H' hs'.defs hs'.inv hs'.tmps rfl hlv h hla
        · cases h
      · rename_i s1 hex
        split at h
        · rename_i m H' hlv
          exact exec_sound hm ho (ro := none) (fro := none) c 0 _ _ g _ w .ret s1 trivial hex hsim fun g' a' w' hs' hla => leave_sound hm hN ho s1.D a'.defers none .returning s1.H g' w' m H' hs'.defs hs'.inv hs'.tmps rfl hlv h hla
        · cases h
      · rename_i v s1 hex
        split at h
        · rename_i m H' hlv
          exact exec_sound hm ho (ro := none) (fro := none) c 0 _ _ g _ w (.pan v) s1 trivial hex hsim fun g' a' w' x hv hs' hla hr => leave_sound hm hN ho s1.D a'.defers (some v) (.panicking [{ v := x, recovered := false }]) s1.H g' w' m H' hs'.defs hs'.inv hs'.tmps ⟨hv, x, rfl, hr⟩ hlv h hla
        · cases h
      · cases h
    · cases h
  · cases h

theorem setAll_RL : ∀ (ts : List Tmp) (as : List AVal) (A : List AVal) (xs : List Value) (tmps : Array Value), RL g w A tmps.toList → RL g w as xs →
    RL g w (setAll A ts as) ((ts.zip xs).foldl (fun (tmps : Array Value) (p : Tmp × Value) => tmps.setIfInBounds p.1 p.2) tmps).toList
  | [], as, A, xs, tmps, h, _ => by simpa [setAll] using h
  | t :: ts, [], A, xs, tmps, h, hx => by
    simp only [RL] at hx; subst hx
    simpa [setAll] using h
  | t :: ts, a :: as, A, xs, tmps, h, hx => by
    simp only [RL] at hx
    obtain ⟨x, xs, rfl, h1, h2⟩ := hx
    simp only [setAll, setF_eq, List.zip_cons_cons, List.foldl_cons]
    exact setAll_RL ts as _ xs _ (by grind [RL_set]) h2

theorem roundTmps_eq (r : Loop) (ps : List Tmp) (vs : Array Value) (h : r.params = ps.toArray) : roundTmps r vs = (ps.zip vs.toList).foldl (fun (tmps : Array Value) (p : Tmp × Value) => tmps.setIfInBounds p.1 p.2) r.tmps := by
  unfold roundTmps
  rw [h, ← Array.foldl_toList]
  simp [Array.toList_zip]

theorem marked_sound {b k : Nat} {st : LoopState} {pend : Option Code} {H H2 : List ABlk} {g : Gh} {w : World} {sz : Nat} (hi : Inv g H w) (hk : g.rho b 0 = some (k, sz)) (h : marked b st pend H = some H2) :
    ∃ r, w.heap[k]? = some (.loop r) ∧ Inv g H2 (w.putObj k (.loop { r with state := st, pending := pend })) ∧ Later g H w g H2 (w.putObj k (.loop { r with state := st, pending := pend })) := by
  unfold marked at h
  split at h
  · rename_i st0 pend0 fid A ps assign body hb
    simp only [Option.some.injEq] at h
    subst h
    obtain ⟨k0, tmps0, dk0, fn0, q1, q2, q3⟩ := hi.good b _ hb
    rw [hk] at q1
    simp only [Option.some.injEq, Prod.mk.injEq] at q1
    obtain ⟨rfl, rfl⟩ := q1
    exact ⟨_, q2, hi.put hb rfl hk rfl (shape?_loop q2) fun hext => ⟨_, tmps0, dk0, fn0, hk, World.putObj_heap_same (Array.getElem?_eq_some_iff.1 q2).1, RL_mono hext _ _ q3⟩⟩
  · cases h

/-- A round, likewise. -/
theorem roundOf_sound (hm : P.follows .mixedOrders = true) (ho : OrcOk P orc) {n b : Nat} {args : List AVal} {H : List ABlk} {r : ARes} {H1 : List ABlk} (h : roundOf P cfg orc n b args H = some (r, H1)) :
    ∀ g w (vs : Array Value) k sz, Inv g H w → RL g w args vs.toList → g.rho b 0 = some (k, sz) →
    ∃ rec, w.heap[k]? = some (.loop rec) ∧ vs.size = rec.params.size ∧ RoundIn Fence.wide 0 P k rec.fn (roundTmps rec vs) rec.assign rec.body w (Comes1 g H w r H1) := by
  intro g w vs k sz hi hl hk
  unfold roundOf at h
  split at h
  · rename_i st pend fid A ps assign body hb
    obtain ⟨k0, tmps0, dk0, fn0, q1, q2, q3⟩ := hi.good b _ hb
    rw [hk] at q1
    simp only [Option.some.injEq, Prod.mk.injEq] at q1
    obtain ⟨rfl, rfl⟩ := q1
    split at h
    · rename_i hlen
      have hvs := (RL_get _ _ hl).1
      refine ⟨_, q2, by grind, ?_⟩
      rw [roundTmps_eq _ ps vs rfl]
      have hsim : Sim g ⟨setAll A ps args, H, []⟩ { tmps := (ps.zip vs.toList).foldl (fun (tmps : Array Value) (p : Tmp × Value) => tmps.setIfInBounds p.1 p.2) tmps0, defers := [] } w :=
        ⟨hi, setAll_RL ps args A _ tmps0 q3 hl, rfl⟩
      split at h
      · rename_i s1 hex
        split at h
        · rename_i pend1 fid1 A1 ps1 as1 bd1 hb1
          rw [spineF_eq] at h
          refine roundIn_of_wpIn trivial ?_
          refine exec_sound hm ho (ro := some b) (fro := some k) assign 0 _ _ g _ w .normal s1 ⟨0, hk⟩ hex hsim fun g1 a1 w1 hs1 hla1 => ?_
          have hk1 := hla1.ext.rho _ _ _ hk
          obtain ⟨k1, tmps1, dk1, fn1, u1, u2, u3⟩ := hs1.inv.good b _ hb1
          rw [hk1] at u1
          simp only [Option.some.injEq, Prod.mk.injEq] at u1
          obtain ⟨rfl, -⟩ := u1
          refine ⟨_, run_beginRound u2 rfl, ?_⟩
          obtain ⟨i2, l2⟩ := hs1.inv.put (y := .loop .busy pend1 fid1 A1 ps1 as1 bd1)
            (ob := .loop { state := .busy, pending := pend1, fn := fn1, tmps := tmps1, params := ps1.toArray, assign := as1, body := bd1, defers := dk1 }) hb1 rfl hk1 rfl (shape?_loop u2)
            fun hext => ⟨_, tmps1, dk1, fn1, hk1, World.putObj_heap_same (Array.getElem?_eq_some_iff.1 u2).1, RL_mono hext _ _ u3⟩
          have hsim2 : Sim g1 { s1 with H := s1.H.set b (.loop .busy pend1 fid1 A1 ps1 as1 bd1) } a1 (w1.putObj k (.loop { state := .busy, pending := pend1, fn := fn1, tmps := tmps1, params := ps1.toArray, assign := as1, body := bd1, defers := dk1 })) :=
            ⟨i2, RL_mono l2.ext _ _ hs1.tmps, RD_mono l2.ext _ _ hs1.defs⟩
          have hend : ∀ (j : Option Code) (s2 : St), (∃ H2, marked b (if j.isNone then .ready else .done) j s2.H = some H2 ∧ some (ARes.ret (.sc (.bool j.isNone)), H2) = some (r, H1)) → ∀ g' a' w', Sim g' s2 a' w' → Later g1 (s1.H.set b (.loop .busy pend1 fid1 A1 ps1 as1 bd1)) (w1.putObj k (.loop { state := .busy, pending := pend1, fn := fn1, tmps := tmps1, params := ps1.toArray, assign := as1, body := bd1, defers := dk1 })) g' s2.H w' →
              ∃ v w'', (Instr.endRound k j).run P w' = .ok v w'' ∧ Comes1 g H w r H1 (.returned v) w'' := by
            rintro j s2 ⟨H2, hmk, he⟩ g' a' w' hs' hla'
            simp only [Option.some.injEq, Prod.mk.injEq] at he
            obtain ⟨rfl, rfl⟩ := he
            obtain ⟨rr, e1, e2, e3⟩ := marked_sound hs'.inv (hla'.ext.rho _ _ _ hk1) hmk
            exact ⟨_, _, run_endRound j e1, g', e2, hla1.trans (l2.trans (hla'.trans e3)), _, rfl, by simp [R]⟩
          split at h
          · rename_i out s2 hex2
            split at h
            · rename_i j hj
              split at h
              · rename_i H2 hmk
                refine exec_sound hm ho (ro := some b) (fro := some k) body 0 _ _ g1 a1 _ out s2 ⟨0, hk1⟩ hex2 hsim2 ?_
                cases out with
                | normal =>
                  simp only [jumpOf, Option.some.injEq] at hj
                  subst hj
                  exact fun g' a' w' h1 h2 => hend none s2 ⟨H2, hmk, h⟩ g' a' w' h1 h2
                | ret =>
                  simp only [jumpOf, Option.some.injEq] at hj
                  subst hj
                  exact fun g' a' w' h1 h2 => hend (some .ret) s2 ⟨H2, hmk, h⟩ g' a' w' h1 h2
                | exit id =>
                  simp only [jumpOf, Option.some.injEq] at hj
                  subst hj
                  exact fun g' a' w' h1 h2 => hend (some (.exit id)) s2 ⟨H2, hmk, h⟩ g' a' w' h1 h2
                | pan v => cases hj
              · cases h
            · cases h
          · cases h
        · cases h
      · cases h
    · cases h
  · cases h

theorem call_sound (hm : P.follows .mixedOrders = true) (hN : ∀ (f : FuncId) (fn : Func), P.funcs[f]? = some fn → fn.name ≠ "runtime.NumGoroutine") : ∀ n, OrcOk P (call P cfg n)
  | 0 => ⟨fun _ _ _ _ _ h => by simp [call] at h, fun _ _ _ _ _ h => by simp [call] at h⟩
  | n + 1 => ⟨fun _ _ _ _ _ h => bodyOf_sound hm hN (call_sound hm hN n) h, fun _ _ _ _ _ h => roundOf_sound hm (call_sound hm hN n) h⟩

end
end Go.AM
