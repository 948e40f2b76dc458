/- Calls. No program. -/
import Derived.Test.YthacencknomblaaAmW
import Derived.Recover
namespace Go.AM

section
variable {P : Program} {cfg : Cfg} {orc : Orc} {g : Gh} {H : List ABlk} {w : World}

theorem wpS_mono {c : Code} {Q Q' : Exit → Act → List Frame → World → Prop} {a : Act} {cs : List Frame} (h : c.wpS P Q a cs w) (hq : ∀ e a cs w, Q e a cs w → Q' e a cs w) : c.wpS P Q' a cs w :=
  fun b k hb hr => let ⟨e, a', cs', w', q, r⟩ := h b k hb hr; ⟨e, a', cs', w', hq _ _ _ _ q, r⟩

/-- What recover() gives to a deferred call. -/
def recovers (cs : List Frame) : Value × List Frame :=
  match recoverD cs with
  | some p => p
  | none => (.nilIface, cs)

theorem split_sound (hm : P.follows .mixedOrders = true) (ho : OrcOk P orc) {fid n cur : Nat} : ∀ (c : Code) (d : Option Tmp) (rest : Code), splitRecover c = some (d, rest) → ∀ (Q : Exit → Act → World → Prop) (s : St) (g : Gh) (a : Act) (cs : List Frame) (w : World) (out : AOut) (s' : St),
    exec P cfg orc fid n cur rest s = some (out, s') → Sim g s (a.put d (recovers cs).1) w → OutPost Q g s.H w s' out → c.wpS P (fun e a' cs' w' => cs' = (recovers cs).2 ∧ Q e a' w') a cs w := by
  intro c
  induction c with
  | region id ops draw =>
    intro d rest h Q s g a cs w out s' hx hs hp
    unfold splitRecover at h
    cases draw
    · simp only at h
      split at h
      · rename_i o hops
        split at h
        · rename_i args tys hop hg
          simp only [Option.some.injEq, Prod.mk.injEq] at h
          obtain ⟨rfl, rfl⟩ := h
          simp only [exec, Option.some.injEq, Prod.mk.injEq] at hx
          obtain ⟨rfl, rfl⟩ := hx
          refine wpS_region ?_
          have hsz : ops.size = 1 := by rw [← Array.length_toList, hops]; rfl
          have h0 : ops[0]? = some o := by
            have : ops.toList[0]? = some o := by rw [hops]; rfl
            simpa using this
          rw [hsz]
          have hw : Region.wanted o (yielded ops a.tmps) = true := by simp [Region.wanted, hg]
          have hex : (execOp a.eval o).run P w = .ok .recover w := by
            simp [execOp, hop, resolve, invoke, builtin]
          show wpOpsS P ops _ [0] a cs w
          simp only [wpOpsS, h0, hw, if_true, hex]
          have hq := hp g _ w hs (Later.refl _ _ _)
          unfold recovers at hq ⊢
          cases hr : recoverD cs with
          | none => rw [hr] at hq; exact ⟨rfl, hq⟩
          | some p => obtain ⟨v, cs'⟩ := p; rw [hr] at hq; exact ⟨rfl, hq⟩
        · cases h
      · cases h
    · simp at h
  | seq x y ihx ihy =>
    intro d rest h Q s g a cs w out s' hx hs hp
    simp only [splitRecover] at h
    split at h
    · rename_i d' x' hsp
      simp only [Option.some.injEq, Prod.mk.injEq] at h
      obtain ⟨rfl, rfl⟩ := h
      simp only [exec] at hx
      refine wpS_seq ?_
      have hy : ∀ (s1 : St) (g' : Gh) (a' : Act) (w' : World), exec P cfg orc fid n cur y s1 = some (out, s') → Sim g' s1 a' w' → OutPost Q g' s1.H w' s' out →
          y.wpS P (fun e a' cs' w' => cs' = (recovers cs).2 ∧ Q e a' w') a' (recovers cs).2 w' := fun s1 g' a' w' h1 h2 h3 =>
        wpS_of_wp (wp_mono (exec_sound hm ho y cur Q s1 g' a' w' out s' h1 h2 h3) fun e a w h => ⟨rfl, h⟩)
      split at hx
      · rename_i s1 hx1
        refine wpS_mono (ihx d' x' hsp (fun e a' w' => Exit.thenS (y.wpS P (fun e a' cs' w' => cs' = (recovers cs).2 ∧ Q e a' w')) (fun e a' cs' w' => cs' = (recovers cs).2 ∧ Q e a' w') e a' (recovers cs).2 w') s g a cs w .normal s1 hx1 hs fun g' a' w' hs' hla => hy s1 g' a' w' hx hs' (hp.later hla)) ?_
        rintro e a' cs' w' ⟨rfl, h⟩
        exact h
      · rename_i hne
        refine wpS_mono (ihx d' x' hsp (fun e a' w' => Exit.thenS (y.wpS P (fun e a' cs' w' => cs' = (recovers cs).2 ∧ Q e a' w')) (fun e a' cs' w' => cs' = (recovers cs).2 ∧ Q e a' w') e a' (recovers cs).2 w') s g a cs w out s' hx hs ?_) ?_
        · cases out with
          | normal => exact absurd hx (hne s')
          | exit id => exact fun g' a' w' h1 h2 => ⟨rfl, hp g' a' w' h1 h2⟩
          | ret => exact fun g' a' w' h1 h2 => ⟨rfl, hp g' a' w' h1 h2⟩
          | pan v => exact fun g' a' w' x hv h1 h2 h3 => ⟨rfl, hp g' a' w' x hv h1 h2 h3⟩
        · rintro e a' cs' w' ⟨rfl, h⟩
          exact h
    · cases h
  | _ => intro d rest h; simp [splitRecover] at h

theorem frame_RL {args : List AVal} {vs : Array Value} (h : RL g w args vs.toList) (k : Nat) : RL g w (frameA k args) (vs ++ Array.replicate (k - vs.size) undef).toList := by
  unfold frameA
  rw [spineF_eq]
  have hl := (RL_get _ _ h).1
  simp only [Array.length_toList] at hl
  simp only [Array.toList_append, Array.toList_replicate, ← hl]
  refine RL_append h ?_
  generalize k - vs.size = m
  induction m with
  | zero => simp [RL]
  | succ m ih => simp only [List.replicate_succ, RL]; exact ⟨_, _, rfl, R_nothing, ih⟩

/-- While the function goes back, or panics. -/
def ModeOk (g : Gh) (w : World) : Option AVal → FrameMode → Prop
  | none, u => u = .returning
  | some v, u => v.flat = true ∧ ∃ x, u = .panicking [{ v := x, recovered := false }] ∧ R g w v x

theorem leave_sound (hm : P.follows .mixedOrders = true) (hN : ∀ (f : FuncId) (fn : Func), P.funcs[f]? = some fn → fn.name ≠ "runtime.NumGoroutine") (ho : OrcOk P orc) {n : Nat} {fn : Func} {A : List AVal} {a : Act} {r : ARes} {H1 : List ABlk} {g0 : Gh} {H0 : List ABlk} {w0 : World} :
    ∀ (D : List (FuncId × List AVal)) (ds : List Deferred) (m : Option AVal) (u : FrameMode) (Hc : List ABlk) (g : Gh) (w : World) (m' : Option AVal) (H' : List ABlk),
    RD g w D ds → Inv g Hc w → RL g w A a.tmps.toList → ModeOk g w m u → leave P cfg orc n D m Hc = some (m', H') → ending P fn A m' H' = some (r, H1) → Later g0 H0 w0 g Hc w →
    Leaves P fn a.tmps (fun e w' => ∃ g', Inv g' H1 w' ∧ Later g0 H0 w0 g' H1 w' ∧ EndOk g' w' r e) ds u w
  | [], ds, m, u, Hc, g, w, m', H', hd, hi, hl, hmo, h, he, hla => by
    simp only [RD] at hd
    subst hd
    simp only [leave, Option.some.injEq, Prod.mk.injEq] at h
    obtain ⟨rfl, rfl⟩ := h
    cases m with
    | none =>
      simp only [ModeOk] at hmo
      subst hmo
      simp only [ending] at he
      split at he
      · rename_i vs hvs
        simp only [Option.some.injEq, Prod.mk.injEq] at he
        obtain ⟨rfl, rfl⟩ := he
        obtain ⟨x, h1, h2⟩ := results_sound hi hl hvs
        exact ⟨x, h1, g, hi, hla, x, rfl, h2⟩
      · cases he
    | some v =>
      obtain ⟨_, x, rfl, hr⟩ := hmo
      simp only [ending, Option.some.injEq, Prod.mk.injEq] at he
      obtain ⟨rfl, rfl⟩ := he
      exact ⟨g, hi, hla, x, rfl, hr⟩
  | (f, args) :: D, ds, m, u, Hc, g, w, m', H', hd, hi, hl, hmo, h, he, hla => by
    obtain ⟨d, ds', rfl, ⟨cap, htar, hargs⟩, hds⟩ := hd
    simp only [leave] at h
    split at h
    · rename_i b Hd hdef
      unfold deferred at hdef
      split at hdef
      · rename_i fnd hfn
        split at hdef
        · rename_i c hb
          split at hdef
          · rename_i dd rest hsp
            have hargs' : RL g w args (d.args ++ cap).toList := by simpa using hargs
            have hinv : (invoke d.target d.args).run P w = .ok (.enter f (d.args ++ cap)) w := by
              rw [htar]
              simp [invoke, run_callFunc hfn hb (hN f fnd hfn)]
            have hrun : u ≠ .run := by
              cases m with
              | none => simp only [ModeOk] at hmo; subst hmo; simp
              | some v => obtain ⟨_, x, rfl, _⟩ := hmo; simp
            refine ⟨hrun, .func f, cap, f, d.args ++ cap, htar, hinv, callsD_of_wpS hfn hb fun c₀ cs hc0 => ?_⟩
            -- what recover gives
            have hrec : ∃ x u', recovers (c₀ :: cs) = (x, { c₀ with mode := u' } :: cs) ∧ R g w (m.getD (.sc .nilIface)) x ∧ ModeOk g w (if m.isSome then none else m) (settle u') := by
              cases m with
              | none =>
                simp only [ModeOk] at hmo
                subst hmo
                refine ⟨.nilIface, .returning, ?_, by simp [R], by simp [ModeOk, settle]⟩
                have : ({ c₀ with mode := FrameMode.returning } : Frame) = c₀ := by rw [← hc0]
                rw [this]
                simp [recovers, recoverD, hc0]
              | some v =>
                obtain ⟨hv, x, rfl, hr⟩ := hmo
                refine ⟨x, .panicking [{ v := x, recovered := true }], ?_, hr, by simp [ModeOk, settle]⟩
                simp [recovers, recoverD, hc0]
            obtain ⟨x, u', hrec, hrx, hmo'⟩ := hrec
            have hsim : Sim g ⟨putA (frameA fnd.ntmps args) dd (m.getD (.sc .nilIface)), Hc, []⟩ (({ tmps := (d.args ++ cap) ++ Array.replicate (fnd.ntmps - (d.args ++ cap).size) undef, defers := [] } : Act).put dd (recovers (c₀ :: cs)).1) w := by
              refine ⟨hi, RL_put' (a := { tmps := (d.args ++ cap) ++ Array.replicate (fnd.ntmps - (d.args ++ cap).size) undef, defers := [] }) (frame_RL hargs' _) (by rw [hrec]; exact hrx) dd, by rw [put_defers]; rfl⟩
            -- behind the call
            have hnext : ∀ (s1 : St), s1.D.isEmpty = true → fnd.results.isEmpty = true → (m.isSome, s1.H) = (b, Hd) → ∀ g' a' w', Sim g' s1 a' w' → Later g Hc w g' s1.H w' →
                a'.defers = [] ∧ ∃ u2, (recovers (c₀ :: cs)).2 = { c₀ with mode := u2 } :: cs ∧ ∃ v, (results fnd a'.tmps).run P w' = .ok v w' ∧ Leaves P fn a.tmps (fun e w' => ∃ g', Inv g' H1 w' ∧ Later g0 H0 w0 g' H1 w' ∧ EndOk g' w' r e) ds' (settle u2) w' := by
              intro s1 hD hR hb2 g' a' w' hs' hla'
              simp only [Prod.mk.injEq] at hb2
              obtain ⟨rfl, rfl⟩ := hb2
              refine ⟨?_, u', by rw [hrec], .tuple #[], ?_, ?_⟩
              · have := hs'.defs
                have hDe : s1.D = [] := by simpa using hD
                rw [hDe] at this
                exact this
              · have : fnd.results = #[] := by simpa using hR
                rw [results_eq, this]
                simp
              · refine leave_sound hm hN ho D ds' _ (settle u') s1.H g' w' m' H' (RD_mono hla'.ext _ _ hds) hs'.inv (RL_mono hla'.ext _ _ hl) ?_ h he (hla.trans hla')
                cases m with
                | none => simpa [ModeOk] using hmo'
                | some v => simpa [ModeOk] using hmo'
            split at hdef
            · rename_i s1 hex
              split at hdef
              · rename_i hc
                simp only [Bool.and_eq_true] at hc
                simp only [Option.some.injEq] at hdef
                refine wpS_mono (split_sound hm ho c dd rest hsp (fun e a' w' => match e with | .normal => a'.defers = [] ∧ ∃ u2, (recovers (c₀ :: cs)).2 = { c₀ with mode := u2 } :: cs ∧ ∃ v, (results fnd a'.tmps).run P w' = .ok v w' ∧ Leaves P fn a.tmps (fun e w' => ∃ g', Inv g' H1 w' ∧ Later g0 H0 w0 g' H1 w' ∧ EndOk g' w' r e) ds' (settle u2) w' | _ => False) _ g _ (c₀ :: cs) w .normal s1 hex hsim (hnext s1 hc.1 hc.2 hdef)) ?_
                rintro e a' cs' w' ⟨rfl, hq⟩
                cases e with
                | normal => exact hq
                | _ => exact hq.elim
              · cases hdef
            · rename_i s1 hex
              split at hdef
              · rename_i hc
                simp only [Bool.and_eq_true] at hc
                simp only [Option.some.injEq] at hdef
                refine wpS_mono (split_sound hm ho c dd rest hsp (fun e a' w' => match e with | .ret => a'.defers = [] ∧ ∃ u2, (recovers (c₀ :: cs)).2 = { c₀ with mode := u2 } :: cs ∧ ∃ v, (results fnd a'.tmps).run P w' = .ok v w' ∧ Leaves P fn a.tmps (fun e w' => ∃ g', Inv g' H1 w' ∧ Later g0 H0 w0 g' H1 w' ∧ EndOk g' w' r e) ds' (settle u2) w' | _ => False) _ g _ (c₀ :: cs) w .ret s1 hex hsim (hnext s1 hc.1 hc.2 hdef)) ?_
                rintro e a' cs' w' ⟨rfl, hq⟩
                cases e with
                | ret => exact hq
                | _ => exact hq.elim
              · cases hdef
            · cases hdef
          · cases hdef
        · cases hdef
      · cases hdef
    · cases h

theorem body_sound (hm : P.follows .mixedOrders = true) (hN : ∀ (f : FuncId) (fn : Func), P.funcs[f]? = some fn → fn.name ≠ "runtime.NumGoroutine") (n : Nat) (ho : OrcOk P (call P cfg n)) : OrcOk P (call P cfg (n + 1)) := by
  intro f args H r H1 h
  unfold call at h
  split at h
  · rename_i fn hf
    split at h
    · rename_i c hb
      refine ⟨⟨fn, c, hf, hb, hN f fn hf⟩, fun g w vs hi hl => calls_of_wp_defers hf hb ?_⟩
      have hsim : Sim g ⟨frameA fn.ntmps args, H, []⟩ { tmps := vs ++ Array.replicate (fn.ntmps - vs.size) undef, defers := [] } w := ⟨hi, frame_RL hl _, rfl⟩
      split at h
      · rename_i s1 hex
        split at h
        · rename_i m H' hlv
          exact exec_sound hm ho c 0 _ _ g _ w .normal s1 hex hsim fun g' a' w' hs' hla => leave_sound hm hN ho s1.D a'.defers none .returning s1.H g' w' m H' hs'.defs hs'.inv hs'.tmps rfl hlv h hla
        · cases h
      · rename_i s1 hex
        split at h
        · rename_i m H' hlv
          exact exec_sound hm ho c 0 _ _ g _ w .ret s1 hex hsim fun g' a' w' hs' hla => leave_sound hm hN ho s1.D a'.defers none .returning s1.H g' w' m H' hs'.defs hs'.inv hs'.tmps rfl hlv h hla
        · cases h
      · rename_i v s1 hex
        split at h
        · rename_i m H' hlv
          exact exec_sound hm ho c 0 _ _ g _ w (.pan v) s1 hex hsim fun g' a' w' x hv hs' hla hr => leave_sound hm hN ho s1.D a'.defers (some v) (.panicking [{ v := x, recovered := false }]) s1.H g' w' m H' hs'.defs hs'.inv hs'.tmps ⟨hv, x, rfl, hr⟩ hlv h hla
        · cases h
      · cases h
    · cases h
  · cases h

theorem call_sound (hm : P.follows .mixedOrders = true) (hN : ∀ (f : FuncId) (fn : Func), P.funcs[f]? = some fn → fn.name ≠ "runtime.NumGoroutine") : ∀ n, OrcOk P (call P cfg n)
  | 0 => fun _ _ _ _ _ h => by simp [call] at h
  | n + 1 => body_sound hm hN n (call_sound hm hN n)

end
end Go.AM
