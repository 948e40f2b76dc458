/- Functions by guides: contracts. No program. -/
import Derived.Test.YtbfglcegmhgjdaaGreatDoorAmGb
namespace Go.AM

section
set_option linter.unusedSectionVars false
variable [Globs] {P : Program} {cfg : Cfg}

/-- What a function's end hands back, by content. -/
def landA (P : Program) [Globs] (cfg : Cfg) (L : Nat) (fn : Func) (m : Option AVal) (s : St) : Option ARes :=
  match leave P cfg orc0 L s.D m s.H with
  | some (m', H') => match ending P fn s.A m' H' with
    | some (.ret v, H1) => match (snap snapFuel v).run H1 with
      | some v' => some (.ret (wkD v'))
      | none => none
    | some (.pan v, _) => match v.flat with
      | true => some (.pan v)
      | false => none
    | none => none
  | none => none

def landO (P : Program) [Globs] (cfg : Cfg) (L : Nat) (fn : Func) (o : AOut) (s : St) : Option ARes :=
  match o with
  | .normal => landA P cfg L fn none s
  | .ret => landA P cfg L fn none s
  | .pan v => landA P cfg L fn (some v) s
  | .exit _ => none

def endC {ρ : Type} (P : Program) [Globs] (cfg : Cfg) (L : Nat) (fn : Func) (out : ρ → ARes) (g : G P ρ) (o : AOut) (s : St) : Prop :=
  match g with
  | .done ts r => tidyC [] ts s fun s => landO P cfg L fn o s = some (out r)
  | .fail => True
  | _ => AtEnd P fn o s out

def fnC {ρ : Type} (P : Program) [Globs] (cfg : Cfg) (L : Nat) (f : FuncId) (args : List AVal) (out : ρ → ARes) (g : G P ρ) : Prop :=
  match P.funcs[f]? with
  | some fn => match fn.body with
    | some c => gxC P (env0 P cfg) [] c g ⟨frameA fn.ntmps args, [], []⟩ fun g o s => endC P cfg L fn out g o s
    | none => False
  | none => False

/-- What is to be seen at a function's end. -/
def leafF {ρ : Type} (out : ρ → ARes) (r : ρ) : Prop := some (out r) = some (out r)

theorem endC_inv {n L : Nat} {ρ : Type} {fn : Func} {out : ρ → ARes} {g : G P ρ} {o : AOut} {s : St} {r : ρ} (h : endC P cfg L fn out g o s) (hr : g.run n = some r) : ∃ s', Weak [] s s' ∧ landO P cfg L fn o s' = some (out r) := by
  unfold endC at h
  split at h
  · simp only [G.run, Option.ite_none_right_eq_some, Option.some.injEq] at hr
    obtain ⟨hok, rfl⟩ := hr
    exact tidyC_inv hok h
  · simp [G.run] at hr
  · exact nomatch h

/-- Behind the call nothing of ours is left. -/
theorem land_sound {g g' : Gh} {w w' : World} {H1 : List ABlk} {r r' : ARes} {e : Ending} (hi : Inv g [] w) (hi' : Inv g' H1 w') (hla : Later g [] w g' H1 w') (hl : (∀ v, r = .ret v → ∃ v', (snap snapFuel v).run H1 = some v' ∧ r' = .ret (wkD v')) ∧ (∀ v, r = .pan v → v.flat = true ∧ r' = .pan v))
    (he : EndOk g' w' r e) : Comes1 g [] w r' [] e w' := by
  refine ⟨frz g' H1, hi'.frz, ⟨⟨fun b ver x hx => ?_, fun k o hk => .inl (hla.ext.st k o hk), hla.ext.cell, hla.ext.shape⟩, hla.size, hla.keep, fun k _ ho => absurd ho not_owned_nil, Nat.le_refl _, hla.os, hla.tape, hla.output, fun k o hk hst => ?_, fun b hb => by simp at hb, fun b ver k z h => by cases h⟩, ?_⟩
  · rw [hi.fresh b ver (.inr (by simp))] at hx; cases hx
  · rcases hst with hst | hst
    · exact (hla.stk k o hk hst).imp_right fun h => absurd h.1 not_owned_nil
    · exact absurd (hla.own k hk hst) not_owned_nil
  · cases r with
    | ret v =>
      obtain ⟨v', hs, rfl⟩ := hl.1 v rfl
      obtain ⟨x, rfl, hr⟩ := he
      exact ⟨x, rfl, R_wkD _ _ (snap_sound hi' _ _ _ _ hs hr).1⟩
    | pan v =>
      obtain ⟨hf, rfl⟩ := hl.2 v rfl
      obtain ⟨x, rfl, hr⟩ := he
      exact ⟨x, rfl, R_flat _ _ hf hr⟩

theorem landA_inv {L : Nat} {fn : Func} {m : Option AVal} {s : St} {r' : ARes} (h : landA P cfg L fn m s = some r') :
    ∃ m' H' r H1, leave P cfg orc0 L s.D m s.H = some (m', H') ∧ ending P fn s.A m' H' = some (r, H1) ∧ (∀ v, r = .ret v → ∃ v', (snap snapFuel v).run H1 = some v' ∧ r' = .ret (wkD v')) ∧ (∀ v, r = .pan v → v.flat = true ∧ r' = .pan v) := by
  unfold landA at h
  split at h
  · rename_i m' H' hl
    split at h
    · rename_i v H1 he
      split at h
      · rename_i v' hs
        simp only [Option.some.injEq] at h
        subst h
        refine ⟨m', H', _, H1, hl, he, ?_, ?_⟩
        · intro u hu; cases hu; exact ⟨v', hs, rfl⟩
        · intro u hu; cases hu
      · cases h
    · rename_i v H1 he
      split at h
      · rename_i hf
        simp only [Option.some.injEq] at h
        subst h
        refine ⟨m', H', _, H1, hl, he, ?_, ?_⟩
        · intro u hu; cases hu
        · intro u hu; cases hu; exact ⟨hf, rfl⟩
      · cases h
    · cases h
  · cases h

theorem fnC_sound (hm : P.follows .mixedOrders = true) (hN : ∀ (f : FuncId) (fn : Func), P.funcs[f]? = some fn → fn.name ≠ "runtime.NumGoroutine") {L : Nat} {f : FuncId} {args : List AVal} {ρ : Type} {out : ρ → ARes} {g : G P ρ}
    (h : fnC P cfg L f args out g) {n : Nat} {r : ρ} (hr : g.run n = some r) : FnVal P f args (out r) := by
  unfold fnC at h
  split at h
  · rename_i fn hf
    split at h
    · rename_i c hb
      refine ⟨⟨fn, c, hf, hb, hN f fn hf⟩, fun gh w vs hi hl => callsIn_wide.1 (callsIn_of_wp_marks (F := Fr none) (n := 0) hf hb trivial ?_)⟩
      have hsim : Sim gh ⟨frameA fn.ntmps args, [], []⟩ { tmps := vs ++ Array.replicate (fn.ntmps - vs.size) undef, defers := [] } w := ⟨hi, frame_RL hl _, rfl⟩
      obtain ⟨g', o, s1, h', hr', hd⟩ := gxC_det (X := env0 P cfg) hm (nestN_ok hm hN 9) c r g _ _ h hr
      obtain ⟨s', hwk, hlo⟩ := endC_inv h' hr'
      refine hd none gh w hi trivial _ gh _ w hsim (Later.refl _ _ _) fun o1 s1 ⟨e1, e2⟩ => ?_
      subst e1; subst e2
      refine OutPost.weak hi hwk ?_
      have key : ∀ (m : Option AVal) (u : FrameMode), landA P cfg L fn m s' = some (out r) → ∀ g' a' w', Sim g' s' a' w' → Later gh [] w g' s'.H w' → ModeOk g' w' m u →
          LeavesInM (Fr none) 0 P fn a'.tmps (Comes1 gh [] w (out r) []) a'.defers u w' := by
        intro m u hla g' a' w' hs' hlat hmo
        obtain ⟨m', H', rr, H1, h1, h2, h3⟩ := landA_inv hla
        refine leavesInM_mono ?_ (leave_sound hm hN orc0_ok s'.D a'.defers m u s'.H g' w' m' H' hs'.defs hs'.inv hs'.tmps hmo h1 h2 hlat)
        rintro e w2 ⟨g2, hi2, hla2, he2⟩
        exact land_sound hi hi2 hla2 h3 he2
      cases o1 with
      | normal => exact fun g' a' w' hs' hlat => key none .returning hlo g' a' w' hs' hlat rfl
      | ret => exact fun g' a' w' hs' hlat => key none .returning hlo g' a' w' hs' hlat rfl
      | exit id => simp [landO] at hlo
      | pan v => exact fun g' a' w' x hv hs' hlat hrx => key (some v) (.panicking [{ v := x, recovered := false }]) hlo g' a' w' hs' hlat ⟨hv, x, rfl, hrx⟩
    · exact h.elim
  · exact h.elim

/-! ### With memory -/

inductive AtEndR (P : Program) [Globs] {ρ : Type} (fn : Func) (o : AOut) (s : St) (H0 : List ABlk) (out : ρ → ARes × List ABlk) : Prop

/-- The first blocks. -/
def trimR (n : Nat) : Option (ARes × List ABlk) → Option (ARes × List ABlk)
  | some (a, H) => some (a, H.take n)
  | none => none

def endCR {ρ : Type} (P : Program) [Globs] (cfg : Cfg) (L : Nat) (fn : Func) (H0 : List ABlk) (out : ρ → ARes × List ABlk) (g : G P ρ) (o : AOut) (s : St) : Prop :=
  match g with
  | .done ts r => tidyC H0 ts s fun s => trimR H0.length (landRO P cfg L fn o s) = some (out r)
  | .fail => True
  | _ => AtEndR P fn o s H0 out

def fnCR {ρ : Type} (P : Program) [Globs] (cfg : Cfg) (L : Nat) (f : FuncId) (args : List AVal) (H0 : List ABlk) (out : ρ → ARes × List ABlk) (g : G P ρ) : Prop :=
  match P.funcs[f]? with
  | some fn => match fn.body with
    | some c => gxC P (env0 P cfg) H0 c g ⟨frameA fn.ntmps args, H0, []⟩ fun g o s => endCR P cfg L fn H0 out g o s
    | none => False
  | none => False

def leafR {ρ : Type} (out : ρ → ARes × List ABlk) (r : ρ) : Prop := some (out r) = some (out r)

theorem endCR_inv {n L : Nat} {ρ : Type} {fn : Func} {H0 : List ABlk} {out : ρ → ARes × List ABlk} {g : G P ρ} {o : AOut} {s : St} {r : ρ} (h : endCR P cfg L fn H0 out g o s) (hr : g.run n = some r) : ∃ s', Weak H0 s s' ∧ trimR H0.length (landRO P cfg L fn o s') = some (out r) := by
  unfold endCR at h
  split at h
  · simp only [G.run, Option.ite_none_right_eq_some, Option.some.injEq] at hr
    obtain ⟨hok, rfl⟩ := hr
    exact tidyC_inv hok h
  · simp [G.run] at hr
  · exact nomatch h

theorem fnCR_sound (hm : P.follows .mixedOrders = true) (hN : ∀ (f : FuncId) (fn : Func), P.funcs[f]? = some fn → fn.name ≠ "runtime.NumGoroutine") {L : Nat} {f : FuncId} {args : List AVal} {H0 : List ABlk} {ρ : Type} {out : ρ → ARes × List ABlk} {g : G P ρ}
    (h : fnCR P cfg L f args H0 out g) {n : Nat} {r : ρ} (hr : g.run n = some r) (h0 : 0 < H0.length) (ha : (out r).1.okR = true) (hrow : ∀ x ∈ (out r).2, x.row0 = true ∨ x = .dead) : FnRef P f args H0 (out r).1 (out r).2 := by
  unfold fnCR at h
  split at h
  · rename_i fn hf
    split at h
    · rename_i c hb
      obtain ⟨g', o, s1, h', hr', hd⟩ := gxC_det (X := env0 P cfg) hm (nestN_ok hm hN 9) c r g _ _ h hr
      obtain ⟨s', hwk, hlo⟩ := endCR_inv h' hr'
      cases hl : landRO P cfg L fn o s' with
      | none => rw [hl] at hlo; cases hlo
      | some p =>
        obtain ⟨a, H1⟩ := p
        rw [hl] at hlo
        simp only [trimR, Option.some.injEq] at hlo
        have := FnRef.of hm hN hf hb (fun g0 w0 hi => hd none g0 w0 hi trivial) hwk hl
        rw [← hlo] at ha hrow ⊢
        exact FnRef.take this h0 ha hrow
    · exact h.elim
  · exact h.elim

/-- What is asked of a program once. -/
class Plain (P : Program) : Prop where
  mixed : P.follows .mixedOrders = true
  names : ∀ (f : FuncId) (fn : Func), P.funcs[f]? = some fn → fn.name ≠ "runtime.NumGoroutine"

def Ctr.of [hp : Plain P] (cfg : Cfg) (L : Nat) (f : FuncId) (X : Type) (args : X → List AVal) (sh : Sh) (out : sh.El → ARes) (g : X → G P sh.El) (h : ∀ x, fnC P cfg L f (args x) out (g x) = (g x).claims (leafF out)) : Ctr P where
  f := f
  X := X
  args := args
  sh := sh
  out := out
  S := fun n x => (g x).run n
  ok := fun _ x _ hr => fnC_sound hp.mixed hp.names (by rw [h x]; exact G.claims_hold (fun _ => rfl) (g x)) hr

/-- A function that is handed a variable of ours. -/
def Ctr1.ofVar [hp : Plain P] (cfg : Cfg) (L : Nat) (f : FuncId) (X : Type) (args : X → List AVal) (τ : Type) (sz : Nat) (enc : τ → List AVal) (b : X → τ) (sh : Sh) (out : sh.El → ARes) (bo : sh.El → τ) (g : X → G P sh.El)
    (he : ∀ a, AVal.pureL (enc a) = true) (ha : ∀ x, AVal.only0L (args x) = true) (hr : sh.all fun r => (out r).okR = true)
    (h : ∀ x, fnCR P cfg L f (args x) [.row 0 sz [enc (b x)]] (fun r => (out r, [.row 0 sz [enc (bo r)]])) (g x) = (g x).claims (leafR fun r => (out r, [.row 0 sz [enc (bo r)]]))) : Ctr1 P where
  f := f
  X := X
  args := args
  blk := fun x => .row 0 sz [enc (b x)]
  sh := sh
  out := out
  outB := fun _ r => .row 0 sz [enc (bo r)]
  S := fun n x => (g x).run n
  a0 := ha
  b0 := fun x => by simp [ABlk.row0, he]
  b1 := fun _ r => .inl (by simp [ABlk.row0, he])
  r0 := fun r => (sh.all_iff _).1 hr r
  ok := fun _ x r hr' => fnCR_sound hp.mixed hp.names (out := fun r => (out r, [.row 0 sz [enc (bo r)]])) (by rw [h x]; exact G.claims_hold (fun _ => rfl) (g x)) hr' (Nat.zero_lt_succ _) ((sh.all_iff _).1 hr r) fun y hy => by
    simp only [List.mem_singleton] at hy; subst hy; exact .inl (by simp [ABlk.row0, he])

/-- A function that is handed a slice of ours. -/
def Ctr1.ofRows [hp : Plain P] (cfg : Cfg) (L : Nat) (f : FuncId) (X : Type) (args : X → List AVal) (τ : Type) (sz : Nat) (enc : τ → List AVal) (b : X → List τ) (sh : Sh) (out : sh.El → ARes) (bo : sh.El → List τ) (g : X → G P sh.El)
    (he : ∀ a, AVal.pureL (enc a) = true) (ha : ∀ x, AVal.only0L (args x) = true) (hr : sh.all fun r => (out r).okR = true)
    (h : ∀ x, fnCR P cfg L f (args x) [.row 0 sz ((b x).map enc)] (fun r => (out r, [.row 0 sz ((bo r).map enc)])) (g x) = (g x).claims (leafR fun r => (out r, [.row 0 sz ((bo r).map enc)]))) : Ctr1 P where
  f := f
  X := X
  args := args
  blk := fun x => .row 0 sz ((b x).map enc)
  sh := sh
  out := out
  outB := fun _ r => .row 0 sz ((bo r).map enc)
  S := fun n x => (g x).run n
  a0 := ha
  b0 := fun x => by simp [ABlk.row0, he]
  b1 := fun _ r => .inl (by simp [ABlk.row0, he])
  r0 := fun r => (sh.all_iff _).1 hr r
  ok := fun _ x r hr' => fnCR_sound hp.mixed hp.names (out := fun r => (out r, [.row 0 sz ((bo r).map enc)])) (by rw [h x]; exact G.claims_hold (fun _ => rfl) (g x)) hr' (Nat.zero_lt_succ _) ((sh.all_iff _).1 hr r) fun y hy => by
    simp only [List.mem_singleton] at hy; subst hy; exact .inl (by simp [ABlk.row0, he])

/-- A function that is handed a slice of ours, which is nobody's behind it. -/
def Ctr1.ofRowsD [hp : Plain P] (cfg : Cfg) (L : Nat) (f : FuncId) (X : Type) (args : X → List AVal) (τ : Type) (sz : Nat) (enc : τ → List AVal) (b : X → List τ) (sh : Sh) (out : sh.El → ARes) (g : X → G P sh.El)
    (he : ∀ a, AVal.pureL (enc a) = true) (ha : ∀ x, AVal.only0L (args x) = true) (hr : sh.all fun r => (out r).okR = true)
    (h : ∀ x, fnCR P cfg L f (args x) [.row 0 sz ((b x).map enc)] (fun r => (out r, [.dead])) (g x) = (g x).claims (leafR fun r => (out r, [.dead]))) : Ctr1 P where
  f := f
  X := X
  args := args
  blk := fun x => .row 0 sz ((b x).map enc)
  sh := sh
  out := out
  outB := fun _ _ => .dead
  S := fun n x => (g x).run n
  a0 := ha
  b0 := fun x => by simp [ABlk.row0, he]
  b1 := fun _ _ => .inr rfl
  r0 := fun r => (sh.all_iff _).1 hr r
  ok := fun _ x r hr' => fnCR_sound hp.mixed hp.names (out := fun r => (out r, [.dead])) (by rw [h x]; exact G.claims_hold (fun _ => rfl) (g x)) hr' (Nat.zero_lt_succ _) ((sh.all_iff _).1 hr r) fun y hy => by
    simp only [List.mem_singleton] at hy; subst hy; exact .inr rfl

theorem FnVal.lstNil {f : FuncId} {r : ARes} (h0 : FnVal P f [.nz true] r) (h1 : FnVal P f [.nz false] r) : FnVal P f [.lst []] r := by
  refine ⟨h0.1, fun g w vs hi hl => ?_⟩
  obtain ⟨x, xs, hv, hx, hl'⟩ := hl
  simp only [R] at hx
  obtain ⟨a, cap, rfl, _, _⟩ := hx
  by_cases ha : a.isNone = true
  · exact h0.2 g w vs hi (by rw [hv]; exact ⟨_, _, rfl, by simp only [R]; exact ⟨a, cap, rfl, ha⟩, hl'⟩)
  · exact h1.2 g w vs hi (by rw [hv]; exact ⟨_, _, rfl, by simp only [R]; exact ⟨a, cap, rfl, by cases a <;> simp_all⟩, hl'⟩)

/-- A function of one list that looks whether it is nil, and does alike where it has no elements. -/
def Ctr.ofNil [hp : Plain P] (cfg : Cfg) (L : Nat) (f : FuncId) (α : Type) (enc : α → List AVal) (sh : Sh) (out : sh.El → ARes) (g : List α → G P sh.El) (g0 g1 : G P sh.El) (r : sh.El) (e0 : g0.run 0 = some r) (e1 : g1.run 0 = some r)
    (h : ∀ x, fnC P cfg L f [.lst (x.map enc)] out (g x) = (g x).claims (leafF out)) (h0 : fnC P cfg L f [.nz true] out g0 = g0.claims (leafF out)) (h1 : fnC P cfg L f [.nz false] out g1 = g1.claims (leafF out)) : Ctr P where
  f := f
  X := List α
  args := fun x => [.lst (x.map enc)]
  sh := sh
  out := out
  S := fun n x => match x with
    | [] => some r
    | _ :: _ => (g x).run n
  ok := fun n x q hr => by
    cases x with
    | nil =>
      simp only [Option.some.injEq] at hr
      subst hr
      exact FnVal.lstNil (fnC_sound hp.mixed hp.names (by rw [h0]; exact G.claims_hold (fun _ => rfl) g0) e0) (fnC_sound hp.mixed hp.names (by rw [h1]; exact G.claims_hold (fun _ => rfl) g1) e1)
    | cons y ys => exact fnC_sound hp.mixed hp.names (by rw [h (y :: ys)]; exact G.claims_hold (fun _ => rfl) (g (y :: ys))) hr

end
end Go.AM
