/- Contracts with memory: told for blocks 0, 1, .., they hold wherever these blocks lie. No program. -/
import Derived.Test.YtbfglcegmhgjdaaGreatDoorAmGr
namespace Go.AM

section
set_option linter.unusedSectionVars false
variable [Globs] {P : Program} {cfg : Cfg}

/-! ### Blocks put elsewhere -/

/-- Where block j goes. -/
def fwdB (bs : List Nat) (n j : Nat) : Nat := match bs[j]? with
  | some b => b
  | none => n + (j - bs.length)
/-- Whence block b comes. -/
def backB (bs : List Nat) (n b : Nat) : Option Nat := match idxIn b bs 0 with
  | some j => some j
  | none => match Nat.blt b n with
    | true => none
    | false => some (bs.length + (b - n))
def outR (bs : List Nat) (n : Nat) : Ren := fun j v => some (fwdB bs n j, v)
def inR (bs : List Nat) (n : Nat) : Ren := fun b v => (backB bs n b).map fun j => (j, v)

/-- Are these places for blocks? -/
def placesB (bs : List Nat) (n m : Nat) : Bool := nodupB bs && bs.all (fun b => Nat.blt b n) && Nat.beq bs.length m

theorem placesB_inv {bs : List Nat} {n m : Nat} (h : placesB bs n m = true) : nodupB bs = true ∧ (∀ b ∈ bs, b < n) ∧ bs.length = m := by
  simp only [placesB, Bool.and_eq_true, List.all_eq_true, Nat.blt_eq] at h
  simp_all

theorem back_fwd {bs : List Nat} {n : Nat} (hn : nodupB bs = true) (hlt : ∀ b ∈ bs, b < n) (j : Nat) : backB bs n (fwdB bs n j) = some j := by
  unfold fwdB
  split
  · rename_i b hb
    have := idxIn_nodup 0 hn hb
    grind [backB]
  · rename_i hb
    rw [List.getElem?_eq_none_iff] at hb
    have hno : idxIn (n + (j - bs.length)) bs 0 = none := by
      cases hi : idxIn (n + (j - bs.length)) bs 0 with
      | none => rfl
      | some i =>
        obtain ⟨_, h2⟩ := idxIn_get hi
        have := hlt _ (List.mem_of_getElem? h2)
        omega
    simp only [backB, hno]
    have : Nat.blt (n + (j - bs.length)) n = false := by
      rw [← Bool.not_eq_true, Nat.blt_eq]; omega
    grind

theorem fwd_back {bs : List Nat} {n b j : Nat} (h : backB bs n b = some j) : fwdB bs n j = b := by
  unfold backB at h
  split at h
  · rename_i i hi
    simp only [Option.some.injEq] at h
    subst h
    obtain ⟨_, h2⟩ := idxIn_get hi
    grind [fwdB]
  · split at h
    · cases h
    · rename_i hb
      rw [← Bool.not_eq_true, Nat.blt_eq] at hb
      grind [fwdB]

mutual
theorem ren_ren {f f' : Ren} (h : ∀ b v, ∃ b', f b v = some (b', v) ∧ f' b' v = some (b, v)) : ∀ (a : AVal), (a.ren f).ren f' = a
  | .sc _ => rfl
  | .agg cs => by simp only [AVal.ren, ren_renL h cs]
  | .tup cs => by simp only [AVal.ren, ren_renL h cs]
  | .ptr b v i o => by obtain ⟨b', h1, h2⟩ := h b v; simp [AVal.ren, h1, h2]
  | .cptr .. => rfl
  | .sl b v sz o n => by obtain ⟨b', h1, h2⟩ := h b v; simp [AVal.ren, h1, h2]
  | .lst _ => rfl
  | .tls _ => rfl
  | .fn g a b => by simp only [AVal.ren, ren_renL h a, ren_renL h b]
  | .ifc t v => by simp only [AVal.ren, ren_ren h v]
  | .mp b => by obtain ⟨b', h1, h2⟩ := h b 0; simp [AVal.ren, h1, h2]
  | .yld b => by obtain ⟨b', h1, h2⟩ := h b 0; simp [AVal.ren, h1, h2]
  | .sa b v i o s n => by obtain ⟨b', h1, h2⟩ := h b v; simp [AVal.ren, h1, h2]
  | .glob .. => rfl
  | .emp => rfl
  | .nz _ => rfl
  | .junk => rfl
theorem ren_renL {f f' : Ren} (h : ∀ b v, ∃ b', f b v = some (b', v) ∧ f' b' v = some (b, v)) : ∀ (l : List AVal), AVal.renL f' (AVal.renL f l) = l
  | [] => rfl
  | a :: as => by simp only [AVal.renL, ren_ren h a, ren_renL h as]
end

def placeAt (f : Ren) (bs pu : List Nat) (H : List ABlk) : Nat → Nat → List ABlk
  | 0, _ => []
  | k + 1, i => (match idxIn i bs 0 with
    | some j => renBlk f (pu.contains j) none (H.getD j .dead)
    | none => .dead) :: placeAt f bs pu H k (i + 1)
def renTail (f : Ren) (pu : List Nat) : Nat → List ABlk → List ABlk
  | _, [] => []
  | j, x :: xs => renBlk f (pu.contains j) none x :: renTail f pu (j + 1) xs

/-- The blocks at their places, among n; new ones behind. -/
def placeH (bs pu : List Nat) (n : Nat) (H : List ABlk) : List ABlk := placeAt (outR bs n) bs pu H n 0 ++ renTail (outR bs n) pu bs.length (H.drop bs.length)

theorem placeAt_length (f : Ren) (bs pu : List Nat) (H : List ABlk) : ∀ (k i : Nat), (placeAt f bs pu H k i).length = k
  | 0, _ => rfl
  | k + 1, i => by simp [placeAt, placeAt_length f bs pu H k (i + 1)]
theorem placeAt_get (f : Ren) (bs pu : List Nat) (H : List ABlk) : ∀ (k i b : Nat), b < k → (placeAt f bs pu H k i)[b]? = some (match idxIn (i + b) bs 0 with | some j => renBlk f (pu.contains j) none (H.getD j .dead) | none => .dead)
  | 0, _, _, h => by omega
  | k + 1, i, 0, _ => by simp [placeAt]
  | k + 1, i, b + 1, h => by
    simp only [placeAt, List.getElem?_cons_succ]
    rw [placeAt_get f bs pu H k (i + 1) b (by omega), show i + 1 + b = i + (b + 1) by omega]
theorem renTail_length (f : Ren) (pu : List Nat) : ∀ (j : Nat) (l : List ABlk), (renTail f pu j l).length = l.length
  | _, [] => rfl
  | j, _ :: xs => by simp [renTail, renTail_length f pu (j + 1) xs]
theorem renTail_get (f : Ren) (pu : List Nat) : ∀ (j : Nat) (l : List ABlk) (b : Nat), (renTail f pu j l)[b]? = (l[b]?).map fun x => renBlk f (pu.contains (j + b)) none x
  | _, [], _ => by simp [renTail]
  | j, _ :: xs, 0 => by simp [renTail]
  | j, _ :: xs, b + 1 => by
    simp only [renTail, List.getElem?_cons_succ]
    rw [renTail_get f pu (j + 1) xs b, show j + 1 + b = j + (b + 1) by omega]

theorem placeH_length (bs pu : List Nat) (n : Nat) (H : List ABlk) : (placeH bs pu n H).length = n + (H.length - bs.length) := by
  simp [placeH, placeAt_length, renTail_length]

theorem placeH_get {bs pu : List Nat} {n : Nat} {H : List ABlk} (hlt : ∀ b ∈ bs, b < n) (hl : bs.length ≤ H.length) (b : Nat) :
    (placeH bs pu n H)[b]? = match backB bs n b with
      | some j => (H[j]?).map fun x => renBlk (outR bs n) (pu.contains j) none x
      | none => some .dead := by
  by_cases hb : b < n
  · rw [placeH, List.getElem?_append_left (by rw [placeAt_length]; exact hb), placeAt_get _ _ _ _ _ _ _ hb]
    simp only [Nat.zero_add, backB]
    cases hi : idxIn b bs 0 with
    | some j =>
      obtain ⟨_, h2⟩ := idxIn_get hi
      grind
    | none =>
      have : Nat.blt b n = true := by rw [Nat.blt_eq]; exact hb
      simp [this]
  · have hno : idxIn b bs 0 = none := by
      cases hi : idxIn b bs 0 with
      | none => rfl
      | some i =>
        obtain ⟨_, h2⟩ := idxIn_get hi
        exact absurd (hlt _ (List.mem_of_getElem? h2)) hb
    have h2 : Nat.blt b n = false := by rw [← Bool.not_eq_true, Nat.blt_eq]; exact hb
    grind [placeH, placeAt_length, renTail_get, backB]

theorem renBlk_live0 (f : Ren) (p : Bool) (x : ABlk) : (renBlk f p none x).live = x.live := by cases x <;> rfl

theorem renBlk_back {f f' : Ren} (h : ∀ b v, ∃ b', f b v = some (b', v) ∧ f' b' v = some (b, v)) (p : Bool) {x : ABlk} (hp : p = true → pureBlk x = true) (hl : x.live ≠ none) : RenB f' (renBlk f p none x) x := by
  cases x with
  | unborn => exact absurd rfl hl
  | dead => exact absurd rfl hl
  | row v sz rows =>
    refine ⟨rfl, ?_⟩
    cases p with
    | true => grind [pureBlk]
    | false => exact .inr (by simp [List.map_map, Function.comp_def, ren_renL h])
  | map c es =>
    refine ⟨rfl, ?_⟩
    cases p with
    | true => grind [pureBlk]
    | false => exact .inr (by simp [List.map_map, Function.comp_def, ren_ren h])
  | loop st pend fid A ps as bd => exact ⟨rfl, rfl, rfl, rfl, rfl, rfl, (ren_renL h A).symm⟩
  | defs => trivial
  | iter m since seen stepped => exact ⟨rfl, rfl, rfl, (ren_ren h m).symm⟩

def ARes.renR (f : Ren) : ARes → ARes
  | .ret u => .ret (u.ren f)
  | .pan u => .pan u

open Classical in
theorem FnRef.place {f : FuncId} {args : List AVal} {H H1 : List ABlk} {r : ARes} (h : FnRef P f args H r H1) {bs pu puO : List Nat} {n : Nat} (hb : placesB bs n H.length = true) (hl1 : H.length ≤ H1.length) (hpu : PuOk pu H) (hpo : PuOk puO H1) (hf : ∀ v, r = .pan v → v.flat = true) :
    FnRef P f (AVal.renL (outR bs n) args) (placeH bs pu n H) (r.renR (outR bs n)) (placeH bs puO n H1) := by
  obtain ⟨hn, hlt, hm⟩ := placesB_inv hb
  have hinv : ∀ b v, ∃ b', outR bs n b v = some (b', v) ∧ inR bs n b' v = some (b, v) := fun b v => ⟨_, rfl, by simp [inR, back_fwd hn hlt]⟩
  refine ⟨h.1, fun g w vs hi hl => ?_⟩
  have hK := placeH_get (pu := pu) (H := H) hlt (by omega)
  have hK1 := placeH_get (pu := puO) (H := H1) hlt (by omega)
  have hKf : ∀ j, (placeH bs pu n H)[fwdB bs n j]? = (H[j]?).map fun x => renBlk (outR bs n) (pu.contains j) none x := fun j => by rw [hK, back_fwd hn hlt]
  have hKlen := placeH_length bs pu n H
  have hK1len := placeH_length bs puO n H1
  generalize placeH bs pu n H = K at *
  generalize placeH bs puO n H1 = K1 at *
  have hpb : ∀ {j x}, H[j]? = some x → pu.contains j = true → pureBlk x = true := fun hx hc => hpu _ (by simpa using hc) _ hx
  have hpb1 : ∀ {j x}, H1[j]? = some x → puO.contains j = true → pureBlk x = true := fun hx hc => hpo _ (by simpa using hc) _ hx
  let g' : Gh := ⟨fun j v => g.rho (fwdB bs n j) v, g.st⟩
  have hi' : Inv g' H w := by
    refine hi.ren (f := inR bs n) ⟨rfl, fun b v b' v' x hr hx => ?_, fun j x' hx => ?_, fun j v hj => ?_, fun j x' v v' hx hv hlt' => ?_⟩
    · simp only [inR, Option.map_eq_some_iff, Prod.mk.injEq] at hr
      grind [fwdB, fwd_back]
    · by_cases hl : x'.live = none
      · exact .inl hl
      · obtain ⟨v, hv⟩ := Option.ne_none_iff_exists'.1 hl
        refine .inr ⟨fwdB bs n j, _, v, v, by rw [hKf, hx]; rfl, by rw [renBlk_live0]; exact hv, hv, by simp [inR, back_fwd hn hlt], rfl, renBlk_back hinv _ (fun hc => hpb hx hc) hl⟩
    · show g.rho (fwdB bs n j) v = none
      refine hi.fresh _ _ ?_
      rcases hj with hj | hj
      · left; rw [hKf, hj]; rfl
      grind
    · exact hi.next (fwdB bs n j) _ v v' (by rw [hKf, hx]; rfl) (by rw [renBlk_live0]; exact hv) hlt'
  have hl' : RL g' w args vs.toList := by
    have := RL_ren (g := g) (g' := g') (f := inR bs n) (fun _ _ h => h) (fun b v b' v' x hr hx => by
      simp only [inR, Option.map_eq_some_iff, Prod.mk.injEq] at hr
      grind [fwdB, fwd_back]) _ _ hl
    rwa [ren_renL hinv] at this
  refine (h.2 g' w vs hi' hl').mono fun e w' ⟨g1', hi1, hla, he⟩ => ?_
  let g1 : Gh := ⟨fun b v => match backB bs n b with | some j => g1'.rho j v | none => g.rho b v, g1'.st⟩
  have g1f : ∀ j v, g1.rho (fwdB bs n j) v = g1'.rho j v := fun j v => by simp only [g1, back_fwd hn hlt]
  have own1 : ∀ k, Owned g' H k → Owned g K k := by
    rintro k ⟨j, x, v, z, hx, hv, hk⟩
    exact ⟨fwdB bs n j, _, v, z, by rw [hKf, hx]; rfl, by rw [renBlk_live0]; exact hv, hk⟩
  have own2 : ∀ k, Owned g1 K1 k → Owned g1' H1 k := by
    rintro k ⟨b, x, v, z, hx, hv, hk⟩
    rw [hK1] at hx
    simp only [g1] at hk
    split at hx
    · rename_i j hj
      rw [hj] at hk
      obtain ⟨y, hy, rfl⟩ := Option.map_eq_some_iff.1 hx
      exact ⟨j, y, v, z, hy, by rw [renBlk_live0] at hv; exact hv, hk⟩
    · simp only [Option.some.injEq] at hx
      subst hx; cases hv
  have hinv1 : Inv g1 K1 w' := by
    refine hi1.ren (f := outR bs n) ⟨rfl, fun j v b' v' x hr hx => ?_, fun b x' hx => ?_, fun b v hb => ?_, fun b x' v v' hx hv hlt' => ?_⟩
    · grind [outR]
    · rw [hK1] at hx
      split at hx
      · rename_i j hj
        obtain ⟨y, hy, rfl⟩ := Option.map_eq_some_iff.1 hx
        by_cases hl : y.live = none
        · grind [renBlk_live0]
        · obtain ⟨v, hv⟩ := Option.ne_none_iff_exists'.1 hl
          grind [renBlk_live0, outR, fwd_back, renBlk_ren]
      · simp only [Option.some.injEq] at hx
        subst hx; exact .inl rfl
    · rcases hb with hb | hb
      · rw [hK1] at hb
        split at hb
        · rename_i j hj
          obtain ⟨y, hy, he⟩ := Option.map_eq_some_iff.1 hb
          have : y = .unborn := by cases y <;> simp [renBlk] at he <;> rfl
          subst this
          simp only [g1, hj]
          exact hi1.fresh j v (.inl hy)
        · cases hb
      · have hno : K1[b]? = none := List.getElem?_eq_none_iff.2 hb
        rw [hK1] at hno
        split at hno
        · rename_i j hj
          simp only [g1, hj]
          exact hi1.fresh j v (.inr (by simpa using hno))
        · cases hno
    · rw [hK1] at hx
      split at hx
      · rename_i j hj
        obtain ⟨y, hy, rfl⟩ := Option.map_eq_some_iff.1 hx
        rw [renBlk_live0] at hv
        simp only [g1, hj]
        exact hi1.next j y v v' hy hv hlt'
      · simp only [Option.some.injEq] at hx
        subst hx; cases hv
  refine ⟨g1, hinv1, ⟨⟨fun b v y hy => ?_, hla.ext.st, hla.ext.cell, hla.ext.shape⟩, hla.size, fun k hk ho => hla.keep k hk fun o => ho (own1 k o), fun k hk ho => own1 k (hla.own k hk (own2 k ho)), by omega, hla.os, hla.tape, hla.output,
    fun k o hk hs => (hla.stk k o hk hs).imp_right fun h => ⟨own1 k h.1, fun o => h.2 (own2 k o)⟩, fun b hb => ?_, fun b v k z hk => ?_⟩, ?_⟩
  · simp only [g1]
    split
    · rename_i j hj
      exact hla.ext.rho j v y (by grind [fwdB, fwd_back])
    · exact hy
  · rw [hK] at hb
    rw [hK1]
    split at hb
    · rename_i j hj
      obtain ⟨y, hy, he⟩ := Option.map_eq_some_iff.1 hb
      have : y = .dead := by cases y <;> simp [renBlk] at he <;> rfl
      subst this
      obtain ⟨d1, d2⟩ := hla.deadk j hy
      rw [d1]
      refine ⟨rfl, fun v => ?_⟩
      grind [fwdB, fwd_back]
    grind
  · simp only [g1] at hk
    split at hk
    · rename_i j hj
      rcases hla.newk j v k z hk with ⟨v1, z1, h1⟩ | h1
      · grind [fwdB, fwd_back]
      · exact .inr h1
    · exact .inl ⟨v, z, hk⟩
  · cases r with
    | ret u =>
      obtain ⟨y, rfl, hy⟩ := he
      exact ⟨y, rfl, R_ren (g := g1') (g' := g1) (f := outR bs n) (fun _ _ h => h) (fun j v b' v' x hr hx => by
        grind [outR]) _ _ hy⟩
    | pan u =>
      obtain ⟨y, rfl, hy⟩ := he
      exact ⟨y, rfl, R_flat _ _ (hf u rfl) hy⟩

/-! ### Contracts -/

/-- A contract with memory, told for blocks 0, 1, .. -/
structure CtrM (P : Program) [Globs] : Type 1 where
  c : CtrR P
  m : Nat
  pu : List Nat
  puO : List Nat
  hl : ∀ x, (c.heap x).length = m
  ho : ∀ x r, m ≤ (c.outH x r).length
  hp : ∀ x, PuOk pu (c.heap x)
  hq : ∀ x r, PuOk puO (c.outH x r)
  hf : ∀ r v, c.out r = .pan v → v.flat = true

/-- The same where the blocks lie at 'bs', among n. -/
def CtrM.at (c : CtrM P) (bs : List Nat) (n : Nat) (h : placesB bs n c.m = true) : CtrR P where
  f := c.c.f
  X := c.c.X
  args := fun x => AVal.renL (outR bs n) (c.c.args x)
  heap := fun x => placeH bs c.pu n (c.c.heap x)
  sh := c.c.sh
  out := fun r => (c.c.out r).renR (outR bs n)
  outH := fun x r => placeH bs c.puO n (c.c.outH x r)
  S := c.c.S
  ok := fun k x r hr => FnRef.place (c.c.ok k x r hr) (by rw [c.hl]; exact h) (by rw [c.hl]; exact c.ho x r) (c.hp x) (c.hq x r) fun v hv => c.hf r v hv

inductive AtEndM (P : Program) [Globs] {ρ : Type} (a : ARes) (H1 : List ABlk) (out : ρ → ARes × List ABlk) : Prop

/-- The end of a function with memory. -/
def landM {ρ : Type} (P : Program) [Globs] (out : ρ → ARes × List ABlk) (g : G P ρ) (a : ARes) (H1 : List ABlk) : Prop :=
  match g with
  | .done _ r => some (a, H1) = some (out r)
  | .fail => True
  | _ => AtEndM P a H1 out

def fnM {ρ : Type} (P : Program) [Globs] (cfg : Cfg) (nd : Bool) (f : FuncId) (args : List AVal) (H : List ABlk) (out : ρ → ARes × List ABlk) (g : G P ρ) : Prop :=
  fnN P cfg nd (nestN P cfg nd 8) f args H g (landM P out)

theorem fnM_sound (hm : P.follows .mixedOrders = true) (hN : ∀ (f : FuncId) (fn : Func), P.funcs[f]? = some fn → fn.name ≠ "runtime.NumGoroutine") {nd : Bool} {f : FuncId} {args : List AVal} {H : List ABlk} {ρ : Type} {out : ρ → ARes × List ABlk} {g : G P ρ}
    (h : fnM P cfg nd f args H out g) {n : Nat} {r : ρ} (hr : g.run n = some r) : FnRef P f args H (out r).1 (out r).2 := by
  obtain ⟨g', a, H1, hk, hr', hf⟩ := (nestN_ok (cfg := cfg) (nd := nd) hm hN 9).fn (show (nestN P cfg nd 9).fn f args H g (landM P out) from h) hr
  unfold landM at hk
  split at hk
  · grind [G.run]
  · simp [G.run] at hr'
  · exact nomatch hk

theorem fnM_any (hm : P.follows .mixedOrders = true) (hN : ∀ (f : FuncId) (fn : Func), P.funcs[f]? = some fn → fn.name ≠ "runtime.NumGoroutine") {f : FuncId} {args : List AVal} {H : List ABlk} {ρ : Type} {out : ρ → ARes × List ABlk} {g : G P ρ}
    (h : fnM P cfg true f args H out g) {n : Nat} {r : ARes × List ABlk} (hr : g.can n fun y => out y = r) : FnRef P f args H r.1 r.2 := by
  have hf := (nestN_rel (cfg := cfg) hm hN 9).fn (show (nestN P cfg true 9).fn f args H g (landM P out) from h) hr
  refine ⟨hf.1, fun g w vs hi hl => (hf.2 g w vs hi hl).mono fun e w' ⟨a, H1, ⟨g', hk, hr'⟩, hc⟩ => ?_⟩
  unfold landM at hk
  split at hk
  · obtain ⟨_, rfl⟩ := hr'
    grind
  · exact hr'.elim
  · exact nomatch hk

def ARes.okPan : ARes → Bool
  | .ret _ => true
  | .pan v => v.flat

theorem ARes.okPan_inv {r : ARes} (h : r.okPan = true) : ∀ v, r = .pan v → v.flat = true := by
  rintro v rfl; exact h

theorem PuOk.of {l : List PU} {pu : List Nat} {H : List ABlk} (h : puC l H) (e : l.map (·.b) = pu) : PuOk pu H := e ▸ puC_ok h

/-- What goes with a contract with memory: which blocks are pure. -/
structure MemT (X : Type) (sh : Sh) (args : X → List AVal) (heap : X → List ABlk) (out : sh.El → ARes) (outH : X → sh.El → List ABlk) where
  m : Nat
  pu : List Nat
  puO : List Nat
  pus : X → List PU
  puOs : X → sh.El → List PU
  hl : ∀ x, (heap x).length = m
  ho : ∀ x, sh.all fun r => Nat.ble m (outH x r).length = true
  hp : ∀ x, puC (pus x) (heap x)
  hpu : ∀ x, (pus x).map (·.b) = pu
  hq : ∀ x, sh.all fun r => puC (puOs x r) (outH x r)
  hqu : ∀ x, sh.all fun r => (puOs x r).map (·.b) = puO
  hf : sh.all fun r => (out r).okPan = true

def CtrM.of [hp : Plain P] (cfg : Cfg) (f : FuncId) (X : Type) (args : X → List AVal) (heap : X → List ABlk) (sh : Sh) (out : sh.El → ARes) (outH : X → sh.El → List ABlk) (g : X → G P sh.El) (t : MemT X sh args heap out outH)
    (h : ∀ x, fnM P cfg false f (args x) (heap x) (fun r => (out r, outH x r)) (g x) = (g x).claims (leafR fun r => (out r, outH x r))) : CtrM P where
  c := {
    f := f
    X := X
    args := args
    heap := heap
    sh := sh
    out := out
    outH := outH
    S := fun n x => (g x).run n
    ok := fun n x r hr => fnM_sound hp.mixed hp.names (out := fun r => (out r, outH x r)) (by rw [h x]; exact G.claims_hold (fun _ => rfl) (g x)) hr }
  m := t.m
  pu := t.pu
  puO := t.puO
  hl := t.hl
  ho := fun x r => Nat.le_of_ble_eq_true ((sh.all_iff _).1 (t.ho x) r)
  hp := fun x => .of (t.hp x) (t.hpu x)
  hq := fun x r => .of ((sh.all_iff _).1 (t.hq x) r) ((sh.all_iff _).1 (t.hqu x) r)
  hf := fun r => ARes.okPan_inv ((sh.all_iff _).1 t.hf r)

/-- The guide of a function with memory that goes through maps, checked by the kernel. -/
structure CtrMN (P : Program) [Globs] : Type 1 where
  f : FuncId
  X : Type
  args : X → List AVal
  heap : X → List ABlk
  sh : Sh
  out : sh.El → ARes
  outH : X → sh.El → List ABlk
  g : X → G P sh.El
  t : MemT X sh args heap out outH
  ok : ∀ n x r, (g x).can n (fun y => (out y, outH x y) = r) → FnRef P f (args x) (heap x) r.1 r.2

def CtrMN.of [hp : Plain P] (cfg : Cfg) (f : FuncId) (X : Type) (args : X → List AVal) (heap : X → List ABlk) (sh : Sh) (out : sh.El → ARes) (outH : X → sh.El → List ABlk) (g : X → G P sh.El) (t : MemT X sh args heap out outH)
    (h : ∀ x, fnM P cfg true f (args x) (heap x) (fun r => (out r, outH x r)) (g x) = (g x).claims (leafR fun r => (out r, outH x r))) : CtrMN P where
  f := f
  X := X
  args := args
  heap := heap
  sh := sh
  out := out
  outH := outH
  g := g
  t := t
  ok := fun n x r hr => fnM_any hp.mixed hp.names (out := fun r => (out r, outH x r)) (by rw [h x]; exact G.claims_hold (fun _ => rfl) (g x)) hr

/-- Whatever the order, it computes 'S'. -/
def CtrMN.all (c : CtrMN P) (S : Nat → c.X → Option c.sh.El) (h : ∀ n x r, S n x = some r → ∃ m, (c.g x).can m fun y => (c.out y, c.outH x y) = (c.out r, c.outH x r)) : CtrM P where
  c := {
    f := c.f
    X := c.X
    args := c.args
    heap := c.heap
    sh := c.sh
    out := c.out
    outH := c.outH
    S := S
    ok := fun n x r hr => let ⟨m, hm⟩ := h n x r hr; c.ok m x (c.out r, c.outH x r) hm }
  m := c.t.m
  pu := c.t.pu
  puO := c.t.puO
  hl := c.t.hl
  ho := fun x r => Nat.le_of_ble_eq_true ((c.sh.all_iff _).1 (c.t.ho x) r)
  hp := fun x => .of (c.t.hp x) (c.t.hpu x)
  hq := fun x r => .of ((c.sh.all_iff _).1 (c.t.hq x) r) ((c.sh.all_iff _).1 (c.t.hqu x) r)
  hf := fun r => ARes.okPan_inv ((c.sh.all_iff _).1 c.t.hf r)

end
end Go.AM
