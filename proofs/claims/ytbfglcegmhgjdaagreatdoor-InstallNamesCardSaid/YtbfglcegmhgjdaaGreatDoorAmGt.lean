/- Blocks and slots set in order at the head of a loop: forgotten, named anew, kept by content. No program. -/
import Derived.Test.YtbfglcegmhgjdaaGreatDoorAmZ
namespace Go.AM

/-! ### Blocks under other names -/

abbrev Ren := Nat → Nat → Option (Nat × Nat)

namespace AVal
mutual
def ren (f : Ren) : AVal → AVal
  | .sc v => .sc v
  | .agg cs => .agg (renL f cs)
  | .tup cs => .tup (renL f cs)
  | .ptr b ver i o => match f b ver with
    | some (b', ver') => .ptr b' ver' i o
    | none => .junk
  | .cptr cs o => .cptr cs o
  | .sl b ver sz o n => match f b ver with
    | some (b', ver') => .sl b' ver' sz o n
    | none => .junk
  | .lst rows => .lst rows
  | .tls rows => .tls rows
  | .fn g a b => .fn g (renL f a) (renL f b)
  | .ifc t v => .ifc t (ren f v)
  | .mp b => match f b 0 with
    | some (b', 0) => .mp b'
    | _ => .junk
  | .yld b => match f b 0 with
    | some (b', 0) => .yld b'
    | _ => .junk
  | .sa b ver i o s n => match f b ver with
    | some (b', ver') => .sa b' ver' i o s n
    | none => .junk
  | .glob i o => .glob i o
  | .emp => .emp
  | .nz b => .nz b
  | .junk => .junk
def renL (f : Ren) : List AVal → List AVal
  | [] => []
  | a :: as => ren f a :: renL f as
end

theorem renL_length (f : Ren) : ∀ (l : List AVal), (renL f l).length = l.length
  | [] => rfl
  | _ :: as => by simp [renL, renL_length f as]
end AVal

section
set_option linter.unusedSectionVars false
variable [Globs] {g g' : Gh} {w : World} {f : Ren}

mutual
theorem R_ren (hst : ∀ k o, g.st k o → g'.st k o) (hf : ∀ b v b' v' x, f b v = some (b', v') → g.rho b v = some x → g'.rho b' v' = some x) : ∀ (v : AVal) (x : Value), R g w v x → R g' w (v.ren f) x
  | .sc _, x, hr => by simpa [R, AVal.ren] using hr
  | .agg cs, x, hr => by
      simp only [R, AVal.ren] at hr ⊢
      obtain ⟨vs, e, h1, hl⟩ := hr
      exact ⟨vs, e, h1, RL_ren hst hf cs vs hl⟩
  | .tup cs, x, hr => by
      simp only [R, AVal.ren] at hr ⊢
      obtain ⟨vs, e, hl⟩ := hr
      exact ⟨vs, e, RL_ren hst hf cs vs hl⟩
  | .ptr b ver i o, x, hr => by
      grind [R, AVal.ren]
  | .cptr cs o, x, hr => by
      grind [R, AVal.ren, RC_pure]
  | .sl b ver sz o n, x, hr => by
      grind [R, AVal.ren]
  | .lst rows, x, hr => by
      simp only [R, AVal.ren] at hr ⊢
      obtain ⟨a, cap, e, hle, hr⟩ := hr
      refine ⟨a, cap, e, hle, ?_⟩
      rcases hr with h0 | ⟨k, off, sz, ha, hc⟩
      · exact .inl h0
      · exact .inr ⟨k, off, sz, ha, RR_pure hst rows k off sz hc⟩
  | .tls rows, x, hr => by
      simp only [R, AVal.ren] at hr ⊢
      obtain ⟨k, sz, e, hr⟩ := hr
      exact ⟨k, sz, e, RR_pure hst rows k 0 sz hr⟩
  | .fn _ a b, x, hr => by
      simp only [R, AVal.ren] at hr ⊢
      obtain ⟨va, vb, e, h1, h2⟩ := hr
      exact ⟨va, vb, e, RL_ren hst hf a va h1, RL_ren hst hf b vb h2⟩
  | .ifc t v, x, hr => by
      simp only [R, AVal.ren] at hr ⊢
      obtain ⟨y, e, h1⟩ := hr
      exact ⟨y, e, R_ren hst hf v y h1⟩
  | .mp b, x, hr => by
      grind [R, AVal.ren]
  | .yld b, x, hr => by
      grind [R, AVal.ren]
  | .sa b ver i o s n, x, hr => by
      grind [R, AVal.ren]
  | .glob i o, x, hr => by simpa [R, AVal.ren] using hr
  | .emp, x, hr => by simpa [R, AVal.ren] using hr
  | .nz _, x, hr => by simpa [R, AVal.ren] using hr
  | .junk, x, _ => by simp [R, AVal.ren]
theorem RL_ren (hst : ∀ k o, g.st k o → g'.st k o) (hf : ∀ b v b' v' x, f b v = some (b', v') → g.rho b v = some x → g'.rho b' v' = some x) : ∀ (v : List AVal) (x : List Value), RL g w v x → RL g' w (AVal.renL f v) x
  | [], x, hr => by simpa [RL, AVal.renL] using hr
  | a :: as, x, hr => by
      simp only [RL, AVal.renL] at hr ⊢
      obtain ⟨y, ys, e, h1, h2⟩ := hr
      exact ⟨y, ys, e, R_ren hst hf a y h1, RL_ren hst hf as ys h2⟩
end

/-- The same block, its contents under other names. -/
def RenB (f : Ren) : ABlk → ABlk → Prop
  | .row _ sz rows, .row _ sz' rows' => sz' = sz ∧ ((rows' = rows ∧ rows.all AVal.pureL = true) ∨ rows' = rows.map (AVal.renL f))
  | .map c es, .map c' es' => c' = c ∧ ((es' = es ∧ es.all (fun p => p.1.pure && p.2.1.pure) = true) ∨ es' = es.map fun p => (p.1.ren f, p.2.1.ren f, p.2.2))
  | .loop st pend fid A ps as bd, .loop st' pend' fid' A' ps' as' bd' => st' = st ∧ pend' = pend ∧ fid' = fid ∧ ps' = ps ∧ as' = as ∧ bd' = bd ∧ A' = AVal.renL f A
  | .defs, .defs => True
  | .iter m since seen stepped, .iter m' since' seen' stepped' => since' = since ∧ seen' = seen ∧ stepped' = stepped ∧ m' = m.ren f
  | _, _ => False

structure RenOk (g g' : Gh) (H H' : List ABlk) (f : Ren) : Prop where
  st : g'.st = g.st
  rho : ∀ b v b' v' x, f b v = some (b', v') → g.rho b v = some x → g'.rho b' v' = some x
  blk : ∀ (b' : Nat) (x' : ABlk), H'[b']? = some x' → x'.live = none ∨ ∃ b x v v', H[b]? = some x ∧ x.live = some v ∧ x'.live = some v' ∧ f b v = some (b', v') ∧ g'.rho b' v' = g.rho b v ∧ RenB f x x'
  fresh : ∀ b' v, (H'[b']? = some .unborn ∨ H'.length ≤ b') → g'.rho b' v = none
  next : ∀ (b' : Nat) (x' : ABlk) v v', H'[b']? = some x' → x'.live = some v → v < v' → g'.rho b' v' = none

theorem Good_ren {H H' : List ABlk} (h : RenOk g g' H H' f) {b b' v v' : Nat} {x x' : ABlk} (hg : Good g w b x) (hv : x.live = some v) (hv' : x'.live = some v') (hr : g'.rho b' v' = g.rho b v) (hb : RenB f x x') : Good g' w b' x' := by
  have hst : ∀ k o, g.st k o → g'.st k o := fun k o h' => by rw [h.st]; exact h'
  cases x <;> cases x' <;> simp only [RenB] at hb <;> try exact hb.elim
  case row.row ver sz rows ver' sz' rows' =>
    simp only [ABlk.live, Option.some.injEq] at hv hv'
    subst hv; subst hv'
    obtain ⟨rfl, hb⟩ := hb
    rcases hg with ⟨k, c, e, h1, h2, h3, h4, h5⟩ | ⟨rfl, h2, h3⟩
    · rcases hb with ⟨rfl, hp⟩ | rfl
      · refine .inl ⟨k, c, e, hr.trans h1, h2, RowsAt_of _ _ fun j r hj => ?_, h4, h5⟩
        obtain ⟨r1, r2⟩ := RowsAt_get _ _ _ _ h3 hj
        obtain ⟨vs, v1, v2, v3, v4⟩ := RL_of_CellsAt r2
        exact ⟨r1, CellsAt_of_RL (RL_pure hst _ _ (List.all_eq_true.1 hp r (List.mem_of_getElem? hj)) v3) v2 v4⟩
      · refine .inl ⟨k, c, e, hr.trans h1, h2, RowsAt_of _ _ fun j r hj => ?_, by simpa using h4, h5⟩
        rw [List.getElem?_map] at hj
        obtain ⟨r0, hj0, rfl⟩ := Option.map_eq_some_iff.1 hj
        obtain ⟨r1, r2⟩ := RowsAt_get _ _ _ _ h3 hj0
        obtain ⟨vs, v1, v2, v3, v4⟩ := RL_of_CellsAt r2
        exact ⟨by rw [AVal.renL_length, r1], CellsAt_of_RL (RL_ren hst h.rho _ _ v3) v2 v4⟩
    · rcases hb with ⟨rfl, _⟩ | rfl
      · exact .inr ⟨rfl, hr.trans h2, h3⟩
      · exact .inr ⟨rfl, hr.trans h2, h3⟩
  case map.map c es c' es' =>
    simp only [ABlk.live, Option.some.injEq] at hv hv'
    subst hv; subst hv'
    obtain ⟨rfl, hb⟩ := hb
    obtain ⟨k, ents, h1, h2, h3⟩ := hg
    refine ⟨k, ents, hr.trans h1, h2, ?_⟩
    grind [EntsAt_get, EntsAt_of, R_pure, R_ren, h.rho]
  case loop.loop =>
    simp only [ABlk.live, Option.some.injEq] at hv hv'
    subst hv; subst hv'
    obtain ⟨rfl, rfl, rfl, rfl, rfl, rfl, rfl⟩ := hb
    obtain ⟨k, tmps, dk, fn, h1, h2, h3⟩ := hg
    exact ⟨k, tmps, dk, fn, hr.trans h1, h2, RL_ren hst h.rho _ _ h3⟩
  case iter.iter =>
    simp only [ABlk.live, Option.some.injEq] at hv hv'
    subst hv; subst hv'
    obtain ⟨rfl, rfl, rfl, rfl⟩ := hb
    obtain ⟨k, mo, h1, h2, h3⟩ := hg
    exact ⟨k, mo, hr.trans h1, h2, R_ren hst h.rho _ _ h3⟩
  case defs.defs =>
    simp only [ABlk.live, Option.some.injEq] at hv hv'
    subst hv; subst hv'
    obtain ⟨k, h1, h2⟩ := hg
    exact ⟨k, hr.trans h1, h2⟩

theorem Inv.ren {H H' : List ABlk} (hi : Inv g H w) (h : RenOk g g' H H' f) : Inv g' H' w := by
  have hst : ∀ k o, g.st k o → g'.st k o := fun k o h' => by rw [h.st]; exact h'
  refine ⟨?_, ?_, h.fresh, h.next, ?_, ?_, hi.globs.st hst⟩
  · intro b' x' hb'
    rcases h.blk b' x' hb' with hl | ⟨b, x, v, v', h1, h2, h3, h4, h5, h6⟩
    · cases x' <;> simp [ABlk.live] at hl <;> trivial
    · exact Good_ren h (hi.good b x h1) h2 h3 h5 h6
  · intro b1 b2 x1 x2 v1 v2 k z1 z2 hb1 hb2 l1 l2 k1 k2
    rcases h.blk b1 x1 hb1 with hl | ⟨c1, y1, u1, u1', p1, p2, p3, p4, p5, p6⟩
    · rw [l1] at hl; cases hl
    · rcases h.blk b2 x2 hb2 with hl | ⟨c2, y2, u2, u2', q1, q2, q3, q4, q5, q6⟩
      · rw [l2] at hl; cases hl
      · rw [l1] at p3; cases p3
        rw [l2] at q3; cases q3
        rw [p5] at k1; rw [q5] at k2
        have := hi.inj c1 c2 y1 y2 u1 u2 k z1 z2 p1 q1 p2 q2 k1 k2
        grind
  · intro b' x' v k z o hb' hl hk hs
    rcases h.blk b' x' hb' with hl' | ⟨b, x, u, u', p1, p2, p3, p4, p5, p6⟩
    · rw [hl] at hl'; cases hl'
    · rw [hl] at p3; cases p3
      rw [p5] at hk
      rw [h.st] at hs
      exact hi.free b x u k z o p1 p2 hk hs
  · intro k o hs
    rw [h.st] at hs
    exact hi.stold k o hs

end

/-! ### Whatever one state tells, another tells too -/

/-- Whatever 's' tells, 's'' tells too, seen from where the blocks were 'H0'. -/
def Weak [Globs] (H0 : List ABlk) (s s' : St) : Prop :=
  ∀ (g0 : Gh) (w0 : World) (g : Gh) (a : Act) (w : World), Inv g0 H0 w0 → Later g0 H0 w0 g s.H w → Sim g s a w → ∃ g', Sim g' s' a w ∧ Later g0 H0 w0 g' s'.H w

theorem Weak.refl [Globs] (H0 : List ABlk) (s : St) : Weak H0 s s := fun _ _ g _ _ _ hl hs => ⟨g, hs, hl⟩

theorem Weak.trans [Globs] {H0 : List ABlk} {s s1 s2 : St} (h : Weak H0 s s1) (h' : Weak H0 s1 s2) : Weak H0 s s2 := fun g0 w0 g a w hi hl hs =>
  let ⟨g1, hs1, hl1⟩ := h g0 w0 g a w hi hl hs
  h' g0 w0 g1 a w hi hl1 hs1

/-! ### Blocks beyond a place dropped, but for some -/

def ABlk.rowVer : ABlk → Option Nat
  | .row v _ _ => some v
  | _ => none

def pureBlk : ABlk → Bool
  | .row _ _ rows => rows.all AVal.pureL
  | .map _ es => es.all fun p => p.1.pure && p.2.1.pure
  | _ => true

def PuOk (pu : List Nat) (H : List ABlk) : Prop := ∀ b ∈ pu, ∀ x, H[b]? = some x → pureBlk x = true

def idxIn (b : Nat) : List Nat → Nat → Option Nat
  | [], _ => none
  | c :: cs, j => match c == b with
    | true => some j
    | false => idxIn b cs (j + 1)

def nodupB : List Nat → Bool
  | [] => true
  | c :: cs => !cs.contains c && nodupB cs

/-- The versions then and now of a block that gets its next version. -/
def bumpOf (bump : List Nat) (H0 H : List ABlk) (b : Nat) : Option (Nat × Nat) :=
  match bump.contains b with
  | true => match (H0[b]?).bind ABlk.rowVer, (H[b]?).bind ABlk.rowVer with
    | some v0, some v1 => some (v0, v1)
    | _, _ => none
  | false => none

/-- A block that was there, made. -/
def oldB (H0 : List ABlk) (b : Nat) : Bool := match H0[b]? with
  | some .unborn => false
  | some _ => true
  | none => false

theorem oldB_lt {H0 : List ABlk} {b : Nat} (h : oldB H0 b = true) : b < H0.length := by
  grind [oldB]

theorem oldB_fresh {H0 : List ABlk} {b : Nat} (h : oldB H0 b = false) : H0[b]? = some .unborn ∨ H0.length ≤ b := by
  grind [oldB]

def cutR (bl bump : List Nat) (H0 H : List ABlk) : Ren := fun b v =>
  match oldB H0 b with
  | true => match bumpOf bump H0 H b with
    | some (v0, v1) => if v = v1 then some (b, v0 + 1) else none
    | none => some (b, v)
  | false => match idxIn b bl 0 with
    | some j => if (H[b]?).bind ABlk.live = some v then some (H0.length + j, 0) else none
    | none => none

def renBlk (f : Ren) (p : Bool) (v' : Option Nat) : ABlk → ABlk
  | .row v sz rows => .row (v'.getD v) sz (match p with | true => rows | false => rows.map (AVal.renL f))
  | .map c es => .map c (match p with | true => es | false => es.map fun p => (p.1.ren f, p.2.1.ren f, p.2.2))
  | .loop st pend fid A ps as bd => .loop st pend fid (AVal.renL f A) ps as bd
  | .iter m since seen stepped => .iter (m.ren f) since seen stepped
  | x => x

def renBlks (f : Ren) (pu bump : List Nat) (H0 H : List ABlk) : Nat → List ABlk → List ABlk
  | _, [] => []
  | b, x :: xs => (match oldB H0 b with | true => renBlk f (pu.contains b) ((bumpOf bump H0 H b).map (·.1 + 1)) x | false => .unborn) :: renBlks f pu bump H0 H (b + 1) xs

def renD (f : Ren) : List DefA → Option (List DefA)
  | [] => some []
  | .call h args :: ds => (renD f ds).map (.call h (AVal.renL f args) :: ·)
  | .mark b :: ds => if f b 0 = some (b, 0) then (renD f ds).map (.mark b :: ·) else none

def cutS (bl bump pu : List Nat) (H0 : List ABlk) (s : St) : Option St :=
  match nodupB bl && bl.all (fun b => !oldB H0 b && decide (b < s.H.length)) with
  | true => match renD (cutR bl bump H0 s.H) s.D with
    | some D => some ⟨AVal.renL (cutR bl bump H0 s.H) s.A, renBlks (cutR bl bump H0 s.H) pu bump H0 s.H 0 (s.H.take H0.length) ++ bl.map (fun b => renBlk (cutR bl bump H0 s.H) (pu.contains b) (some 0) (s.H.getD b .dead)), D⟩
    | none => none
  | false => none

theorem idxIn_get : ∀ {bl : List Nat} {b i j : Nat}, idxIn b bl i = some j → i ≤ j ∧ bl[j - i]? = some b
  | [], b, i, j, h => by simp [idxIn] at h
  | c :: cs, b, i, j, h => by
    simp only [idxIn] at h
    split at h
    · grind
    · obtain ⟨h1, h2⟩ := idxIn_get h
      grind

theorem idxIn_nodup : ∀ {bl : List Nat} {b j : Nat} (i : Nat), nodupB bl = true → bl[j]? = some b → idxIn b bl i = some (i + j)
  | [], b, j, i, _, h => by simp at h
  | c :: cs, b, 0, i, _, h => by simp at h; subst h; simp [idxIn]
  | c :: cs, b, j + 1, i, hn, h => by
    simp only [nodupB, Bool.and_eq_true, Bool.not_eq_true'] at hn
    simp only [List.getElem?_cons_succ] at h
    have hne : (c == b) = false := by
      apply beq_false_of_ne
      rintro rfl
      have := List.mem_of_getElem? h
      simp [this] at hn
    simp only [idxIn, hne]
    rw [idxIn_nodup (i + 1) hn.2 h, show i + 1 + j = i + (j + 1) by omega]

theorem renBlks_get (f : Ren) (pu bump : List Nat) (H0 H : List ABlk) : ∀ (l : List ABlk) (b j : Nat), (renBlks f pu bump H0 H b l)[j]? = (l[j]?).map fun x => match oldB H0 (b + j) with | true => renBlk f (pu.contains (b + j)) ((bumpOf bump H0 H (b + j)).map (·.1 + 1)) x | false => .unborn
  | [], b, j => by simp [renBlks]
  | x :: xs, b, 0 => by simp [renBlks]
  | x :: xs, b, j + 1 => by
    simp only [renBlks, List.getElem?_cons_succ]
    rw [renBlks_get f pu bump H0 H xs (b + 1) j, show b + 1 + j = b + (j + 1) by omega]

theorem renBlk_live (f : Ren) (p : Bool) (v' : Option Nat) (x : ABlk) : (renBlk f p v' x).live = match x with | .row v _ _ => some (v'.getD v) | x => x.live := by cases x <;> rfl

theorem renBlk_ren (f : Ren) (p : Bool) (v' : Option Nat) {x : ABlk} (hp : p = true → pureBlk x = true) (hl : x.live ≠ none) : RenB f x (renBlk f p v' x) := by
  cases x with
  | row v sz rows =>
    refine ⟨rfl, ?_⟩
    cases p with
    | true => exact .inl ⟨rfl, hp rfl⟩
    | false => exact .inr rfl
  | map c es =>
    refine ⟨rfl, ?_⟩
    cases p with
    | true => exact .inl ⟨rfl, hp rfl⟩
    | false => exact .inr rfl
  | loop => exact ⟨rfl, rfl, rfl, rfl, rfl, rfl, rfl⟩
  | defs => trivial
  | iter => exact ⟨rfl, rfl, rfl, rfl⟩
  | unborn => exact absurd rfl hl
  | dead => exact absurd rfl hl

/-- What is known of the blocks under their new names. -/
def cutG (bl bump : List Nat) (H0 H : List ABlk) (g : Gh) : Gh :=
  { rho := fun b v => match decide (b < H0.length) with
      | true => match oldB H0 b with
        | true => match bumpOf bump H0 H b with
          | some (v0, v1) => if v ≤ v0 then g.rho b v else if v = v0 + 1 then g.rho b v1 else none
          | none => g.rho b v
        | false => none
      | false => match bl[b - H0.length]? with
        | some c => if v = 0 then (match (H[c]?).bind ABlk.live with | some u => g.rho c u | none => none) else none
        | none => none
    st := g.st }

theorem rowVer_live {x : ABlk} {v : Nat} (h : x.rowVer = some v) : x.live = some v := by cases x <;> simp [ABlk.rowVer] at h <;> simp [ABlk.live, h]

theorem bumpOf_some {bump : List Nat} {H0 H : List ABlk} {b v0 v1 : Nat} (h : bumpOf bump H0 H b = some (v0, v1)) : (∃ x0, H0[b]? = some x0 ∧ x0.rowVer = some v0) ∧ ∃ x1, H[b]? = some x1 ∧ x1.rowVer = some v1 := by
  grind [bumpOf]

theorem cut_weak [Globs] {bl bump pu : List Nat} {H0 : List ABlk} {s s' : St} (hpu : PuOk pu s.H) (h : cutS bl bump pu H0 s = some s') : Weak H0 s s' := by
  intro g0 w0 g a w hi0 hl hs
  unfold cutS at h
  split at h
  · rename_i hc
    simp only [Bool.and_eq_true, List.all_eq_true, decide_eq_true_eq, Bool.not_eq_true'] at hc
    obtain ⟨hnd, hbl⟩ := hc
    split at h
    · rename_i D hD
      simp only [Option.some.injEq] at h
      subst h
      have hlen : H0.length ≤ s.H.length := hl.len
      have htl : (s.H.take H0.length).length = H0.length := by simp; omega
      have hrl : (renBlks (cutR bl bump H0 s.H) pu bump H0 s.H 0 (s.H.take H0.length)).length = H0.length := by
        have : ∀ (l : List ABlk) (b : Nat), (renBlks (cutR bl bump H0 s.H) pu bump H0 s.H b l).length = l.length := by
          intro l
          induction l with
          | nil => intro b; rfl
          | cons x xs ih => intro b; simp [renBlks, ih]
        rw [this, htl]
      -- the blocks
      have side : ∀ (b' : Nat) (x' : ABlk), (renBlks (cutR bl bump H0 s.H) pu bump H0 s.H 0 (s.H.take H0.length) ++ bl.map (fun b => renBlk (cutR bl bump H0 s.H) (pu.contains b) (some 0) (s.H.getD b .dead)))[b']? = some x' →
          (b' < H0.length ∧ oldB H0 b' = true ∧ ∃ x, s.H[b']? = some x ∧ x' = renBlk (cutR bl bump H0 s.H) (pu.contains b') ((bumpOf bump H0 s.H b').map (·.1 + 1)) x) ∨
          (b' < H0.length ∧ oldB H0 b' = false ∧ x' = .unborn) ∨
          (H0.length ≤ b' ∧ ∃ b x, bl[b' - H0.length]? = some b ∧ s.H[b]? = some x ∧ x' = renBlk (cutR bl bump H0 s.H) (pu.contains b) (some 0) x) := by
        intro b' x' hx
        by_cases hb : b' < H0.length
        · grind [renBlks_get, oldB]
        · grind
      have hpure : ∀ b x, s.H[b]? = some x → pu.contains b = true → pureBlk x = true := fun b x hx hc => hpu b (by simpa using hc) x hx
      have ok : RenOk g (cutG bl bump H0 s.H g) s.H (renBlks (cutR bl bump H0 s.H) pu bump H0 s.H 0 (s.H.take H0.length) ++ bl.map (fun b => renBlk (cutR bl bump H0 s.H) (pu.contains b) (some 0) (s.H.getD b .dead))) (cutR bl bump H0 s.H) := by
        refine ⟨rfl, ?_, ?_, ?_, ?_⟩
        · intro b v b' v' x hf hr
          unfold cutR at hf
          split at hf
          · grind [oldB_lt, cutG]
          · rename_i hlt
            split at hf
            · rename_i j hj
              split at hf
              · rename_i hv
                simp only [Option.some.injEq, Prod.mk.injEq] at hf
                obtain ⟨rfl, rfl⟩ := hf
                obtain ⟨_, hj⟩ := idxIn_get hj
                have h1 : decide (H0.length + j < H0.length) = false := by simp
                simp only [cutG, h1, Nat.add_sub_cancel_left]
                grind
              · cases hf
            · cases hf
        · intro b' x' hx
          rcases side b' x' hx with ⟨hlt, hold, x, h1, rfl⟩ | ⟨_, _, rfl⟩ | ⟨hge, b, x, h1, h2, rfl⟩
          · by_cases hlv : x.live = none
            · grind [renBlk_live, ABlk.live]
            · right
              obtain ⟨v, hv⟩ := Option.ne_none_iff_exists'.1 hlv
              have hlt' : decide (b' < H0.length) = true := by simpa using hlt
              cases hbu : bumpOf bump H0 s.H b' with
              | none =>
                refine ⟨b', x, v, v, h1, hv, ?_, by simp only [cutR, hold, hbu], by simp only [cutG, hlt', hold, hbu], renBlk_ren _ _ _ (hpure _ _ h1) hlv⟩
                grind [renBlk_live, ABlk.live]
              | some p =>
                obtain ⟨v0, v1⟩ := p
                obtain ⟨_, x1, q1, q2⟩ := bumpOf_some hbu
                rw [h1] at q1; cases q1
                have : v = v1 := by rw [rowVer_live q2] at hv; cases hv; rfl
                subst this
                refine ⟨b', x, v, v0 + 1, h1, hv, ?_, by simp only [cutR, hold, hbu, if_true], ?_, renBlk_ren _ _ _ (hpure _ _ h1) hlv⟩
                · grind [renBlk_live, ABlk.rowVer]
                grind [cutG]
          · exact .inl rfl
          · by_cases hlv : x.live = none
            · grind [renBlk_live, ABlk.live]
            · right
              obtain ⟨v, hv⟩ := Option.ne_none_iff_exists'.1 hlv
              have hbge := (hbl b (List.mem_of_getElem? h1)).1
              have hlt2 : decide (b' < H0.length) = false := by simp; omega
              refine ⟨b, x, v, 0, h2, hv, ?_, ?_, ?_, renBlk_ren _ _ _ (hpure _ _ h2) hlv⟩
              · rw [renBlk_live]; cases x <;> simp [ABlk.live] at hv ⊢
              · simp only [cutR, hbge, idxIn_nodup 0 hnd h1, Nat.zero_add]
                grind
              grind [cutG]
        · intro b' v hb
          rcases hb with hb | hb
          · rcases side b' _ hb with ⟨hlt, hold, x, h1, hx⟩ | ⟨hlt, hold, _⟩ | ⟨hge, b, x, h1, h2, hx⟩
            · have hx' : x = .unborn := by cases x <;> simp [renBlk] at hx; rfl
              subst hx'
              have hlt' : decide (b' < H0.length) = true := by simpa using hlt
              have hbu : bumpOf bump H0 s.H b' = none := by
                cases hbu : bumpOf bump H0 s.H b' with
                | none => rfl
                | some p =>
                  grind [bumpOf_some, ABlk.rowVer]
              simp only [cutG, hlt', hold, hbu]
              exact hs.inv.fresh b' v (.inl h1)
            · grind [cutG]
            · have hx' : x = .unborn := by cases x <;> simp [renBlk] at hx; rfl
              grind [cutG, ABlk.live]
          grind [cutG]
        · intro b' x' v v' hx hv hlt
          rcases side b' x' hx with ⟨hlb, hold, x, h1, rfl⟩ | ⟨_, _, rfl⟩ | ⟨hge, b, x, h1, h2, rfl⟩
          · have hlt' : decide (b' < H0.length) = true := by simpa using hlb
            rw [renBlk_live] at hv
            cases hbu : bumpOf bump H0 s.H b' with
            | none =>
              simp only [cutG, hlt', hold, hbu]
              rw [hbu] at hv
              refine hs.inv.next b' x v v' h1 ?_ hlt
              grind [ABlk.live]
            | some p =>
              grind [bumpOf_some, cutG, ABlk.rowVer]
          · cases hv
          grind [cutG]
      refine ⟨cutG bl bump H0 s.H g, ⟨hs.inv.ren ok, RL_ren (g := g) (g' := cutG bl bump H0 s.H g) (fun _ _ h => h) ok.rho _ _ hs.tmps, ?_⟩, ?_⟩
      · have key : ∀ (l l' : List DefA) (ds : List Deferred), renD (cutR bl bump H0 s.H) l = some l' → RD g w l ds → RD (cutG bl bump H0 s.H g) w l' ds := by
          intro l
          induction l with
          | nil => intro l' ds h hd; simp [renD] at h; subst h; exact hd
          | cons d l ih =>
            intro l' ds h hd
            obtain ⟨d', ds', rfl, h1, h2⟩ := hd
            cases d with
            | call f args =>
              simp only [renD, Option.map_eq_some_iff] at h
              obtain ⟨l2, h, rfl⟩ := h
              obtain ⟨cap, t1, t2⟩ := h1
              exact ⟨d', ds', rfl, ⟨cap, t1, RL_ren (g := g) (g' := cutG bl bump H0 s.H g) (fun _ _ h => h) ok.rho _ _ t2⟩, ih _ _ h h2⟩
            | mark b =>
              simp only [renD] at h
              split at h
              · rename_i hb
                obtain ⟨l2, h0, rfl⟩ := Option.map_eq_some_iff.1 h
                obtain ⟨k, sz, t1, t2⟩ := h1
                exact ⟨d', ds', rfl, ⟨k, sz, ok.rho _ _ _ _ _ hb t1, t2⟩, ih _ _ h0 h2⟩
              · cases h
        exact key _ _ _ hD hs.defs
      · refine ⟨⟨?_, hl.ext.st, hl.ext.cell, hl.ext.shape⟩, hl.size, hl.keep, ?_, by simp [hrl], hl.os, hl.tape, hl.output, fun k o hk hs => ?_, ?_, ?_⟩
        · intro b v x hx
          have hold : oldB H0 b = true := by
            cases ho : oldB H0 b with
            | true => rfl
            | false => rw [hi0.fresh b v (oldB_fresh ho)] at hx; cases hx
          have hlt' : decide (b < H0.length) = true := by simpa using oldB_lt hold
          cases hbu : bumpOf bump H0 s.H b with
          | none => simp only [cutG, hlt', hold, hbu]; exact hl.ext.rho b v x hx
          | some p =>
            obtain ⟨v0, v1⟩ := p
            obtain ⟨⟨x0, q1, q2⟩, _⟩ := bumpOf_some hbu
            simp only [cutG, hlt', hold, hbu]
            have : v ≤ v0 := by
              apply Decidable.byContradiction; intro hn
              rw [hi0.next b x0 v0 v q1 (rowVer_live q2) (by omega)] at hx; cases hx
            rw [if_pos this]
            exact hl.ext.rho b v x hx
        · rintro k hk ⟨b', x', v', z, h1, h2, h3⟩
          rcases ok.blk b' x' h1 with hn | ⟨b, x, v, v2, p1, p2, p3, p4, p5, p6⟩
          · rw [h2] at hn; cases hn
          · rw [h2] at p3; cases p3
            rw [p5] at h3
            exact hl.own k hk ⟨b, x, v, z, p1, p2, h3⟩
        · rcases hl.stk k o hk hs with h1 | ⟨h1, h2⟩
          · exact .inl h1
          · refine .inr ⟨h1, ?_⟩
            rintro ⟨b', x', v', z, q1, q2, q3⟩
            rcases ok.blk b' x' q1 with hn | ⟨b, x, v, v2, p1, p2, p3, p4, p5, p6⟩
            · rw [q2] at hn; cases hn
            · rw [q2] at p3; cases p3
              rw [p5] at q3
              exact h2 ⟨b, x, v, z, p1, p2, q3⟩
        · intro b hb
          have hlt : b < H0.length := (List.getElem?_eq_some_iff.1 hb).1
          have hlt' : decide (b < H0.length) = true := by simpa using hlt
          obtain ⟨d1, d2⟩ := hl.deadk b hb
          have hbu : bumpOf bump H0 s.H b = none := by
            cases hbu : bumpOf bump H0 s.H b with
            | none => rfl
            | some p =>
              grind [bumpOf_some, ABlk.rowVer]
          have hold : oldB H0 b = true := by simp [oldB, hb]
          refine ⟨?_, fun ver => by grind [cutG]⟩
          rw [List.getElem?_append_left (by omega), renBlks_get, Nat.zero_add, List.getElem?_take, if_pos hlt, d1]
          simp only [Option.map_some, hold]
          rfl
        · intro b' v' k z hr
          simp only [cutG] at hr
          split at hr
          · split at hr
            · split at hr
              · split at hr
                · exact hl.newk b' _ k z hr
                · split at hr
                  · exact hl.newk b' _ k z hr
                  · cases hr
              · exact hl.newk b' _ k z hr
            · cases hr
          · split at hr
            · rename_i c hcb
              split at hr
              · split at hr
                · rcases hl.newk c _ k z hr with ⟨u, z', hu⟩ | hn
                  · have := (hbl c (List.mem_of_getElem? hcb)).1
                    rw [hi0.fresh c u (oldB_fresh this)] at hu; cases hu
                  · exact .inr hn
                · cases hr
              · cases hr
            · cases hr
    · cases h
  · cases h

/-! ### Single steps -/

/-- A slice that may be nil, as a list. -/
def wkV : AVal → AVal
  | .sc (.slice none 0 0) => .lst []
  | .emp => .lst []
  | .nz _ => .lst []
  | v => v

mutual
/-- The same, in depth. -/
def wkD : AVal → AVal
  | .sc v => wkV (.sc v)
  | .emp => .lst []
  | .nz _ => .lst []
  | .agg cs => .agg (wkL cs)
  | .tup cs => .tup (wkL cs)
  | .fn f a b => .fn f (wkL a) (wkL b)
  | .ifc t v => .ifc t v
  | .cptr cs o => .cptr (wkL cs) o
  | v => v
def wkL : List AVal → List AVal
  | [] => []
  | a :: as => wkD a :: wkL as
end

section
set_option linter.unusedSectionVars false
variable [Globs] {g : Gh} {w : World}

theorem R_wkV {v : AVal} {x : Value} (h : R g w v x) : R g w (wkV v) x := by
  unfold wkV
  grind [R_sc, R]

mutual
theorem wkD_pure : ∀ (v : AVal), v.pure = true → (wkD v).pure = true
  | .sc v, h => by
    simp only [wkD, wkV]
    split <;> simp_all [AVal.pure]
  | .emp, _ => by simp [wkD, AVal.pure]
  | .nz _, _ => by simp [wkD, AVal.pure]
  | .agg cs, h => by simp only [AVal.pure] at h; simp only [wkD, AVal.pure, wkL_pure cs h]
  | .tup cs, h => by simp only [AVal.pure] at h; simp only [wkD, AVal.pure, wkL_pure cs h]
  | .fn f a b, h => by simp only [AVal.pure, Bool.and_eq_true] at h; simp only [wkD, AVal.pure, wkL_pure a h.1, wkL_pure b h.2, Bool.and_self]
  | .ifc t v, h => by simpa only [wkD] using h
  | .cptr cs o, _ => by simp [wkD, AVal.pure]
  | .ptr .., h => by simpa only [wkD] using h
  | .sl .., h => by simpa only [wkD] using h
  | .lst _, h => by simpa only [wkD] using h
  | .tls _, h => by simpa only [wkD] using h
  | .mp _, h => by simpa only [wkD] using h
  | .yld _, h => by simpa only [wkD] using h
  | .sa .., h => by simpa only [wkD] using h
  | .glob .., h => by simpa only [wkD] using h
  | .junk, h => by simpa only [wkD] using h
theorem wkL_pure : ∀ (l : List AVal), AVal.pureL l = true → AVal.pureL (wkL l) = true
  | [], _ => rfl
  | a :: as, h => by simp only [AVal.pureL, Bool.and_eq_true] at h; simp only [wkL, AVal.pureL, wkD_pure a h.1, wkL_pure as h.2, Bool.and_self]
end

mutual
theorem R_wkD : ∀ (v : AVal) (x : Value), R g w v x → R g w (wkD v) x
  | .sc v, x, h => by simp only [wkD]; exact R_wkV h
  | .emp, x, h => by simp only [wkD]; exact R_wkV (v := .emp) h
  | .nz b, x, h => by simp only [wkD]; exact R_wkV (v := .nz b) h
  | .agg cs, x, h => by
    simp only [wkD, R] at h ⊢
    obtain ⟨vs, e, h1, hl⟩ := h
    exact ⟨vs, e, h1, RL_wkL cs vs hl⟩
  | .tup cs, x, h => by
    simp only [wkD, R] at h ⊢
    obtain ⟨vs, e, hl⟩ := h
    exact ⟨vs, e, RL_wkL cs vs hl⟩
  | .fn f a b, x, h => by
    simp only [wkD, R] at h ⊢
    obtain ⟨va, vb, e, h1, h2⟩ := h
    exact ⟨va, vb, e, RL_wkL a va h1, RL_wkL b vb h2⟩
  | .ifc t v, x, h => by simpa only [wkD] using h
  | .cptr cs o, x, h => by
    simp only [wkD, R] at h ⊢
    obtain ⟨k, off, e, hp, hc⟩ := h
    exact ⟨k, off, e, wkL_pure cs hp, RC_wkL cs k off hc⟩
  | .ptr .., x, h => by simpa only [wkD] using h
  | .sl .., x, h => by simpa only [wkD] using h
  | .lst _, x, h => by simpa only [wkD] using h
  | .tls _, x, h => by simpa only [wkD] using h
  | .mp _, x, h => by simpa only [wkD] using h
  | .yld _, x, h => by simpa only [wkD] using h
  | .sa .., x, h => by simpa only [wkD] using h
  | .glob .., x, h => by simpa only [wkD] using h
  | .junk, x, h => by simpa only [wkD] using h
theorem RL_wkL : ∀ (l : List AVal) (vs : List Value), RL g w l vs → RL g w (wkL l) vs
  | [], vs, h => by simpa only [wkL] using h
  | a :: as, vs, h => by
    simp only [wkL, RL] at h ⊢
    obtain ⟨y, ys, e, h1, h2⟩ := h
    exact ⟨y, ys, e, R_wkD a y h1, RL_wkL as ys h2⟩
theorem RC_wkL : ∀ (l : List AVal) (k o : Nat), RC g w l k o → RC g w (wkL l) k o
  | [], k, o, h => by simpa only [wkL] using h
  | a :: as, k, o, h => by
    simp only [wkL, RC] at h ⊢
    obtain ⟨⟨hs, y, hy, ho, hr⟩, h2⟩ := h
    exact ⟨⟨hs, y, hy, ho, R_wkD a y hr⟩, RC_wkL as k (o + 1) h2⟩
end

theorem RL_set1 {A : List AVal} {vs : List Value} {d : Nat} {v v' : AVal} (h : RL g w A vs) (hd : A[d]? = some v) (hv : ∀ x, R g w v x → R g w v' x) : RL g w (A.set d v') vs := by
  grind [RL_get, RL_of]

/-- A cell of a row of ours, told otherwise. -/
theorem Inv.recell {H : List ABlk} (hi : Inv g H w) {b ver sz i j : Nat} {rows : List (List AVal)} {cs : List AVal} {v v' : AVal} (hb : H[b]? = some (.row ver sz rows)) (hcs : rows[i]? = some cs) (hj : cs[j]? = some v) (hv : ∀ x, R g w v x → R g w v' x) :
    Inv g (H.set b (.row ver sz (rows.set i (cs.set j v')))) w ∧ Later g H w g (H.set b (.row ver sz (rows.set i (cs.set j v')))) w := by
  have hlt : b < H.length := (List.getElem?_eq_some_iff.1 hb).1
  have f : ∀ (b' : Nat) (x' : ABlk) (v1 : Nat), (H.set b (.row ver sz (rows.set i (cs.set j v'))))[b']? = some x' → x'.live = some v1 → ∃ x1, H[b']? = some x1 ∧ x1.live = some v1 := by
    intro b' x' v1 h hl
    rcases getElem?_setB h with ⟨rfl, he, _⟩ | ⟨_, h⟩
    · subst he; exact ⟨_, hb, hl⟩
    · exact ⟨x', h, hl⟩
  refine ⟨⟨?_, ?_, ?_, ?_, ?_, hi.stold, hi.globs⟩, ⟨Ext.refl g w, Nat.le_refl _, fun _ _ _ => rfl, ?_, by simp, rfl, ⟨rfl, Nat.le_refl _⟩, rfl, fun _ _ _ h => .inl h, ?_, fun _ ver _ z h => .inl ⟨ver, z, h⟩⟩⟩
  · intro b' x h
    rcases getElem?_setB h with ⟨rfl, he, _⟩ | ⟨hne, h⟩
    · subst he
      rcases hi.good _ _ hb with ⟨k, c, e, h1, h2, h3, h4, h5⟩ | ⟨h1, _⟩
      · refine .inl ⟨k, c, e, h1, h2, RowsAt_of _ _ fun i' r hi' => ?_, by simpa using h4, h5⟩
        by_cases hii : i = i'
        · subst hii
          have hil : i < rows.length := (List.getElem?_eq_some_iff.1 hcs).1
          rw [List.getElem?_set_self hil] at hi'; cases hi'
          obtain ⟨r1, r2⟩ := RowsAt_get _ _ _ _ h3 hcs
          obtain ⟨vs, v1, v2, v3, v4⟩ := RL_of_CellsAt r2
          exact ⟨by simpa using r1, CellsAt_of_RL (RL_set1 v3 hj hv) v2 v4⟩
        · rw [List.getElem?_set_ne hii] at hi'
          exact RowsAt_get _ _ _ _ h3 hi'
      · subst h1; simp at hcs
    · exact hi.good b' x h
  · intro b1 b2 x1 x2 v1 v2 k z1 z2 h1 h2 l1 l2 k1 k2
    obtain ⟨y1, p1, p2⟩ := f _ _ _ h1 l1
    obtain ⟨y2, q1, q2⟩ := f _ _ _ h2 l2
    exact hi.inj b1 b2 y1 y2 v1 v2 k z1 z2 p1 q1 p2 q2 k1 k2
  · intro b' v h
    rcases h with h | h
    · rcases getElem?_setB h with ⟨rfl, he, _⟩ | ⟨_, h⟩
      · cases he
      · exact hi.fresh b' v (.inl h)
    · exact hi.fresh b' v (.inr (by simpa using h))
  · intro b' x v v' h hl hv
    obtain ⟨y1, p1, p2⟩ := f _ _ _ h hl
    exact hi.next b' y1 v v' p1 p2 hv
  · intro b' x v k z o h hl hk
    obtain ⟨y1, p1, p2⟩ := f _ _ _ h hl
    exact hi.free b' y1 v k z o p1 p2 hk
  · rintro k _ ⟨b', x, v, z, h, hl, hz⟩
    obtain ⟨y1, p1, p2⟩ := f _ _ _ h hl
    exact ⟨b', y1, v, z, p1, p2, hz⟩
  grind

end

/-- A place that is spoken of: a slot; a cell of the variable that a slot shows; a cell of the variable in a block. -/
inductive Pl where
  | s (d : Nat)
  | c (d j : Nat)
  | b (b j : Nat)

/-- What lies at a place; what the state is with something else there. -/
def getP (s : St) : Pl → Option AVal
  | .s d => s.A[d]?
  | .c d j => match s.A[d]? with
    | some (.ptr b ver i o) => match s.H[b]? with
      | some (.row v _ rows) => match decide (v = ver) with
        | true => (rows[i]?).bind fun cs => cs[o + j]?
        | false => none
      | _ => none
    | _ => none
  | .b b j => match s.H[b]? with
    | some (.row _ _ rows) => (rows[0]?).bind fun cs => cs[j]?
    | _ => none

def setP (s : St) (v' : AVal) : Pl → St
  | .s d => { s with A := s.A.set d v' }
  | .c d j => match s.A[d]? with
    | some (.ptr b _ i o) => match s.H[b]? with
      | some (.row v sz rows) => { s with H := s.H.set b (.row v sz (rows.set i ((rows.getD i []).set (o + j) v'))) }
      | _ => s
    | _ => s
  | .b b j => match s.H[b]? with
    | some (.row v sz rows) => { s with H := s.H.set b (.row v sz (rows.set 0 ((rows.getD 0 []).set j v'))) }
    | _ => s

theorem setP_len (s : St) (v' : AVal) (p : Pl) : (setP s v' p).H.length = s.H.length := by
  cases p with
  | s d => rfl
  | c d j =>
    grind [setP]
  | b b j =>
    grind [setP]

theorem setP_sound [Globs] {s : St} {p : Pl} {v v' : AVal} (hp : getP s p = some v) {g : Gh} {a : Act} {w : World} (hs : Sim g s a w) (hv : ∀ x, R g w v x → R g w v' x) : Sim g (setP s v' p) a w ∧ Later g s.H w g (setP s v' p).H w := by
  cases p with
  | s d => exact ⟨⟨hs.inv, RL_set1 hs.tmps hp hv, hs.defs⟩, Later.refl _ _ _⟩
  | c d j =>
    simp only [getP] at hp
    split at hp
    · rename_i b ver i o hd
      split at hp
      · rename_i v0 sz rows hb
        split at hp
        · obtain ⟨cs, h1, h2⟩ := Option.bind_eq_some_iff.1 hp
          obtain ⟨i1, i2⟩ := hs.inv.recell hb h1 h2 hv
          have hgd : rows.getD i [] = cs := by rw [List.getD_eq_getElem?_getD, h1]; rfl
          simp only [setP, hd, hb, hgd]
          exact ⟨⟨i1, RL_mono i2.ext _ _ hs.tmps, RD_mono i2.ext _ _ hs.defs⟩, i2⟩
        · cases hp
      · cases hp
    · cases hp
  | b b j =>
    simp only [getP] at hp
    split at hp
    · rename_i v0 sz rows hb
      obtain ⟨cs, h1, h2⟩ := Option.bind_eq_some_iff.1 hp
      obtain ⟨i1, i2⟩ := hs.inv.recell hb h1 h2 hv
      have hgd : rows.getD 0 [] = cs := by rw [List.getD_eq_getElem?_getD, h1]; rfl
      simp only [setP, hb, hgd]
      exact ⟨⟨i1, RL_mono i2.ext _ _ hs.tmps, RD_mono i2.ext _ _ hs.defs⟩, i2⟩
    · cases hp

/-- A nil slice as a list. -/
def wkS (s : St) (p : Pl) : Option St := match getP s p with
  | some v => some (setP s (wkV v) p)
  | none => none

theorem wkS_weak [Globs] {H0 : List ABlk} {s s' : St} {p : Pl} (h : wkS s p = some s') : Weak H0 s s' := by
  unfold wkS at h
  split at h
  · rename_i v hv
    simp only [Option.some.injEq] at h
    subst h
    intro g0 w0 g a w _ hl hs
    obtain ⟨h1, h2⟩ := setP_sound hv hs fun _ => R_wkV
    exact ⟨g, h1, hl.trans h2⟩
  · cases h

/-- A nil slice as one of our own, with elements of 'sz' cells. -/
def ownS (s : St) (p : Pl) (sz : Nat) : Option St := match getP s p, decide (0 < sz) with
  | some (.sc (.slice none 0 0)), true => some (setP { s with H := s.H ++ [.row 0 sz []] } (.sl s.H.length 0 sz 0 0) p)
  | some _, _ => some s
  | none, _ => none

theorem ownS_weak [Globs] {H0 : List ABlk} {s s' : St} {p : Pl} {sz : Nat} (h : ownS s p sz = some s') : Weak H0 s s' := by
  unfold ownS at h
  split at h
  · rename_i hv hz
    simp only [Option.some.injEq] at h
    subst h
    intro g0 w0 g a w _ hl hs
    obtain ⟨i1, i2⟩ := hs.inv.virt (sz := sz) (by simpa using hz)
    have hs1 : Sim g { s with H := s.H ++ [.row 0 sz []] } a w := ⟨i1, RL_mono i2.ext _ _ hs.tmps, RD_mono i2.ext _ _ hs.defs⟩
    have hv1 : getP { s with H := s.H ++ [.row 0 sz []] } p = some (.sc (.slice none 0 0)) := by
      cases p with
      | s d => exact hv
      | c d j =>
        grind [getP]
      | b b j =>
        grind [getP]
    obtain ⟨h1, h2⟩ := setP_sound hv1 hs1 (v' := .sl s.H.length 0 sz 0 0) fun x hx => by
      have := R_sc hx; subst this; simp [R]
    exact ⟨g, h1, (hl.trans i2).trans h2⟩
  · grind [Weak.refl]
  · cases h

/-! ### A slice of our own kept by its content -/

set_option linter.unusedVariables false in
theorem frz1 [Globs] {g : Gh} {H : List ABlk} {w : World} {g0 : Gh} {H0 : List ABlk} {w0 : World} (hi0 : Inv g0 H0 w0) (hi : Inv g H w) (hl : Later g0 H0 w0 g H w) {b ver sz : Nat} {rows : List (List AVal)} (hb : H[b]? = some (.row ver sz rows)) :
    Inv { rho := g.rho, st := fun k o => g.st k o ∨ ∃ z, g.rho b ver = some (k, z) } (H.set b .dead) w ∧ Later g0 H0 w0 { rho := g.rho, st := fun k o => g.st k o ∨ ∃ z, g.rho b ver = some (k, z) } (H.set b .dead) w ∧
    Ext g w { rho := g.rho, st := fun k o => g.st k o ∨ ∃ z, g.rho b ver = some (k, z) } w := by
  have hext : Ext g w { rho := g.rho, st := fun k o => g.st k o ∨ ∃ z, g.rho b ver = some (k, z) } w := ⟨fun _ _ _ h => h, fun _ _ h => .inl h, fun _ _ _ => rfl, fun _ _ h => h⟩
  have f : ∀ (b' : Nat) (x' : ABlk), (H.set b ABlk.dead)[b']? = some x' → x' = .dead ∨ (b' ≠ b ∧ H[b']? = some x') := by
    intro b' x' h
    rcases getElem?_setB h with ⟨rfl, he, _⟩ | ⟨h1, h⟩
    · exact .inl he
    · exact .inr ⟨h1, h⟩
  refine ⟨⟨?_, ?_, ?_, ?_, ?_, ?_, hi.globs.mono hext⟩, ⟨⟨hl.ext.rho, fun k o h => .inl (hl.ext.st k o h), hl.ext.cell, hl.ext.shape⟩, hl.size, hl.keep, ?_, by simpa using hl.len, hl.os, hl.tape, hl.output, ?_, ?_, hl.newk⟩, hext⟩
  · intro b' x' h
    rcases f _ _ h with rfl | ⟨hne, h⟩
    · trivial
    · exact Good_mono hext (hi.good b' x' h) (fun _ _ _ _ _ => rfl) fun _ _ h => h
  · intro b1 b2 x1 x2 v1 v2 k z1 z2 h1 h2 l1 l2
    rcases f _ _ h1 with rfl | ⟨_, h1⟩
    · cases l1
    · rcases f _ _ h2 with rfl | ⟨_, h2⟩
      · cases l2
      · exact hi.inj b1 b2 x1 x2 v1 v2 k z1 z2 h1 h2 l1 l2
  · grind [hi.fresh]
  · intro b' x' v v' h hlv
    rcases f _ _ h with rfl | ⟨_, h⟩
    · cases hlv
    · exact hi.next b' x' v v' h hlv
  · intro b' x' v k z o h hlv hk hs
    rcases f _ _ h with rfl | ⟨hne, h⟩
    · cases hlv
    · rcases hs with hs | ⟨z', hz⟩
      · exact hi.free b' x' v k z o h hlv hk hs
      · exact hne (hi.inj b' b x' _ v ver k z z' h hb hlv rfl hk hz)
  · intro k o hs
    rcases hs with hs | ⟨z, hz⟩
    · exact hi.stold k o hs
    · exact hi.lies hb rfl hz
  · rintro k hk ⟨b', x', v, z, h, hlv, hz⟩
    rcases f _ _ h with rfl | ⟨_, h⟩
    · cases hlv
    · exact hl.own k hk ⟨b', x', v, z, h, hlv, hz⟩
  · rintro k o hk (hs | ⟨z, hz⟩)
    · rcases hl.stk k o hk hs with h1 | ⟨h1, h2⟩
      · exact .inl h1
      · refine .inr ⟨h1, ?_⟩
        rintro ⟨b', x', v, z, h, hlv, hz⟩
        rcases f _ _ h with rfl | ⟨_, h⟩
        · cases hlv
        · exact h2 ⟨b', x', v, z, h, hlv, hz⟩
    · refine .inr ⟨hl.own k hk ⟨b, _, ver, z, hb, rfl, hz⟩, ?_⟩
      rintro ⟨b', x', v, z', h, hlv, hz'⟩
      rcases f _ _ h with rfl | ⟨hne, h⟩
      · cases hlv
      · exact hne (hi.inj b' b x' _ v ver k z' z h hb hlv rfl hz' hz)
  · intro b1 hb1
    obtain ⟨d1, d2⟩ := hl.deadk b1 hb1
    grind

/-- A slice of our own, of pure elements, kept by its content. -/
def frzS (_H0 : List ABlk) (s : St) (p : Pl) (rows : List (List AVal)) : Option St := match getP s p with
  | some (.sl b ver sz 0 _) => match s.H[b]? with
    | some (.row ver' sz' _) => match decide (ver' = ver ∧ sz' = sz) with
      | true => some (setP { s with H := s.H.set b .dead } (.lst rows) p)
      | false => none
    | _ => none
  | _ => none

/-- What is to be known of the slice. -/
def FrzOk (s : St) (p : Pl) (rows : List (List AVal)) : Prop := ∃ b ver sz, getP s p = some (.sl b ver sz 0 rows.length) ∧ s.H[b]? = some (.row ver sz rows) ∧ rows.all AVal.pureL = true

theorem frzS_weak [Globs] {H0 : List ABlk} {s s' : St} {p : Pl} {rows : List (List AVal)} (hok : FrzOk s p rows) (h : frzS H0 s p rows = some s') : Weak H0 s s' := by
  obtain ⟨b, ver, sz, h1, h2, h3⟩ := hok
  unfold frzS at h
  rw [h1] at h
  simp only at h
  split at h
  · rename_i ver' sz' rows' hb
    rw [h2] at hb
    simp only [Option.some.injEq, ABlk.row.injEq] at hb
    obtain ⟨rfl, rfl, rfl⟩ := hb
    split at h
    · simp only [Option.some.injEq] at h
      subst h
      intro g0 w0 g a w hi0 hl hs
      obtain ⟨i1, i2, i3⟩ := frz1 hi0 hs.inv hl h2
      have hs1 : Sim { rho := g.rho, st := fun k o => g.st k o ∨ ∃ z, g.rho b ver = some (k, z) } { s with H := s.H.set b .dead } a w := ⟨i1, RL_mono i3 _ _ hs.tmps, RD_mono i3 _ _ hs.defs⟩
      have key0 : ∀ (l : List AVal) (j : Nat) (y : AVal), AVal.pureL l = true → l[j]? = some y → y.pure = true := by
        intro l
        induction l with
        | nil => intro j y _ h; simp at h
        | cons c cs ih3 =>
          grind [AVal.pureL]
      have hgp : getP { s with H := s.H.set b .dead } p = some (.sl b ver sz 0 rows.length) := by
        cases p with
        | s d => exact h1
        | c d j =>
          simp only [getP] at h1 ⊢
          split at h1
          · grind [ABlk.row.injEq, AVal.pure]
          · cases h1
        | b b2 j =>
          grind [getP, ABlk.row.injEq, AVal.pure]
      obtain ⟨q1, q2⟩ := setP_sound hgp hs1 (v' := .lst rows) fun x hx => by
        simp only [R] at hx ⊢
        rcases hx with ⟨hn, rfl⟩ | ⟨k, cap, e', sz2, hk, rfl, hsh, hcs, hm, hmax⟩
        · simp_all
        · obtain ⟨k', c, e, r1, r2, r3, r4, r5, r6⟩ := hs.inv.row b ver _ _ h2 hk
          rw [hk] at r1; simp at r1; subst r1
          refine ⟨_, cap, rfl, by omega, .inr ⟨k, 0 * sz, sz, rfl, RR_of fun i r hr => ?_⟩⟩
          obtain ⟨t1, t2⟩ := RowsAt_get _ _ _ _ r3 hr
          grind [RC_of, CellsAt_get, R_mono, cell?_cells]
      exact ⟨_, q1, i2.trans q2⟩
    · cases h
  · cases h

/-- A pointer to a variable of our own, of pure cells, kept by its content. -/
def frpS (_H0 : List ABlk) (s : St) (p : Pl) (cs : List AVal) : Option St := match getP s p with
  | some (.ptr b ver 0 0) => match s.H[b]? with
    | some (.row ver' _ _) => match decide (ver' = ver) with
      | true => some (setP { s with H := s.H.set b .dead } (.cptr cs 0) p)
      | false => none
    | _ => none
  | _ => none

/-- What is to be known of the pointer. -/
def FrpOk (s : St) (p : Pl) (cs : List AVal) : Prop := ∃ b ver sz, getP s p = some (.ptr b ver 0 0) ∧ s.H[b]? = some (.row ver sz [cs]) ∧ AVal.pureL cs = true

theorem frpS_weak [Globs] {H0 : List ABlk} {s s' : St} {p : Pl} {cs : List AVal} (hok : FrpOk s p cs) (h : frpS H0 s p cs = some s') : Weak H0 s s' := by
  obtain ⟨b, ver, sz, h1, h2, h3⟩ := hok
  unfold frpS at h
  rw [h1] at h
  simp only at h
  split at h
  · rename_i ver' sz' rows' hb
    rw [h2] at hb
    simp only [Option.some.injEq, ABlk.row.injEq] at hb
    obtain ⟨rfl, rfl, rfl⟩ := hb
    split at h
    · simp only [Option.some.injEq] at h
      subst h
      intro g0 w0 g a w hi0 hl hs
      obtain ⟨i1, i2, i3⟩ := frz1 hi0 hs.inv hl h2
      have hs1 : Sim { rho := g.rho, st := fun k o => g.st k o ∨ ∃ z, g.rho b ver = some (k, z) } { s with H := s.H.set b .dead } a w := ⟨i1, RL_mono i3 _ _ hs.tmps, RD_mono i3 _ _ hs.defs⟩
      have key0 : ∀ (l : List AVal) (j : Nat) (y : AVal), AVal.pureL l = true → l[j]? = some y → y.pure = true := by
        intro l
        induction l with
        | nil => intro j y _ h; simp at h
        | cons c cs ih3 =>
          grind [AVal.pureL]
      have hgp : getP { s with H := s.H.set b .dead } p = some (.ptr b ver 0 0) := by
        cases p with
        | s d => exact h1
        | c d j =>
          simp only [getP] at h1 ⊢
          split at h1
          · grind [ABlk.row.injEq, AVal.pure]
          · cases h1
        | b b2 j =>
          grind [getP, ABlk.row.injEq, AVal.pure]
      obtain ⟨q1, q2⟩ := setP_sound hgp hs1 (v' := .cptr cs 0) fun x hx => by
        simp only [R] at hx ⊢
        obtain ⟨k, sz2, hk, rfl⟩ := hx
        obtain ⟨k', c, e, r1, r2, r3, r4, r5, r6⟩ := hs.inv.row b ver _ _ h2 hk
        rw [hk] at r1; simp at r1; obtain ⟨rfl, rfl⟩ := r1
        refine ⟨k, 0, by simp, h3, RC_of fun j a hj => ?_⟩
        obtain ⟨t1, t2⟩ := RowsAt_get [cs] 0 0 cs r3 rfl
        obtain ⟨y, y1, y2, y3⟩ := CellsAt_get _ _ j a t2 hj
        exact ⟨.inr ⟨_, hk⟩, y, by rw [cell?_cells r2]; simpa using y1, y2, R_mono i3 _ _ y3⟩
      exact ⟨_, q1, i2.trans q2⟩
    · cases h
  · cases h
end Go.AM
