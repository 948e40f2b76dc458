/- Loops over maps, told by typed data: the entries, the step, the entry that has come. No program. -/
import Derived.Test.YtpgpmlaafigpaaaGreatDoorAmGd
import Derived.Test.YtpgpmlaafigpaaaGreatDoorAmGr
namespace Go.AM

/-- Behind a step: nothing was left, or an entry has come. -/
def pk {P : Program} [Globs] {ρ : Type} (a : G P ρ) (f : Nat → G P ρ) : Option Nat → G P ρ
  | none => a
  | some i => f i

section
variable {K V : Type}

theorem encM_born (ek : K → AVal) (ev : V → AVal) : ∀ (m : List (K × V)) (b i : Nat) p, (encM ek ev b m)[i]? = some p → p.2.2 = b + i
  | [], _, _, _, h => by simp [encM] at h
  | (k, v) :: m, b, 0, p, h => by simp [encM] at h; subst h; rfl
  | (k, v) :: m, b, i + 1, p, h => by
    simp only [encM, List.getElem?_cons_succ] at h
    have := encM_born ek ev m (b + 1) i p h
    omega

/-- A map of typed data that is gone through. -/
def pkM (b mb : Nat) (m : List (K × V)) (ek : K → AVal) (ev : V → AVal) : PK :=
  ⟨b, mb, m.length, encM ek ev 0 m, encM_length ek ev m 0, fun i p h => by have := encM_born ek ev m 0 i p h; omega⟩

theorem encM_find (ek : K → AVal) (ev : V → AVal) : ∀ (m : List (K × V)) (b i : Nat) (x : K × V), m[i]? = some x → (encM ek ev b m).find? (fun p => p.2.2 == b + i) = some (ek x.1, ev x.2, b + i)
  | [], _, _, _, h => by simp at h
  | (k, v) :: m, b, 0, x, h => by simp at h; subst h; simp [encM]
  | (k, v) :: m, b, i + 1, x, h => by
    simp only [List.getElem?_cons_succ] at h
    have := encM_find ek ev m (b + 1) i x h
    simp only [encM, List.find?_cons]
    have hne : (b == b + (i + 1)) = false := by simp
    rw [hne, show b + (i + 1) = b + 1 + i by omega]
    exact this

/-- The entry that the iterator is at. -/
def entO (m : List (K × V)) (ek : K → AVal) (ev : V → AVal) (b mb : Nat) (seen : List Nat) (i : Nat) : OpT (K × V) where
  run := m[i]?
  eff x := { val := .tup [ek x.1, ev x.2] }
  ids := [b, mb]
  chk _ _ _ _ op rho H := match op with
    | .entry x => rho x = .ptr b 0 0 0 ∧ H[b]? = some (.iter (.mp mb) m.length (seen ++ [i]) m.length) ∧ H[mb]? = some (.map m.length (encM ek ev 0 m))
    | _ => False
  claim := AVal.ptr b 0 0 0 = AVal.ptr b 0 0 0 ∧ some (ABlk.iter (.mp mb) m.length (seen ++ [i]) m.length) = some (ABlk.iter (.mp mb) m.length (seen ++ [i]) m.length) ∧ some (ABlk.map m.length (encM ek ev 0 m)) = some (ABlk.map m.length (encM ek ev 0 m))
  holds := ⟨rfl, rfl, rfl⟩
  sound gl P cfg nid op rho H h x hx := by
    cases op <;> try exact h.elim
    obtain ⟨h1, h2, h3⟩ := h
    have hf := encM_find ek ev m 0 i x hx
    rw [Nat.zero_add] at hf
    have he : entryIn (seen ++ [i]) (encM ek ev 0 m) = some (.tup [ek x.1, ev x.2]) := by simp [entryIn, hf]
    simp [opPre, allocs, opA, entryA, h1, h2, h3, mapOf, Rd.bind, Rd.run, Rd.reads, he, yields]

/-- How many entries a map of our own has. -/
def mlenO (m : List (K × V)) (ek : K → AVal) (ev : V → AVal) (b : Nat) : OpT Unit where
  run := some ()
  eff _ := { val := .sc (.int .i64 (m.length : Int)) }
  ids := [b]
  chk _ P _ _ op rho H := match op with
    | .call { callee := .builtin .len, args, argTypes } => match argTypes[0]?, args[0]? with
      | some T, some x => (match P.underlying T with | some (.map _ _) => true | _ => false) = true ∧ rho x = .mp b ∧ H[b]? = some (.map m.length (encM ek ev 0 m))
      | _, _ => False
    | _ => False
  claim := (@Eq Bool true true) ∧ AVal.mp b = AVal.mp b ∧ some (ABlk.map m.length (encM ek ev 0 m)) = some (ABlk.map m.length (encM ek ev 0 m))
  holds := ⟨rfl, rfl, rfl⟩
  sound gl P cfg nid op rho H h x hx := by
    cases op <;> try exact h.elim
    rename_i c
    obtain ⟨ce, args, ats⟩ := c
    cases ce with
    | builtin bb =>
      cases bb
      case len =>
        simp only at h
        split at h
        · rename_i T x' e1 e2
          obtain ⟨h1, h2, h3⟩ := h
          split at h1
          · rename_i q1 q2 hu
            simp [opPre, allocs, opA, e1, e2, hu, h2, mapOf, Rd.bind, Rd.run, Rd.reads, h3, encM_length]
          · cases h1
        · exact h.elim
      all_goals exact h.elim
    | _ => exact h.elim
end

section
variable {K V : Type}
set_option linter.unusedSimpArgs false
/-- What a map of our own holds at a key that it has. -/
def mgetS (m : List (K × V)) (k : K) (ek : K → AVal) (ev : V → AVal) (eq : K → K → Bool) (z : AVal) (ks : List Kd) (ag ok : Bool) (b : Nat) : OpT V where
  run := (findM eq k m 0).map (·.2)
  eff v := { val := match ok with
    | true => .tup [ev v, .sc (.bool true)]
    | false => ev v }
  ids := [b]
  chk gl P cfg nid op rho H := match op with
    | .lookup T x i ok' => ok' = ok ∧ rho x = .mp b ∧ rho i = ek k ∧ H[b]? = some (.map m.length (encM ek ev 0 m)) ∧ mapTy P T = some (some ks, ag, some z) ∧ (∀ k, isAggA (ek k) = ag) ∧ ∀ k k', eqCells ks (ek k).cells (ek k').cells = some (eq k k')
    | _ => False
  claim := ok = ok ∧ AVal.mp b = AVal.mp b ∧ ek k = ek k ∧ some (ABlk.map m.length (encM ek ev 0 m)) = some (ABlk.map m.length (encM ek ev 0 m)) ∧ some (some ks, ag, some z) = some (some ks, ag, some z) ∧ (∀ _ : K, ag = ag) ∧ ∀ k k', some (eq k k') = some (eq k k')
  holds := ⟨rfl, rfl, rfl, rfl, rfl, fun _ => rfl, fun _ _ => rfl⟩
  sound gl P cfg nid op rho H h x hx := by
    cases op <;> try exact h.elim
    rename_i T a i ok'
    obtain ⟨rfl, h1, h2, h3, h4, h5, h6⟩ := h
    unfold mapTy at h4
    split at h4
    · rename_i TK TE hu
      simp only [Option.some.injEq, Prod.mk.injEq] at h4
      obtain ⟨t1, t2, t3⟩ := h4
      have hk : keyKinds P TK (ek k) = some ks := by simp [keyKinds, t1, h5, t2]
      have hf := findA_encM (ev := ev) (eq := eq) h5 h6 k m 0 0
      simp only [opPre, allocs, opA, lookupA, hu, h2, hk, h1, mapOf, Rd.bind, Rd.run, Rd.reads, h3, h6, t2, hf, t3, if_false, Bool.false_eq_true]
      cases hfm : findM eq k m 0 with
      | none => rw [hfm] at hx; cases hx
      | some q =>
        rw [hfm] at hx
        simp only [Option.map_some, Option.some.injEq] at hx
        subst hx
        cases ok' <;> simp [Rd.bind, Rd.run, Rd.reads]
    · cases h4

/-- What comes of a map of our own at a key that it does not have. -/
def mgetN (m : List (K × V)) (k : K) (ek : K → AVal) (ev : V → AVal) (eq : K → K → Bool) (z : AVal) (ks : List Kd) (ag ok : Bool) (b : Nat) : OpT Unit where
  run := if (findM eq k m 0).isSome then none else some ()
  eff _ := { val := match ok with
    | true => .tup [z, .sc (.bool false)]
    | false => z }
  ids := [b]
  chk gl P cfg nid op rho H := match op with
    | .lookup T x i ok' => ok' = ok ∧ rho x = .mp b ∧ rho i = ek k ∧ H[b]? = some (.map m.length (encM ek ev 0 m)) ∧ mapTy P T = some (some ks, ag, some z) ∧ (∀ k, isAggA (ek k) = ag) ∧ ∀ k k', eqCells ks (ek k).cells (ek k').cells = some (eq k k')
    | _ => False
  claim := ok = ok ∧ AVal.mp b = AVal.mp b ∧ ek k = ek k ∧ some (ABlk.map m.length (encM ek ev 0 m)) = some (ABlk.map m.length (encM ek ev 0 m)) ∧ some (some ks, ag, some z) = some (some ks, ag, some z) ∧ (∀ _ : K, ag = ag) ∧ ∀ k k', some (eq k k') = some (eq k k')
  holds := ⟨rfl, rfl, rfl, rfl, rfl, fun _ => rfl, fun _ _ => rfl⟩
  sound gl P cfg nid op rho H h x hx := by
    cases op <;> try exact h.elim
    rename_i T a i ok'
    obtain ⟨rfl, h1, h2, h3, h4, h5, h6⟩ := h
    unfold mapTy at h4
    split at h4
    · rename_i TK TE hu
      simp only [Option.some.injEq, Prod.mk.injEq] at h4
      obtain ⟨t1, t2, t3⟩ := h4
      have hk : keyKinds P TK (ek k) = some ks := by simp [keyKinds, t1, h5, t2]
      have hf := findA_encM (ev := ev) (eq := eq) h5 h6 k m 0 0
      simp only [opPre, allocs, opA, lookupA, hu, h2, hk, h1, mapOf, Rd.bind, Rd.run, Rd.reads, h3, h6, t2, hf, t3, if_false, Bool.false_eq_true]
      cases hfm : findM eq k m 0 with
      | none => cases ok' <;> simp [Rd.bind, Rd.run, Rd.reads]
      | some q => rw [hfm] at hx; simp at hx
    · cases h4
end

/-- A byte of a string. -/
def sidxO (t : ByteArray) (i : Int) : OpT Int where
  run := if 0 ≤ i then (t[i.toNat]?).map fun b => (b.toNat : Int) else none
  eff x := { val := .sc (.int .u8 x) }
  ids := []
  chk _ P _ _ op rho _ := match op with
    | .index T a b => (match P.underlying T with | some .string => true | _ => false) = true ∧ rho a = .sc (.string t) ∧ intOf (rho b) = some i
    | _ => False
  claim := (@Eq Bool true true) ∧ AVal.sc (.string t) = AVal.sc (.string t) ∧ some i = some i
  holds := ⟨rfl, rfl, rfl⟩
  sound gl P cfg nid op rho H h x hx := by
    cases op <;> try exact h.elim
    rename_i T a b
    obtain ⟨h1, h2, h3⟩ := h
    split at h1
    · rename_i hu
      have hb : ∃ k, rho b = .sc (.int k i) := by
        unfold intOf at h3
        split at h3
        · rename_i k n hb
          simp only [Option.some.injEq] at h3
          subst h3
          exact ⟨k, hb⟩
        · cases h3
      obtain ⟨k, hb⟩ := hb
      split at hx
      · rename_i h0
        obtain ⟨q, hq, rfl⟩ := Option.map_eq_some_iff.1 hx
        simp [opPre, allocs, opA, h2, hb, indexA, hu, h0, hq, yields, Rd.bind, Rd.run, Rd.reads]
      · cases hx
    · cases h1

/-- A slice without elements and with room. -/
def mk0O (n by_ nid0 : Nat) (zs : List AVal) (c : Int) : OpT Unit where
  run := if 0 ≤ c ∧ roomy c.toNat by_ = true then some () else none
  eff _ := { val := .sl nid0 0 n 0 0, upd := [(nid0, .row 0 n [])] }
  ids := [nid0]
  chk gl P cfg nid op rho H := match op with
    | .makeSlice T a b => nid = nid0 ∧ H[nid]? = some .unborn ∧ intOf (rho a) = some 0 ∧ intOf (rho b) = some c ∧ elemInfo P T = some (n, by_, true) ∧ (match P.underlying T with | some (.slice e) => zeroCellsA P e | _ => none) = some zs ∧ Nat.beq zs.length n = true ∧ decide (0 < n) = true
    | _ => False
  claim := nid0 = nid0 ∧ some ABlk.unborn = some ABlk.unborn ∧ some (0 : Int) = some 0 ∧ some c = some c ∧ some (n, by_, true) = some (n, by_, true) ∧ some zs = some zs ∧ @Eq Bool true true ∧ @Eq Bool true true
  holds := by simp
  sound gl P cfg nid op rho H h x hx := by
    cases op <;> try exact h.elim
    rename_i T a b
    obtain ⟨rfl, hunb, h1, h2, h3, h4, h5, h6⟩ := h
    obtain ⟨k1, h1⟩ := intOf_some h1
    obtain ⟨k2, h2⟩ := intOf_some h2
    obtain ⟨e, i, e1, e2, e3, e4, e5⟩ := elemInfo_some h3
    rw [e1] at h4
    simp only at h4
    simp only [decide_eq_true_eq] at h6
    have h5 := Nat.eq_of_beq_eq_true h5
    split at hx
    · rename_i h0
      have hop : makeSliceA P nid T (rho a) (rho b) = some { val := .sl nid 0 i.size 0 0, upd := [(nid, .row 0 i.size [])] } := by
        rw [h1, h2]
        simp only [makeSliceA, e1, e2, h4]
        rw [if_pos ⟨Int.le_refl _, h0.1, by rw [e4]; exact h0.2, by rw [h5, e3], by omega⟩]
        rfl
      simp [opPre, allocs, opA, hop, optEff, Rd.bind, Rd.run, Rd.reads, hunb, e3]
    · cases hx

end Go.AM
