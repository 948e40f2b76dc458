/- Loops over maps, told by typed data: the entries, the step, the entry that has come. No program. -/
import Derived.Test.YtpgpmlaafigpaaaGreatDoorAmGd
import Derived.Test.YtpgpmlaafigpaaaGreatDoorAmGr
namespace Go.AM

/-- Behind a step: nothing was left, or an entry has come. -/
def pk {P : Program} [Globs] {ρ : Type} (a : G P ρ) (f : Nat → G P ρ) : Option Nat → G P ρ
  | none => a
  | some i => f i

section
variable {K V : Type}

theorem encM_born (ek : K → AVal) (ev : V → AVal) : ∀ (m : List (K × V)) (b i : Nat) p, (encM ek ev b m)[i]? = some p → p.2.2 = b + i
  | [], _, _, _, h => by simp [encM] at h
  | (k, v) :: m, b, 0, p, h => by simp [encM] at h; subst h; rfl
  | (k, v) :: m, b, i + 1, p, h => by
    simp only [encM, List.getElem?_cons_succ] at h
    have := encM_born ek ev m (b + 1) i p h
    omega

/-- A map of typed data that is gone through. -/
def pkM (b mb : Nat) (m : List (K × V)) (ek : K → AVal) (ev : V → AVal) : PK :=
  ⟨b, mb, m.length, encM ek ev 0 m, encM_length ek ev m 0, fun i p h => by have := encM_born ek ev m 0 i p h; omega⟩

theorem encM_find (ek : K → AVal) (ev : V → AVal) : ∀ (m : List (K × V)) (b i : Nat) (x : K × V), m[i]? = some x → (encM ek ev b m).find? (fun p => p.2.2 == b + i) = some (ek x.1, ev x.2, b + i)
  | [], _, _, _, h => by simp at h
  | (k, v) :: m, b, 0, x, h => by simp at h; subst h; simp [encM]
  | (k, v) :: m, b, i + 1, x, h => by
    simp only [List.getElem?_cons_succ] at h
    have := encM_find ek ev m (b + 1) i x h
    simp only [encM, List.find?_cons]
    have hne : (b == b + (i + 1)) = false := by simp
    rw [hne, show b + (i + 1) = b + 1 + i by omega]
    exact this

/-- The entry that the iterator is at. -/
def entO (m : List (K × V)) (ek : K → AVal) (ev : V → AVal) (b mb : Nat) (seen : List Nat) (i : Nat) : OpT (K × V) where
  run := m[i]?
  eff x := { val := .tup [ek x.1, ev x.2] }
  ids := [b, mb]
  chk _ _ _ _ op rho H := match op with
    | .entry x => rho x = .ptr b 0 0 0 ∧ H[b]? = some (.iter (.mp mb) m.length (seen ++ [i]) m.length) ∧ H[mb]? = some (.map m.length (encM ek ev 0 m))
    | _ => False
  claim := AVal.ptr b 0 0 0 = AVal.ptr b 0 0 0 ∧ some (ABlk.iter (.mp mb) m.length (seen ++ [i]) m.length) = some (ABlk.iter (.mp mb) m.length (seen ++ [i]) m.length) ∧ some (ABlk.map m.length (encM ek ev 0 m)) = some (ABlk.map m.length (encM ek ev 0 m))
  holds := ⟨rfl, rfl, rfl⟩
  sound gl P cfg nid op rho H h x hx := by
    cases op <;> try exact h.elim
    obtain ⟨h1, h2, h3⟩ := h
    have hf := encM_find ek ev m 0 i x hx
    rw [Nat.zero_add] at hf
    have he : entryIn (seen ++ [i]) (encM ek ev 0 m) = some (.tup [ek x.1, ev x.2]) := by simp [entryIn, hf]
    simp [opPre, allocs, opA, entryA, h1, h2, h3, mapOf, Rd.bind, Rd.run, Rd.reads, he, yields]

end

section
variable {K V : Type}
set_option linter.unusedSimpArgs false
end

/-- A byte of a string. -/
def sidxO (t : ByteArray) (i : Int) : OpT Int where
  run := if 0 ≤ i then (t[i.toNat]?).map fun b => (b.toNat : Int) else none
  eff x := { val := .sc (.int .u8 x) }
  ids := []
  chk _ P _ _ op rho _ := match op with
    | .index T a b => (match P.underlying T with | some .string => true | _ => false) = true ∧ rho a = .sc (.string t) ∧ intOf (rho b) = some i
    | _ => False
  claim := (@Eq Bool true true) ∧ AVal.sc (.string t) = AVal.sc (.string t) ∧ some i = some i
  holds := ⟨rfl, rfl, rfl⟩
  sound gl P cfg nid op rho H h x hx := by
    cases op <;> try exact h.elim
    rename_i T a b
    obtain ⟨h1, h2, h3⟩ := h
    split at h1
    · rename_i hu
      have hb : ∃ k, rho b = .sc (.int k i) := by
        unfold intOf at h3
        split at h3
        · rename_i k n hb
          simp only [Option.some.injEq] at h3
          subst h3
          exact ⟨k, hb⟩
        · cases h3
      obtain ⟨k, hb⟩ := hb
      split at hx
      · rename_i h0
        obtain ⟨q, hq, rfl⟩ := Option.map_eq_some_iff.1 hx
        simp [opPre, allocs, opA, h2, hb, indexA, hu, h0, hq, yields, Rd.bind, Rd.run, Rd.reads]
      · cases hx
    · cases h1

end Go.AM
