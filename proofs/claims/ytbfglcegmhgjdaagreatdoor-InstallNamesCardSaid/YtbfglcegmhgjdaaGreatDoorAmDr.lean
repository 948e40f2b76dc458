/- Package-level variables: from what a row lists to what the abstract machine reads. No program. -/
import Derived.Test.YtbfglcegmhgjdaaGreatDoorAmZ
import Derived.LaidLaws
namespace Go.AM

def litVal : Lit → Option Value
  | .bool b => some (.bool b)
  | .int k n => some (.int k n)
  | .string l => some (.string ⟨l.toArray⟩)
  | _ => none

mutual
/-- The cells of a datum that is plain. -/
def flatD {H : Type} : DataW H → Option (List Value)
  | .lit l => (litVal l).map fun v => [v]
  | .agg ds => flatDs ds
  | _ => none
def flatDs {H : Type} : List (DataW H) → Option (List Value)
  | [] => some []
  | d :: ds => match flatD d, flatDs ds with
    | some a, some b => some (a ++ b)
    | _, _ => none
end

section
variable {H : Type} {enc : TypeId × Value → H} {P : Program} {w : World} {base : Nat} {sp : Nat → Bool} {held : Bool}

theorem cellsOf_size {t n : Nat} (h : sizeT P t = some n) : P.cellsOf t = n := by
  unfold sizeT at h
  simp [Program.cellsOf, h]

theorem flat_rows {s : Nat} {cs : List Value} {F : List Value → Option (DataW H × List MemPlace)} (hF : ∀ c x v, F c = some x → flatD x.1 = some v → c = v) : ∀ (xs : List (DataW H × List MemPlace)) (off : Nat) (vs : List Value),
    (∀ i, i < xs.length → F ((cs.drop (off + i * s)).take s) = xs[i]?) → flatDs (xs.map (·.1)) = some vs → (cs.drop off).take (xs.length * s) = vs
  | [], off, vs, _, h => by simp [flatDs] at h; simp [h]
  | x :: xs, off, vs, hx, h => by
    simp only [List.map_cons, flatDs] at h
    split at h
    · rename_i a b ha hb
      simp only [Option.some.injEq] at h
      subst h
      have h0 := hx 0 (by simp)
      simp only [Nat.zero_mul, Nat.add_zero, List.getElem?_cons_zero] at h0
      have e0 := hF _ _ _ h0 ha
      have e1 := flat_rows hF xs (off + s) b (fun i hi => by
        have := hx (i + 1) (by simpa using hi)
        rw [List.getElem?_cons_succ] at this
        rw [← this, Nat.add_mul, Nat.one_mul]
        congr 3; omega) hb
      rw [List.length_cons, Nat.add_mul, Nat.one_mul, Nat.add_comm, List.take_add, e0, List.drop_drop, e1]
    · cases h

theorem flat_fields {K : TypeId → Option (List Kd)} {cs : List Value} {F : TypeId → List Value → Option (DataW H × List MemPlace)} (hF : ∀ t ks c x v, K t = some ks → F t c = some x → flatD x.1 = some v → c = v) :
    ∀ (fl : List Field) (off : Nat) (ks : List Kd) (xs : List (DataW H × List MemPlace)) (vs : List Value), kindsOf.kindsFields P K fl off = some ks → xs.length = fl.length →
      (∀ (i : Nat) (f : Field), fl[i]? = some f → F f.type ((cs.drop f.offset).take (P.cellsOf f.type)) = xs[i]?) → flatDs (xs.map (·.1)) = some vs → (cs.drop off).take ks.length = vs
  | [], off, ks, xs, vs, hk, hl, _, h => by
    grind [kindsOf.kindsFields, flatDs]
  | f :: fl, off, ks, [], vs, _, hl, _, _ => by simp at hl
  | f :: fl, off, ks, x :: xs, vs, hk, hl, hx, h => by
    simp only [kindsOf.kindsFields] at hk
    split at hk
    · rename_i hc
      split at hk
      · rename_i k1 hk1
        split at hk
        · rename_i hsz
          obtain ⟨k2, hk2, rfl⟩ := Option.map_eq_some_iff.1 hk
          simp only [beq_iff_eq] at hsz
          simp only [List.map_cons, flatDs] at h
          split at h
          · rename_i a b ha hb
            simp only [Option.some.injEq] at h
            subst h
            have h0 := hx 0 f (by simp)
            simp only [List.getElem?_cons_zero] at h0
            have e0 := hF _ _ _ _ _ hk1 h0 ha
            rw [hc.2, cellsOf_size hsz] at e0
            have e1 := flat_fields hF fl (off + k1.length) k2 xs b hk2 (by simpa using hl) (fun i f' hf => by
              have := hx (i + 1) f' (by simpa using hf)
              simpa using this) hb
            rw [List.length_append, List.take_add, e0, List.drop_drop, e1]
          · cases h
        · cases hk
      · cases hk
    · cases hk

theorem flat_trod : ∀ (d t : Nat) (ks : List Kd) (fuel : Nat) (cs : List Value) (x : DataW H × List MemPlace) (vs : List Value), kindsOf P d t = some ks → DataW.trod enc P w base sp held fuel t cs = some x → flatD x.1 = some vs → cs = vs
  | 0, _, _, _, _, _, _, hk, _, _ => by simp [kindsOf] at hk
  | d + 1, t, ks, fuel, cs, x, vs, hk, h, hv => by
    have ih := flat_trod d
    simp only [kindsOf] at hk
    split at hk
    · rename_i hu
      have : ∃ b, cs = [.bool b] ∧ x = (.lit (.bool b), []) := by
        cases fuel with
        | zero => simp [DataW.trod] at h
        | succ n =>
          unfold DataW.trod at h
          grind
      grind [flatD, litVal]
    · rename_i k hu
      obtain ⟨n, rfl, rfl, _⟩ := DataW.trod_int hu h
      simpa [flatD, litVal] using hv
    · rename_i hu
      obtain ⟨s, rfl, rfl, _⟩ := DataW.trod_string hu h
      simpa [flatD, litVal] using hv
    · rename_i fs hu
      split at hk
      · cases hk
      · split at hk
        · rename_i ks' hks
          split at hk
          · rename_i hsz
            simp only [Option.some.injEq] at hk
            subst hk
            simp only [beq_iff_eq] at hsz
            obtain ⟨xs, n, rfl, rfl, hl, hxl, hget⟩ := DataW.trod_struct hu h
            simp only [flatD] at hv
            have := flat_fields (P := P) (cs := cs) (K := kindsOf P d) (F := fun t c => DataW.trod enc P w base sp held n t c) (fun t ks c x v hk hf hv => ih t ks n c x v hk hf hv) fs.toList 0 ks' xs vs hks (by simpa using hxl) (fun i f hf => hget i f (by simpa using hf)) hv
            grind [cellsOf_size]
          · cases hk
        · cases hk
    · rename_i n e hu
      split at hk
      · rename_i ks' hks
        split at hk
        · rename_i hsz
          simp only [Bool.and_eq_true, beq_iff_eq] at hsz
          obtain ⟨xs, m, rfl, rfl, hl, hxl, hget⟩ := DataW.trod_array hu h
          simp only [flatD] at hv
          rw [cellsOf_size hsz.1] at hget
          have := flat_rows (s := ks'.length) (cs := cs) (F := fun c => DataW.trod enc P w base sp held m e c) (fun c x v hf hv => ih e ks' m c x v hks hf hv) xs 0 vs (fun i hi => by
            grind) hv
          grind [cellsOf_size]
        · cases hk
      · cases hk
    · cases hk

/-- A variable at the head of a row's list, of a plain type: its cells. -/
theorem laid_cells {name : String} {d : DataW Unit} {rest : List (String × DataW Unit)} {g t : Nat} {ks : List Kd} {vs : List Value} (hg : P.globalNamed name = some g) (hty : (P.globals[g]?).map (·.type) = some t) (hk : kindsOf P 9 t = some ks) (hv : flatD d = some vs)
    (h : laidMet P ((name, d) :: rest) w) : w.var? P name = some vs.toArray := by
  obtain ⟨ps, ⟨g', t', cs, fuel, p, q, hg', ht', hvar, hd, _, _⟩, _⟩ := h
  obtain rfl := Option.some.inj (hg.symm.trans hg')
  obtain rfl := Option.some.inj (hty.symm.trans ht')
  have := flat_trod _ _ _ _ _ _ _ hk hd hv
  rw [hvar, ← this]

/-- One variable is known: the abstract machine may read it. -/
theorem globs_one [gl : Globs] {name : String} {g : Nat} {vs : List Value} (hg : P.globalNamed name = some g) (hvar : w.var? P name = some vs.toArray) (h1 : vs.all (·.oneCell') = true) (hgl : ∀ i cs, gl.default.cells i = some cs → i = g ∧ cs = vs.map .sc) : GlobsOk (Gh.bare w) w := by
  intro i cs hi
  obtain ⟨rfl, rfl⟩ := hgl i cs hi
  refine ⟨?_, RC_of fun j x hx => ?_⟩
  · exact pureL_mem.2 fun x hx => by
      obtain ⟨v, _, rfl⟩ := List.mem_map.1 hx
      rfl
  · rw [List.getElem?_map] at hx
    obtain ⟨v, hv, rfl⟩ := Option.map_eq_some_iff.1 hx
    have hc := World.var?_cell hg hvar j
    rw [List.getElem?_toArray, hv] at hc
    have hlt : i < w.heap.size := by
      apply Decidable.byContradiction; intro hn
      simp [World.cell?, Array.getElem?_eq_none (Nat.le_of_not_lt hn)] at hc
    rw [Nat.zero_add]
    exact ⟨hlt, v, hc, List.all_eq_true.1 h1 v (List.mem_of_getElem? hv), by simp [R]⟩
end
end Go.AM
