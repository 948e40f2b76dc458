/- Slicing, building, making, appending, copying: as the abstract machine does. No program. -/
import Derived.Test.YtbfglcegmhgjdaaGreatDoorAmF
namespace Go.AM

section
set_option linter.unusedSectionVars false
variable [Globs] {P : Program} {a : Act} {o : Oper} {g : Gh} {H : List ABlk} {w : World} {rho : Operand → AVal}

theorem RR_drop {k sz : Nat} : ∀ {rows : List (List AVal)} {off : Nat} (l : Nat), RR g w rows k off sz → RR g w (rows.drop l) k (off + l * sz) sz
  | [], _, _, _ => by simp [RR]
  | r :: rs, off, 0, h => by simpa using h
  | r :: rs, off, l + 1, h => by
    simp only [RR] at h
    have := RR_drop l h.2
    grind

theorem RR_take {k sz : Nat} : ∀ {rows : List (List AVal)} {off : Nat} (l : Nat), RR g w rows k off sz → RR g w (rows.take l) k off sz
  | [], _, _, _ => by simp [RR]
  | r :: rs, off, 0, h => by simp [RR]
  | r :: rs, off, l + 1, h => by
    simp only [RR] at h
    simp only [List.take_succ_cons, RR]
    exact ⟨h.1, RR_take l h.2⟩

theorem RR_size {k sz : Nat} : ∀ {rows : List (List AVal)} {off i : Nat} {r : List AVal}, RR g w rows k off sz → rows[i]? = some r → r.length = sz := fun h hr => (RR_get h hr).1

/-- The operands of a bound. -/
theorem run_bounds {isS : Bool} {len cap h l : Nat} {lo hi : Option AVal} {vlo vhi : Option Value} (hlo : match lo, vlo with | none, none => True | some p, some q => R g w p q | _, _ => False)
    (hhi : match hi, vhi with | none, none => True | some p, some q => R g w p q | _, _ => False) (hcap : len ≤ cap) (h1 : boundA len len hi = some h) (h2 : boundA 0 h lo = some l) :
    (Instr.sliceBounds isS len cap vlo vhi none).run P w = .ok (l, h, cap) w ∧ l ≤ h ∧ h ≤ len := by
  have hb : ∀ {d m n : Nat} {x : Option AVal}, boundA d m x = some n → (x = none ∧ n = d) ∨ (∃ k i, x = some (.sc (.int k i)) ∧ 0 ≤ i ∧ i ≤ m ∧ n = i.toNat) := by
    intro d m n x h
    unfold boundA at h
    split at h
    · simp at h; exact .inl ⟨rfl, h.symm⟩
    · grind
    · cases h
  unfold Instr.sliceBounds
  rcases hb h1 with ⟨rfl, rfl⟩ | ⟨k1, i1, rfl, p1, p2, rfl⟩ <;> rcases hb h2 with ⟨rfl, rfl⟩ | ⟨k2, i2, rfl, p3, p4, rfl⟩ <;> cases vlo <;> cases vhi <;> simp only at hlo hhi
  · simp
  · have := R_sc hlo; subst this
    refine ⟨?_, by omega, by omega⟩
    simp [Instr.sliceBound, asIntOf, p3, p4]
  · have := R_sc hhi; subst this
    refine ⟨?_, by omega, by omega⟩
    have : i1 ≤ (cap : Int) := by omega
    simp [Instr.sliceBound, asIntOf, p1, this]
  · have := R_sc hlo; subst this
    have := R_sc hhi; subst this
    refine ⟨?_, by omega, by omega⟩
    have h3 : i1 ≤ (cap : Int) := by omega
    have h4 : i2 ≤ max i1 0 := by omega
    simp [Instr.sliceBound, asIntOf, p1, h3, p3, h4]

theorem ran_slice {T : Nat} {x : Operand} {lo hi : Option Operand} {y : AVal} (hI : Inv g H w) (hρ : ∀ x, R g w (rho x) (a.eval x)) (ho : o.op = .slice T x lo hi none) (h : sliceA P T (rho x) (lo.map rho) (hi.map rho) = some y) : Ran P a o g H w { val := y } := by
  have hx := hρ x
  have hlo : match lo.map rho, lo.map a.eval with | none, none => True | some p, some q => R g w p q | _, _ => False := by cases lo <;> simp [hρ]
  have hhi : match hi.map rho, hi.map a.eval with | none, none => True | some p, some q => R g w p q | _, _ => False := by cases hi <;> simp [hρ]
  unfold sliceA at h
  split at h
  · rename_i n e hu
    obtain ⟨hh, h1, h'⟩ := Option.bind_eq_some_iff.1 h
    obtain ⟨l, h2, h''⟩ := Option.bind_eq_some_iff.1 h'
    obtain ⟨s, hs, h'''⟩ := Option.bind_eq_some_iff.1 h''
    clear h h' h''
    have h := h'''
    clear h'''
    have hs2 := sizeT_some (w := w) hs
    obtain ⟨hb, hb1, hb2⟩ := run_bounds (P := P) (isS := false) (cap := n) hlo hhi (Nat.le_refl n) h1 h2
    have hexec : ∀ (k p : Nat), a.eval x = .pointer (some ⟨k, p, none⟩) → (execOp a.eval o).run P w = .ok (.value (.slice (some (if n = l then ⟨k, p, none⟩ else ⟨k, p + l * s, none⟩)) (hh - l) (n - l))) w := by
      intro k p ex
      simp only [execOp, ho]
      simp [Instr.sliceAt, run_underlying hu, ex, Instr.sureAddr, hb, hs2, add_addr]
    have hlst : ∀ (k p : Nat) (cs : List AVal) (off : Nat), a.eval x = .pointer (some ⟨k, off + p, none⟩) → AVal.pureL cs = true → RC g w cs k off → p + n * s ≤ cs.length →
        Ran P a o g H w { val := .lst (if l < hh then chunks s (hh - l) ((cs.drop (p + l * s)).take ((hh - l) * s)) else []) } := by
      intro k p cs off ex hp hc hle
      refine Ran.pure hI (hexec k _ ex) ?_
      simp only [R]
      by_cases hll : l < hh
      · rw [if_pos hll, if_neg (show ¬ n = l by omega)]
        refine ⟨_, n - l, by rw [chunks_length], by rw [chunks_length]; omega, .inr ⟨k, off + (p + l * s), s, by simp [Nat.add_assoc], ?_⟩⟩
        have hms : (hh - l) * s + l * s ≤ n * s := by rw [← Nat.add_mul]; exact Nat.mul_le_mul_right s (by omega)
        exact RR_chunks _ (by simp; omega) (pureL_sub hp) (RC_sub hc)
      · rw [if_neg hll]
        simp_all
    unfold sliceArr at h
    split at h
    · rename_i b ver i ob e1
      rw [e1] at hx; simp only [R] at hx
      obtain ⟨k, sz, hk, ex⟩ := hx
      split at h <;> simp at h <;> subst h
      · grind [Ran.pure, R]
      · rename_i hll
        refine Ran.pure hI (hexec k _ ex) ?_
        have : hh - l = 0 := by omega
        grind [R]
    · grind [R]
    · rename_i i ob e1
      rw [e1] at hx; simp only [R] at hx
      obtain ⟨cs, hcs, h⟩ := Option.bind_eq_some_iff.1 h
      split at h
      · rename_i hle
        simp only [Option.some.injEq] at h
        subst h
        obtain ⟨hp, hc⟩ := hI.globs _ _ hcs
        grind
      · cases h
    · cases h
  rename_i hnarr
  split at h
  · cases h
  · rename_i n hn
    obtain ⟨hh, h1, h'⟩ := Option.bind_eq_some_iff.1 h
    clear h
    obtain ⟨l, h2, h⟩ := Option.bind_eq_some_iff.1 h'
    clear h'
    split at h
    · rename_i e hu e1
      split at h <;> simp at h
      rename_i hs
      obtain ⟨sz, hs⟩ := Option.isSome_iff_exists.1 hs
      have hs2 := sizeT_some (w := w) hs
      subst h
      rw [e1] at hx hn; have hx := R_sc hx
      simp [lenA] at hn; subst hn
      obtain ⟨hb, hb1, hb2⟩ := run_bounds (P := P) (isS := true) (cap := 0) hlo hhi (Nat.le_refl 0) h1 h2
      have hh0 : hh = 0 := by omega
      have hl0 : l = 0 := by omega
      subst hh0; subst hl0
      refine Ran.pure hI (v := .slice none 0 0) ?_ (by simp [R])
      simp [execOp, ho, Instr.sliceAt, Instr.slice, run_underlying hu, hx, hb, hs2]
    · rename_i e rows hu e1
      split at h <;> simp at h
      rename_i hs
      simp only [Bool.and_eq_true, List.all_eq_true, beq_iff_eq] at hs
      obtain ⟨hs1, hs⟩ := hs
      obtain ⟨sz, hs⟩ := Option.isSome_iff_exists.1 hs
      have hs2 := sizeT_some (w := w) hs
      subst h
      rw [e1] at hx hn
      simp only [R] at hx
      obtain ⟨ad, cap, ex, hcap, hc⟩ := hx
      simp [lenA] at hn; subst hn
      obtain ⟨hb, hb1, hb2⟩ := run_bounds (P := P) (isS := true) (cap := cap) hlo hhi hcap h1 h2
      have hlen : ((rows.take hh).drop l).length = hh - l := by simp; omega
      refine Ran.pure hI (v := .slice (if cap = l then ad else ad.map (·.add (l * sz))) (hh - l) (cap - l)) ?_ ?_
      · simp [execOp, ho, Instr.sliceAt, Instr.slice, run_underlying hu, ex, hb, hs2]
      · simp only [R]
        refine ⟨_, cap - l, by rw [hlen], by omega, ?_⟩
        rcases hc with h0 | ⟨k, off, sz', rfl, hrr⟩
        · left; omega
        · by_cases he : hh = l
          · left; omega
          · right
            have hne : cap ≠ l := by omega
            have hrow : ∃ r, rows[0]? = some r := ⟨rows[0]'(by omega), by simp⟩
            obtain ⟨r, hr⟩ := hrow
            have e2 := RR_size hrr hr
            have e3 := hs1 r (List.mem_of_getElem? hr)
            rw [hs] at e3; simp at e3
            have hszz : sz' = sz := by omega
            subst hszz
            refine ⟨k, off + l * sz', sz', by simp [hne, add_addr], ?_⟩
            exact RR_drop l (RR_take hh hrr)
    · rename_i e b ver sz ob m hu e1
      split at h
      · rename_i hs
        have hs2 := sizeT_some (w := w) hs
        rw [e1] at hx hn
        simp only [R] at hx
        simp [lenA] at hn; subst hn
        rcases hx with ⟨rfl, ex⟩ | ⟨k, cap, e', s, hk, ex, hsh, hcs, hm, hmax⟩
        · obtain ⟨hb, hb1, hb2⟩ := run_bounds (P := P) (isS := true) (cap := 0) hlo hhi (Nat.le_refl _) h1 h2
          have hl0 : l = 0 := by omega
          have hh0 : hh = 0 := by omega
          subst hl0; subst hh0
          simp at h; subst h
          refine Ran.pure hI (v := .slice none 0 0) ?_ (by simp [R])
          simp [execOp, ho, Instr.sliceAt, Instr.slice, run_underlying hu, ex, hb, hs2]
        obtain ⟨hb, hb1, hb2⟩ := run_bounds (P := P) (isS := true) (cap := cap) hlo hhi hm h1 h2
        have hrun : (execOp a.eval o).run P w = .ok (.value (.slice (some (if cap = l then ⟨k, ob * sz, none⟩ else ⟨k, ob * sz + l * sz, none⟩)) (hh - l) (cap - l))) w := by
          simp only [execOp, ho]
          simp [Instr.sliceAt, Instr.slice, run_underlying hu, ex, hb, hs2, add_addr]
          split <;> rfl
        split at h
        · rename_i hl0
          simp at h; subst h; subst hl0
          grind [Ran.pure, R]
        · split at h
          · rename_i hll
            simp at h; subst h
            refine Ran.pure hI hrun ?_
            simp only [R]
            refine .inr ⟨k, cap - l, e', s, hk, ?_, hsh, ?_, by omega, by omega⟩
            · rw [if_neg (by omega), Nat.add_mul]
            grind
          grind [Ran.pure, R]
      · cases h
    · rename_i e b ver i ob sz m hu e1
      split at h
      · rename_i hs
        have hs2 := sizeT_some (w := w) hs
        rw [e1] at hx hn
        simp only [R] at hx
        obtain ⟨k, szr, cap, hk, ex, hm⟩ := hx
        simp [lenA] at hn; subst hn
        obtain ⟨hb, hb1, hb2⟩ := run_bounds (P := P) (isS := true) (cap := cap) hlo hhi hm h1 h2
        have hrun : (execOp a.eval o).run P w = .ok (.value (.slice (some (if cap = l then ⟨k, i * szr + ob, none⟩ else ⟨k, i * szr + ob + l * sz, none⟩)) (hh - l) (cap - l))) w := by
          simp only [execOp, ho]
          simp [Instr.sliceAt, Instr.slice, run_underlying hu, ex, hb, hs2, add_addr]
          split <;> rfl
        split at h <;> simp at h <;> subst h
        · grind [Ran.pure, R]
        · rename_i hll
          refine Ran.pure hI hrun ?_
          simp only [R]
          simp_all
      · cases h
    · rename_i s hu e1
      simp at h; subst h
      rw [e1] at hx hn; have hx := R_sc hx
      simp [lenA] at hn; subst hn
      obtain ⟨hb, hb1, hb2⟩ := run_bounds (P := P) (isS := false) (cap := s.size) hlo hhi (Nat.le_refl _) h1 h2
      refine Ran.pure hI (v := .string (s.extract l hh)) ?_ (by simp [R])
      simp [execOp, ho, Instr.sliceAt, Instr.slice, run_underlying hu, hx, hb]
    · rename_i e rows hu e1
      split at h <;> simp at h
      rename_i hs
      simp only [Bool.and_eq_true, List.all_eq_true, beq_iff_eq] at hs
      obtain ⟨hs1, hs⟩ := hs
      obtain ⟨sz, hs⟩ := Option.isSome_iff_exists.1 hs
      have hs2 := sizeT_some (w := w) hs
      subst h
      rw [e1] at hx hn
      have hx := tls_lst hx
      simp only [R] at hx
      obtain ⟨ad, cap, ex, hcap, hc⟩ := hx
      simp [lenA] at hn; subst hn
      obtain ⟨hb, hb1, hb2⟩ := run_bounds (P := P) (isS := true) (cap := cap) hlo hhi hcap h1 h2
      have hlen : ((rows.take hh).drop l).length = hh - l := by simp; omega
      refine Ran.pure hI (v := .slice (if cap = l then ad else ad.map (·.add (l * sz))) (hh - l) (cap - l)) ?_ ?_
      · simp [execOp, ho, Instr.sliceAt, Instr.slice, run_underlying hu, ex, hb, hs2]
      · simp only [R]
        refine ⟨_, cap - l, by rw [hlen], by omega, ?_⟩
        rcases hc with h0 | ⟨k, off, sz', rfl, hrr⟩
        · left; omega
        · by_cases he : hh = l
          · left; omega
          · right
            have hne : cap ≠ l := by omega
            have hrow : ∃ r, rows[0]? = some r := ⟨rows[0]'(by omega), by simp⟩
            obtain ⟨r, hr⟩ := hrow
            have e2 := RR_size hrr hr
            have e3 := hs1 r (List.mem_of_getElem? hr)
            rw [hs] at e3; simp at e3
            have hszz : sz' = sz := by omega
            subst hszz
            refine ⟨k, off + l * sz', sz', by simp [hne, add_addr], ?_⟩
            exact RR_drop l (RR_take hh hrr)
    · cases h

/-- x[0:0:0]. -/
theorem ran_slice3 {T : Nat} {x mx : Operand} {lo hi : Option Operand} {y : AVal} (hI : Inv g H w) (hρ : ∀ x, R g w (rho x) (a.eval x)) (ho : o.op = .slice T x lo hi (some mx)) (h : slice3A P T (rho x) (lo.map rho) (hi.map rho) (some (rho mx)) = some y) : Ran P a o g H w { val := y } := by
  have hx := hρ x
  have hb : ∀ {z : Option AVal} {v : Option Value}, (match z, v with | none, none => True | some p, some q => R g w p q | _, _ => False) → boundA 1 0 z = some 0 → ∃ k, v = some (.int k 0) := by
    intro z v hz hb
    unfold boundA at hb
    split at hb
    · simp at hb
    · grind [R_sc]
    · cases hb
  have hlo : match lo.map rho, lo.map a.eval with | none, none => True | some p, some q => R g w p q | _, _ => False := by cases lo <;> simp [hρ]
  have hhi : match hi.map rho, hi.map a.eval with | none, none => True | some p, some q => R g w p q | _, _ => False := by cases hi <;> simp [hρ]
  have hmx : match some (rho mx), some (a.eval mx) with | none, none => True | some p, some q => R g w p q | _, _ => False := hρ mx
  unfold slice3A at h
  split at h
  · rename_i e hu
    split at h
    · rename_i n h1 h2 h3 h4
      split at h
      · simp at h
      rename_i hc2
      simp only [Bool.not_false, Bool.and_true, Option.ite_none_right_eq_some, Option.some.injEq] at h
      obtain ⟨hc1, rfl⟩ := h
      obtain ⟨sz, hs⟩ := Option.isSome_iff_exists.1 hc1
      have hs2 := sizeT_some (w := w) hs
      obtain ⟨k1, e1⟩ := hb (v := lo.map a.eval) hlo h2
      obtain ⟨k2, e2⟩ := hb (v := hi.map a.eval) hhi h3
      obtain ⟨k3, e3⟩ := hb (v := some (a.eval mx)) hmx h4
      simp only [Option.some.injEq] at e3
      have hsl : ∃ ad m cap, a.eval x = .slice ad m cap := by
        rcases lenA_some h1 hx with ⟨ad, cap, e, _⟩ | ⟨s, e, _⟩
        · exact ⟨ad, _, cap, e⟩
        · exact (hc2 _ e).elim
      obtain ⟨ad, m, cap, ex⟩ := hsl
      refine Ran.pure hI (v := .slice ad 0 0) ?_ (by simp only [R]; exact ⟨ad, rfl⟩)
      simp [execOp, ho, e1, e2, e3, Instr.sliceAt, Instr.slice, run_underlying hu, ex, Instr.sliceBounds, Instr.sliceBound, asIntOf, hs2]
    · cases h
  · cases h

/-! ### Building -/

theorem fold_size (off : Nat) : ∀ (l : List Value) (i : Nat) (cs : Array Value), ((l.zipIdx i).foldl (fun (cs : Array Value) (p : Value × Nat) => cs.setIfInBounds (off + p.2) p.1) cs).size = cs.size
  | [], _, _ => rfl
  | v :: l, i, cs => by simp [List.zipIdx_cons, fold_size off l]

theorem fold_get (off : Nat) : ∀ (l : List Value) (i : Nat) (cs : Array Value), off + i + l.length ≤ cs.size → ∀ j, ((l.zipIdx i).foldl (fun (cs : Array Value) (p : Value × Nat) => cs.setIfInBounds (off + p.2) p.1) cs)[j]? = if off + i ≤ j ∧ j < off + i + l.length then l[j - (off + i)]? else cs[j]?
  | [], _, _, _, j => by simp; omega
  | v :: l, i, cs, h, j => by
    simp only [List.length_cons] at h
    simp only [List.zipIdx_cons, List.foldl_cons]
    rw [fold_get off l (i + 1) _ (by simp; omega) j]
    grind

theorem RL_fold {cells cs : List AVal} {c : Array Value} {vs : List Value} {off : Nat} (h : RL g w cells c.toList) (h' : RL g w cs vs) (hl : off + cs.length ≤ cells.length) :
    RL g w (putAt cells off cs) ((vs.zipIdx 0).foldl (fun (c : Array Value) (p : Value × Nat) => c.setIfInBounds (off + p.2) p.1) c).toList := by
  obtain ⟨l1, g1⟩ := RL_get _ _ h
  obtain ⟨l2, g2⟩ := RL_get _ _ h'
  have hsz : c.size = cells.length := by simpa using l1
  refine RL_of _ _ (by simp [putAt_length, fold_size, hsz]) fun j x y hx hy => ?_
  rw [putAt_get _ _ _ hl] at hx
  rw [Array.getElem?_toList, fold_get off vs 0 c (by omega) j] at hy
  grind

theorem one_fold {c : Array Value} {vs : List Value} {off : Nat} (h : ∀ y ∈ c.toList, y.oneCell' = true) (h' : ∀ y ∈ vs, y.oneCell' = true) (hl : off + vs.length ≤ c.size) :
    ∀ y ∈ ((vs.zipIdx 0).foldl (fun (c : Array Value) (p : Value × Nat) => c.setIfInBounds (off + p.2) p.1) c).toList, y.oneCell' = true := by
  intro y hy
  obtain ⟨j, hj⟩ := List.getElem?_of_mem hy
  rw [Array.getElem?_toList, fold_get off vs 0 c (by omega) j] at hj
  grind

theorem run_fill {place : Nat → Option (Nat × Nat)} (hρ : ∀ x, R g w (rho x) (a.eval x)) : ∀ {parts : List (Nat × Operand)} {cells out : List AVal} {c : Array Value}, fillA place cells (parts.map fun p => (p.1, rho p.2)) = some out → RL g w cells c.toList → (∀ y ∈ c.toList, y.oneCell' = true) →
    ∃ c', Instr.fill place c (parts.map fun p => (p.1, a.eval p.2)) = some c' ∧ RL g w out c'.toList ∧ (∀ y ∈ c'.toList, y.oneCell' = true) ∧ c'.size = c.size ∧ out.length = cells.length
  | [], cells, out, c, h, hl, h1 => by
    simp [fillA] at h; subst h
    exact ⟨c, rfl, hl, h1, rfl, rfl⟩
  | (i, x) :: rest, cells, out, c, h, hl, h1 => by
    simp only [List.map_cons, fillA] at h
    simp only [List.map_cons, Instr.fill]
    split at h
    · cases h
    · rename_i off size hp
      split at h
      · rename_i cs hcs
        split at h
        · cases h
        · rename_i hb
          obtain ⟨y1, y2, y3⟩ := R_cellsOk (hρ x) hcs
          obtain ⟨l1, _⟩ := RL_get _ _ hl
          have hsz : c.size = cells.length := by simpa using l1
          simp only [Bool.or_eq_true, decide_eq_true_eq, ne_eq, not_or, Decidable.not_not, gt_iff_lt, Nat.not_lt] at hb
          obtain ⟨hb1, hb2⟩ := hb
          have e : (a.eval x).cells.zipIdx.foldl (fun cs (x : Value × Nat) => cs.setIfInBounds (off + x.2) x.1) c = ((a.eval x).cells.toList.zipIdx 0).foldl (fun (c : Array Value) (p : Value × Nat) => c.setIfInBounds (off + p.2) p.1) c := by
            rw [← Array.foldl_toList, Array.toList_zipIdx]
          have hlen2 : off + (a.eval x).cells.toList.length ≤ c.size := by simp [y1]; omega
          obtain ⟨c', f1, f2, f3, f4, f5⟩ := run_fill hρ (c := ((a.eval x).cells.toList.zipIdx 0).foldl (fun (c : Array Value) (p : Value × Nat) => c.setIfInBounds (off + p.2) p.1) c) h (RL_fold hl y3 (by omega)) (one_fold h1 y2 hlen2)
          refine ⟨c', ?_, f2, f3, by rw [f4, fold_size], by rw [f5, putAt_length]⟩
          grind
      · cases h

theorem map_parts {f : Operand → Value} (ps : Array (Nat × Operand)) : (ps.map fun (p : Nat × Operand) => (p.1, f p.2)).toList = ps.toList.map fun p => (p.1, f p.2) := by simp

theorem mapM_places (fs : Array Field) (h : ∀ f ∈ fs.toList, (sizeT P f.type).isSome) : (fs.mapM fun f => Prod.mk f.offset <$> sizeOf f.type).run P w = .ok (fs.map fun f => (f.offset, (sizeT P f.type).getD 0)) w := by
  rw [Array.mapM_eq_mapM_toList]
  have key : ∀ (l : List Field), (∀ f ∈ l, (sizeT P f.type).isSome) → (l.mapM fun f => Prod.mk f.offset <$> sizeOf f.type).run P w = .ok (l.map fun f => (f.offset, (sizeT P f.type).getD 0)) w := by
    intro l
    induction l with
    | nil => intro _; simp
    | cons f l ih =>
      intro h
      obtain ⟨s, hs⟩ := Option.isSome_iff_exists.1 (h f (by simp))
      have := ih (fun q hq => h q (by simp [hq]))
      simp [List.mapM_cons, sizeT_some hs, this, hs]
  have := key fs.toList h
  simp only [Sem.run_map, this, Result.andThen_ok]
  rw [← Array.toList_map, Array.toArray_toList]

theorem fillA_congr {p q : Nat → Option (Nat × Nat)} : ∀ {parts : List (Nat × AVal)} {cells : List AVal}, (∀ i v, (i, v) ∈ parts → p i = q i) → fillA p cells parts = fillA q cells parts
  | [], _, _ => rfl
  | (i, v) :: rest, cells, h => by
    simp only [fillA]
    rw [h i v (by simp)]
    split
    · rfl
    · split
      · split
        · rfl
        · exact fillA_congr fun j u hj => h j u (by simp [hj])
      · rfl

theorem ran_build {T : Nat} {parts : Array (Nat × Operand)} {v : AVal} (hi : Inv g H w) (hρ : ∀ x, R g w (rho x) (a.eval x)) (ho : o.op = .build T parts) (h : buildA P T (parts.toList.map fun p => (p.1, rho p.2)) = some v) : Ran P a o g H w { val := v } := by
  unfold buildA at h
  split at h
  · rename_i z fs hz hu
    split at h
    · rename_i hall
      obtain ⟨cs, hf, rfl⟩ := Option.map_eq_some_iff.1 h
      obtain ⟨i, zv, q1, q2, rfl, q4⟩ := zeroCellsA_some hz
      have hall' : ∀ f ∈ fs.toList, (sizeT P f.type).isSome := fun f hf => List.all_eq_true.1 hall f hf
      have hplaces := mapM_places (w := w) fs hall'
      obtain ⟨c', f1, f2, f3, _⟩ := run_fill (c := zv.cells) hρ hf (RL_sc _) q4
      refine Ran.pure hi (v := .agg c') ?_ (by grind [R])
      have e : (fun x : Nat => (fs.map fun f => (f.offset, (sizeT P f.type).getD 0))[x]?) = fun i => (fs[i]?).map fun f => (f.offset, (sizeT P f.type).getD 0) := by
        funext x; simp
      simp [execOp, ho, Instr.build, zeroValue, typeInfo, q1, q2, run_underlying hu, hplaces, f1]
    · cases h
  · rename_i z n e hz hu
    split at h
    · rename_i s hs
      obtain ⟨cs, hf, rfl⟩ := Option.map_eq_some_iff.1 h
      obtain ⟨i, zv, q1, q2, rfl, q4⟩ := zeroCellsA_some hz
      obtain ⟨c', f1, f2, f3, _⟩ := run_fill (c := zv.cells) hρ hf (RL_sc _) q4
      refine Ran.pure hi (v := .agg c') ?_ (by grind [R])
      simp [execOp, ho, Instr.build, zeroValue, typeInfo, q1, q2, run_underlying hu, sizeT_some hs, f1]
    · cases h
  · cases h

end
end Go.AM
