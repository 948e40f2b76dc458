/- '==' of plain structs and arrays, cell by cell. No program. -/
import Derived.Test.YtbfglcegmhgjdaaGreatDoorAmD
import Derived.Laws.StructEq
import Derived.ChangeKeysEq
namespace Go.AM

section
set_option linter.unusedSectionVars false
variable [Globs] {P : Program} {g : Gh}

theorem eqCells_len : ∀ {ks : List Kd} {xs ys : List AVal} {b : Bool}, eqCells ks xs ys = some b → xs.length = ks.length ∧ ys.length = ks.length
  | [], [], [], _, _ => by simp
  | [], [], _ :: _, _, h => by simp [eqCells] at h
  | [], _ :: _, _, _, h => by simp [eqCells] at h
  | _ :: _, [], _, _, h => by simp [eqCells] at h
  | _ :: _, _ :: _, [], _, h => by simp [eqCells] at h
  | q :: qs, a :: as, c :: cs, b, h => by
    simp only [eqCells] at h
    split at h
    · rename_i x y h1 h2
      have := eqCells_len h2
      simp; omega
    · cases h

theorem eqCells_append : ∀ {ks ls : List Kd} {xs ys : List AVal} {b : Bool}, eqCells (ks ++ ls) xs ys = some b →
    ∃ b1 b2, eqCells ks (xs.take ks.length) (ys.take ks.length) = some b1 ∧ eqCells ls (xs.drop ks.length) (ys.drop ks.length) = some b2 ∧ b = (b1 && b2)
  | [], ls, xs, ys, b, h => ⟨true, b, by simp [eqCells], by simpa using h, by simp⟩
  | q :: qs, ls, [], _, _, h => by simp [eqCells] at h
  | q :: qs, ls, _ :: _, [], _, h => by simp [eqCells] at h
  | q :: qs, ls, a :: as, c :: cs, b, h => by
    simp only [List.cons_append, eqCells] at h
    split at h
    · rename_i x y h1 h2
      simp at h; subst h
      obtain ⟨b1, b2, e1, e2, e3⟩ := eqCells_append h2
      grind [eqCells]
    · cases h

/-- The variable of type t that lies in these cells. -/
def AsVar (P : Program) (t : TypeId) (vs : List Value) (x : Value) : Prop := if aggT P t = true then x = .agg vs.toArray else vs = [x]

theorem part_asVar {t n off : Nat} {vs : List Value} {w : World} (hs : sizeT P t = some n) (hu : (P.underlying t).isSome) (h1 : aggT P t = false → n = 1 ∧ off < vs.length) :
    ∃ x, (part t vs.toArray off).run P w = .ok x w ∧ AsVar P t ((vs.drop off).take n) x := by
  unfold part AsVar
  simp only [Sem.run_bind, aggT_run hu, Result.andThen_ok]
  by_cases ha : aggT P t = true
  · simp only [ha, if_true]
    exact ⟨_, by simp only [Sem.run_bind, sizeT_some hs, Result.andThen_ok, Sem.run_pure]; rfl, by simp [List.take_drop]⟩
  · obtain ⟨h2, hlt⟩ := h1 (by simpa using ha)
    subst h2
    have hd : (vs.drop off).take 1 = [vs[off]] := by
      rw [List.drop_eq_getElem_cons hlt]; simp only [List.take_succ_cons, List.take_zero]
    simp_all

theorem kindsOf_size : ∀ {d t : Nat} {ks : List Kd}, kindsOf P d t = some ks → sizeT P t = some ks.length ∧ (P.underlying t).isSome = true ∧ (aggT P t = false → ks.length = 1)
  | 0, _, _, h => by simp [kindsOf] at h
  | d + 1, t, ks, h => by
    unfold kindsOf at h
    unfold aggT
    split at h
    · grind
    · grind
    · grind
    · grind
    · rename_i n e hu
      split at h
      · split at h <;> simp at h
        subst h
        simp_all
      · cases h
    · cases h

def EqP (P : Program) (g : Gh) (D d t : Nat) : Prop := ∀ (ks : List Kd), kindsOf P d t = some ks → ∀ {cs ds : List AVal} {vs us : List Value} {b : Bool} {w : World} {x y : Value}, RL g w cs vs → RL g w ds us → eqCells ks cs ds = some b →
    AsVar P t vs x → AsVar P t us y → (Op.equalIn (D + d) t x y).run P w = .ok b w

theorem eqFields_flat {D d : Nat} (IH : ∀ t, EqP P g D d t) : ∀ (fs : List Field) (off : Nat) {ks : List Kd}, kindsOf.kindsFields P (kindsOf P d) fs off = some ks → ∀ {cs ds : List AVal} {vs us : List Value} {b : Bool} {w : World}, RL g w cs vs → RL g w ds us →
    eqCells ks (cs.drop off) (ds.drop off) = some b → (Op.eqFields (D + d) vs.toArray us.toArray fs).run P w = .ok b w
  | [], off, ks, h, cs, ds, vs, us, b, w, hc, hd, he => by
    simp [kindsOf.kindsFields] at h; subst h
    have : b = true := by
      cases hx : cs.drop off <;> cases hy : ds.drop off <;> simp [hx, hy, eqCells] at he
      exact he
    subst this
    simp [Op.eqFields]
  | f :: fs, off, ks, h, cs, ds, vs, us, b, w, hc, hd, he => by
    unfold kindsOf.kindsFields at h
    split at h
    · rename_i hf
      split at h
      · rename_i k1 hk
        split at h
        · rename_i hsz
          obtain ⟨k2, hk2, rfl⟩ := Option.map_eq_some_iff.1 h
          obtain ⟨s1, s2, s3⟩ := kindsOf_size hk
          obtain ⟨b1, b2, e1, e2, rfl⟩ := eqCells_append he
          obtain ⟨l1, l2⟩ := eqCells_len he
          simp only [List.length_append, List.length_drop] at l1 l2
          obtain ⟨lc, _⟩ := RL_get _ _ hc
          obtain ⟨ld, _⟩ := RL_get _ _ hd
          have ec := eqCells_len e1
          simp only [List.length_take, List.length_drop] at ec
          have hlen : aggT P f.type = false → k1.length = 1 ∧ off < vs.length ∧ off < us.length := fun ha => by
            have := s3 ha; omega
          obtain ⟨x, p1, p2⟩ := part_asVar (P := P) (w := w) (vs := vs) (off := off) s1 s2 (fun ha => ⟨(hlen ha).1, (hlen ha).2.1⟩)
          obtain ⟨y, p3, p4⟩ := part_asVar (P := P) (w := w) (vs := us) (off := off) s1 s2 (fun ha => ⟨(hlen ha).1, (hlen ha).2.2⟩)
          have heq := IH f.type _ hk (w := w) (RL_sub hc off k1.length) (RL_sub hd off k1.length) e1 p2 p4
          have htail := eqFields_flat IH fs (off + k1.length) hk2 (w := w) hc hd (by simpa [List.drop_drop] using e2)
          simp only [Op.eqFields, hf.1, ne_eq, not_false_eq_true, if_true, Sem.run_bind, hf.2, p1, p3, Result.andThen_ok, heq]
          cases b1
          · simp
          · simpa using htail
        · cases h
      · cases h
    · cases h

theorem eqItems_flat {D d e : Nat} (IH : EqP P g D d e) {k : List Kd} (hk : kindsOf P d e = some k) : ∀ (n m : Nat), ∀ {cs ds : List AVal} {vs us : List Value} {b : Bool} {w : World}, RL g w cs vs → RL g w ds us →
    eqCells (List.replicate n k).flatten (cs.drop (m * k.length)) (ds.drop (m * k.length)) = some b → (Op.eqItems (D + d) e k.length vs.toArray us.toArray (List.range' m n)).run P w = .ok b w
  | 0, m, cs, ds, vs, us, b, w, hc, hd, he => by
    have : b = true := by
      cases hx : cs.drop (m * k.length) <;> cases hy : ds.drop (m * k.length) <;> simp [hx, hy, eqCells] at he
      exact he
    subst this
    simp [Op.eqItems]
  | n + 1, m, cs, ds, vs, us, b, w, hc, hd, he => by
    obtain ⟨s1, s2, s3⟩ := kindsOf_size hk
    rw [List.replicate_succ, List.flatten_cons] at he
    obtain ⟨b1, b2, e1, e2, rfl⟩ := eqCells_append he
    obtain ⟨l1, l2⟩ := eqCells_len he
    simp only [List.length_append, List.length_drop] at l1 l2
    obtain ⟨lc, _⟩ := RL_get _ _ hc
    obtain ⟨ld, _⟩ := RL_get _ _ hd
    have hlen : aggT P e = false → k.length = 1 ∧ m * k.length < vs.length ∧ m * k.length < us.length := fun ha => by
      have := s3 ha; omega
    obtain ⟨x, p1, p2⟩ := part_asVar (P := P) (w := w) (vs := vs) (off := m * k.length) s1 s2 (fun ha => ⟨(hlen ha).1, (hlen ha).2.1⟩)
    obtain ⟨y, p3, p4⟩ := part_asVar (P := P) (w := w) (vs := us) (off := m * k.length) s1 s2 (fun ha => ⟨(hlen ha).1, (hlen ha).2.2⟩)
    have heq := IH _ hk (w := w) (RL_sub hc _ k.length) (RL_sub hd _ k.length) e1 p2 p4
    have htail := eqItems_flat IH hk n (m + 1) (w := w) hc hd (by rw [Nat.add_mul, Nat.one_mul]; simpa [List.drop_drop] using e2)
    simp only [List.range'_succ, Op.eqItems, Sem.run_bind, p1, p3, Result.andThen_ok, heq]
    cases b1
    · simp
    · simpa using htail

theorem flat_equal (D : Nat) : ∀ (d t : Nat), EqP P g D d t
  | 0, t => by intro ks h; simp [kindsOf] at h
  | d + 1, t => by
    intro ks h cs ds vs us b w x y hc hd he hx hy
    have leaf : ∀ q, ks = [q] → aggT P t = false → ∃ c e, cs = [c] ∧ ds = [e] ∧ eqCell q c e = some b ∧ R g w c x ∧ R g w e y := by
      intro q hq ha
      subst hq
      obtain ⟨l1, l2⟩ := eqCells_len he
      match cs, ds, l1, l2 with
      | [c], [e], _, _ =>
        grind [eqCells, AsVar, RL]
    unfold kindsOf at h
    split at h
    · rename_i hu
      split at h <;> simp at h
      obtain ⟨c, e, _, _, h1, r1, r2⟩ := leaf _ h.symm (by simp [aggT, hu])
      unfold eqCell at h1
      split at h1 <;> simp_all [R]
      subst h1
      exact run_equalIn_bool' w _ _ _ _ hu
    · rename_i k hu
      split at h <;> simp at h
      obtain ⟨c, e, _, _, h1, r1, r2⟩ := leaf _ h.symm (by simp [aggT, hu])
      unfold eqCell at h1
      split at h1 <;> simp_all [R]
      obtain ⟨⟨rfl, rfl⟩, rfl⟩ := h1
      exact run_equalIn_int w _ _ _ _ _ _ hu
    · rename_i hu
      split at h <;> simp at h
      obtain ⟨c, e, _, _, h1, r1, r2⟩ := leaf _ h.symm (by simp [aggT, hu])
      unfold eqCell at h1
      split at h1 <;> simp_all [R]
      subst h1
      exact run_equalIn_string w _ _ _ _ hu
    · rename_i fs hu
      split at h
      · cases h
      · rename_i hst
        split at h
        · rename_i ks' hks
          split at h <;> simp at h
          subst h
          have ha : aggT P t = true := by simp [aggT, hu]
          simp only [AsVar, ha, if_true] at hx hy
          subst hx; subst hy
          have hfs : P.fieldsOf t = fs := by simp [Program.fieldsOf, hu]
          rw [← Nat.add_assoc, run_equalIn_struct w (D + d) t _ _ (by rw [hfs]; exact hu) (by simpa using hst), hfs]
          exact eqFields_flat (flat_equal D d) fs.toList 0 hks hc hd (by simpa using he)
        · cases h
    · rename_i n e hu
      split at h
      · rename_i ks' hks
        split at h <;> simp at h
        rename_i hsz
        subst h
        have ha : aggT P t = true := by simp [aggT, hu]
        simp only [AsVar, ha, if_true] at hx hy
        subst hx; subst hy
        simp only [Bool.and_eq_true, beq_iff_eq] at hsz
        have hi : ∃ i, P.info? e = some i ∧ i.size = ks'.length := by
          unfold sizeT at hsz
          cases hq : P.info? e with
          | none => simp [hq] at hsz
          | some i => grind
        obtain ⟨i, hi, hsi⟩ := hi
        have hce : P.cellsOf e = ks'.length := by simp [Program.cellsOf, hi, hsi]
        rw [← Nat.add_assoc, run_equalIn_array w (D + d) _ _ hu hi, hce, List.range_eq_range']
        exact eqItems_flat (flat_equal D d e) hks n 0 hc hd (by simpa using he)
      · cases h
    · cases h

end
end Go.AM
