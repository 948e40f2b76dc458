/- Maps with plain keys, as the abstract machine has them. No program. -/
import Derived.Test.YtbfglcegmhgjdaaGreatDoorAmI
namespace Go.AM

section
set_option linter.unusedSectionVars false
variable [Globs] {P : Program} {a : Act} {o : Oper} {g : Gh} {H : List ABlk} {w : World} {rho : Operand → AVal}

theorem asVar_of {K : TypeId} {k : AVal} {x : Value} (h : R g w k x) (hs : isAggA k = aggT P K) : ∃ vs, RL g w k.cells vs ∧ AsVar P K vs x := by
  by_cases ha : isAggA k = true
  · cases k <;> simp only [isAggA, Bool.false_eq_true] at ha
    simp only [R] at h
    obtain ⟨vs, rfl, _, hl⟩ := h
    exact ⟨vs, hl, by grind [isAggA, AsVar]⟩
  · have hcells : k.cells = [k] := by cases k <;> first | rfl | exact absurd rfl ha
    exact ⟨[x], by grind [RL], by simp [AsVar, ← hs, ha]⟩

/-- The cells of a value that is a key. -/
theorem key_cells {K : TypeId} {k : AVal} {x : Value} {ks : List Kd} (hk : keyKinds P K k = some ks) (h : R g w k x) : kindsOf P 9 K = some ks ∧ isAggA k = aggT P K ∧ ∃ vs, RL g w k.cells vs ∧ AsVar P K vs x := by
  grind [keyKinds, asVar_of]

theorem checkKey_flat (empty : Bool) (D : Nat) : ∀ (d t : Nat) (ks : List Kd), kindsOf P d t = some ks → ∀ {vs : List Value} {w : World} {x : Value}, vs.length = ks.length → AsVar P t vs x → (Instr.checkKey empty (D + d) t x).run P w = .ok () w
  | 0, t, ks, h, _, _, _, _, _ => by simp [kindsOf] at h
  | d + 1, t, ks, h, vs, w, x, hl, hx => by
    unfold kindsOf at h
    rw [show D + (d + 1) = (D + d) + 1 from rfl]
    split at h
    · rename_i hu
      simp [Instr.checkKey, run_underlying hu]
    · rename_i k hu
      simp [Instr.checkKey, run_underlying hu]
    · rename_i hu
      simp [Instr.checkKey, run_underlying hu]
    · rename_i fs hu
      split at h
      · cases h
      · split at h
        · rename_i ks' hks
          split at h <;> simp at h
          subst h
          have ha : aggT P t = true := by simp [aggT, hu]
          simp only [AsVar, ha, if_true] at hx
          subst hx
          rw [Instr.checkKey]
          simp only [Sem.run_bind, run_underlying hu, Result.andThen_ok]
          rw [← Array.forIn_toList]
          have key : ∀ (L : List Field) (off : Nat) (ks1 : List Kd), kindsOf.kindsFields P (kindsOf P d) L off = some ks1 → off + ks1.length ≤ vs.length →
              ∀ f ∈ L, f.name ≠ "_" ∧ ∃ x1, (part f.type vs.toArray f.offset).run P w = .ok x1 w ∧ (Instr.checkKey empty (D + d) f.type x1).run P w = .ok () w := by
            intro L
            induction L with
            | nil => intro _ _ _ _ f hf; simp at hf
            | cons f L ih =>
              intro off ks1 hk hle q hq
              unfold kindsOf.kindsFields at hk
              split at hk
              · rename_i hf
                split at hk
                · rename_i k1 hk1
                  split at hk
                  · rename_i hsz
                    obtain ⟨k2, hk2, rfl⟩ := Option.map_eq_some_iff.1 hk
                    simp only [List.length_append] at hle
                    obtain ⟨s1, s2, s3⟩ := kindsOf_size hk1
                    rcases List.mem_cons.1 hq with rfl | hq
                    · refine ⟨hf.1, ?_⟩
                      obtain ⟨x1, p1, p2⟩ := part_asVar (P := P) (w := w) (vs := vs) (off := off) s1 s2 (fun ha => by have := s3 ha; omega)
                      refine ⟨x1, by rw [hf.2]; exact p1, checkKey_flat empty D d _ k1 hk1 (by simp; omega) p2⟩
                    grind
                  · cases hk
                · cases hk
              · cases hk
          have each := key fs.toList 0 ks' hks (by omega)
          clear key hks
          generalize fs.toList = L at each
          induction L with
          | nil => simp
          | cons f L ih =>
            obtain ⟨hn, x1, p1, p2⟩ := each f (by simp)
            simp_all
        · cases h
    · rename_i n e hu
      split at h
      · rename_i ks' hks
        split at h <;> simp at h
        rename_i hsz
        subst h
        have ha : aggT P t = true := by simp [aggT, hu]
        simp only [AsVar, ha, if_true] at hx
        subst hx
        simp only [Bool.and_eq_true, beq_iff_eq] at hsz
        obtain ⟨s1, s2, s3⟩ := kindsOf_size hks
        have hi : ∃ i, P.info? e = some i ∧ P.cellsOf e = ks'.length := by
          unfold sizeT at hsz
          cases hq : P.info? e with
          | none => simp [hq] at hsz
          | some i => exact ⟨i, rfl, by simpa [hq, Program.cellsOf] using hsz.1⟩
        obtain ⟨i, hi, hce⟩ := hi
        have hlen : vs.length = n * ks'.length := by rw [hl]; simp
        rw [Instr.checkKey]
        simp only [Sem.run_bind, run_underlying hu, Result.andThen_ok]
        simp only [Std.Legacy.Range.forIn_eq_forIn_range', Std.Legacy.Range.size, Nat.sub_zero, Nat.add_one_sub_one, Nat.div_one]
        have each : ∀ j ∈ List.range' 0 n, ∃ x1, (part e vs.toArray (j * P.cellsOf e)).run P w = .ok x1 w ∧ (Instr.checkKey empty (D + d) e x1).run P w = .ok () w := by
          intro j hj
          have hjn : j < n := by simpa using (List.mem_range'_1.1 hj).2
          have hb : (j + 1) * ks'.length ≤ n * ks'.length := Nat.mul_le_mul_right _ hjn
          rw [Nat.add_mul, Nat.one_mul] at hb
          obtain ⟨x1, p1, p2⟩ := part_asVar (P := P) (w := w) (vs := vs) (off := j * ks'.length) s1 s2 (fun ha => by have := s3 ha; omega)
          exact ⟨x1, by rw [hce]; exact p1, checkKey_flat empty D d _ ks' hks (by simp; omega) p2⟩
        generalize List.range' 0 n = is at each
        induction is with
        | nil => simp
        | cons j is ih =>
          obtain ⟨x1, p1, p2⟩ := each j (by simp)
          simp only [List.forIn_cons, Sem.run_bind, run_sizeOf w hi, Result.andThen_ok, p1, p2, Sem.run_pure]
          simp_all
      · cases h
    · cases h

/-- The machine's search for a key. -/
theorem run_findAsking {K : TypeId} {ks : List Kd} {k : AVal} {x : Value} (hks : kindsOf P 9 K = some ks) {vs : List Value} (h1 : RL g w k.cells vs) (ha : AsVar P K vs x) :
    ∀ (es : List (AVal × AVal × Nat)) (l : List MapEntry) (i : Nat) (r : Option (Nat × AVal × Nat)), EntsAt g w es l → findA ks (aggT P K) k es i = some r →
      ∃ r', (Instr.findAsking K x l i).run P w = .ok r' w ∧ (match r, r' with
        | none, none => True
        | some (j, v, born), some (j', v') => j = j' ∧ R g w v v' ∧ ∃ e, l[j - i]? = some e ∧ e.val = v' ∧ e.born = born ∧ i ≤ j ∧ (Op.equal K x e.key).run P w = .ok true w ∧ ∃ p, es[j - i]? = some p ∧ eqCells ks k.cells p.1.cells = some true
        | _, _ => False)
  | [], l, i, r, hl, h => by
    simp [findA] at h; subst h
    simp only [EntsAt] at hl; subst hl
    exact ⟨none, by simp [Instr.findAsking], trivial⟩
  | (k', v, born) :: es, l, i, r, hl, h => by
    simp only [EntsAt] at hl
    obtain ⟨e, l', rfl, r1, r2, r3, r4⟩ := hl
    simp only [findA] at h
    split at h
    · rename_i hsh
      obtain ⟨vs', v1, v2⟩ := asVar_of (P := P) (K := K) r1 hsh
      split at h
      · rename_i heq
        have heq2 : (Op.equal K x e.key).run P w = .ok true w := flat_equal (g := g) 9991 9 K ks hks h1 v1 heq ha v2
        simp at h; subst h
        refine ⟨some (i, e.val), by simp [Instr.findAsking, heq2], rfl, r2, e, by simp, rfl, r3, Nat.le_refl _, heq2, _, by simp; rfl, heq⟩
      · rename_i heq
        have heq2 : (Op.equal K x e.key).run P w = .ok false w := flat_equal (g := g) 9991 9 K ks hks h1 v1 heq ha v2
        obtain ⟨r', q1, q2⟩ := run_findAsking hks h1 ha es l' (i + 1) r r4 h
        refine ⟨r', by simp [Instr.findAsking, heq2, q1], ?_⟩
        grind
      · cases h
    · cases h

theorem findNow_asking {K : TypeId} {kd : TypeDesc} (hu : P.underlying K = some kd) {x : Value} : ∀ (l : List MapEntry) (i : Nat) (r : Option (Nat × Value)), Instr.findNow kd x l i = some r → (Instr.findAsking K x l i).run P w = .ok r w
  | [], i, r, h => by simp [Instr.findNow] at h; subst h; simp [Instr.findAsking]
  | e :: l, i, r, h => by
    have eqs : ∀ b, Instr.sameNow kd x e.key = some b → (Op.equal K x e.key).run P w = .ok b w := by
      intro b hb
      generalize e.key = y at hb ⊢
      unfold Instr.sameNow at hb
      split at hb
      · split at hb <;> simp at hb
        rename_i q hq
        subst hq; subst hb
        simp only [Op.equal, Op.maxDepth]
        exact run_equalIn_int w 9999 K _ _ _ _ hu
      · simp at hb; subst hb
        simp only [Op.equal, Op.maxDepth, beq_toListBytes]
        exact run_equalIn_string w 9999 K _ _ hu
      · simp at hb; subst hb
        simp only [Op.equal, Op.maxDepth]
        exact run_equalIn_bool' w 9999 K _ _ hu
      · cases hb
    simp only [Instr.findNow] at h
    split at h
    · rename_i hs
      simp at h; subst h
      simp [Instr.findAsking, eqs _ hs]
    · rename_i hs
      simp [Instr.findAsking, eqs _ hs, findNow_asking hu l (i + 1) r h]
    · cases h

theorem run_findKey {K : TypeId} {x : Value} {l : List MapEntry} {r : Option (Nat × Value)} (hu : (P.underlying K).isSome) (h : (Instr.findAsking K x l 0).run P w = .ok r w) : (Instr.findKey K x l).run P w = .ok r w := by
  obtain ⟨kd, hkd⟩ := Option.isSome_iff_exists.1 hu
  simp only [Instr.findKey, Sem.run_bind, run_underlying hkd, Result.andThen_ok]
  cases hn : Instr.findNow kd x l 0 with
  | none => simpa using h
  | some r' =>
    have := findNow_asking (w := w) hkd l 0 r' hn
    simp_all

theorem zeroA_some {T : Nat} {z : AVal} (h : zeroA P T = some z) : ∃ x, (zeroValue T).run P w = .ok x w ∧ R g w z x := by
  unfold zeroA at h
  split at h
  · rename_i i hi
    obtain ⟨x, hx, rfl⟩ := Option.map_eq_some_iff.1 h
    exact ⟨x, by simp [zeroValue, typeInfo, hi, hx], R_ofValue x⟩
  · cases h

theorem mapOf_some {x : AVal} {v : Value} {m : Option (Nat × Nat × List (AVal × AVal × Nat))} (hi : Inv g H w) (hr : R g w x v) (h : (mapOf x).run H = some m) :
    (m = none ∧ v = .map none) ∨ ∃ b clock es k ents, m = some (b, clock, es) ∧ x = .mp b ∧ H[b]? = some (.map clock es) ∧ v = .map (some k) ∧ g.rho b 0 = some (k, 0) ∧ w.heap[k]? = some (.map ents clock) ∧ EntsAt g w es ents.toList := by
  unfold mapOf at h
  split at h
  · grind [Rd.run, R_sc]
  · rename_i b
    simp only [Rd.run] at h
    split at h
    · rename_i y hy
      split at h
      · rename_i clock es
        simp [Rd.run] at h; subst h
        obtain ⟨k, ents, h1, h2, h3⟩ := hi.good b _ hy
        grind [R]
      · simp [Rd.run] at h
    · cases h
  · simp [Rd.run] at h

theorem run_lookup {T K E : Nat} {x kv zv : Value} {l : List MapEntry} {ok : Bool} {r : Option (Nat × Value)} (hu : P.underlying T = some (.map K E)) (hx : (x = .map none ∧ l = []) ∨ ∃ k ents clock, x = .map (some k) ∧ w.heap[k]? = some (.map ents clock) ∧ ents.toList = l)
    (hck : ∀ em, (Instr.checkKey em 10000 K kv).run P w = .ok () w) (hz : (zeroValue E).run P w = .ok zv w) (hf : (Instr.findKey K kv l).run P w = .ok r w) :
    (Instr.lookup T x kv ok).run P w = .ok (if ok then .tuple #[(r.map (·.2)).getD zv, .bool r.isSome] else (r.map (·.2)).getD zv) w := by
  rcases hx with ⟨rfl, rfl⟩ | ⟨k, ents, clock, rfl, hk, rfl⟩
  · cases r <;> cases ok <;> simp [Instr.lookup, run_underlying hu, hck, hf, hz]
  · have hg : (getObj k).run P w = .ok (.map ents clock) w := by simp [getObj, Sem.run, hk]
    cases r <;> cases ok <;> simp [Instr.lookup, run_underlying hu, hck, hf, hz, hg]

theorem ran_lookup {T : Nat} {x k : Operand} {ok : Bool} {eff : Eff} (hi : Inv g H w) (hρ : ∀ x, R g w (rho x) (a.eval x)) (ho : o.op = .lookup T x k ok) (h : (lookupA P T (rho x) (rho k) ok).run H = some eff) : Ran P a o g H w eff := by
  unfold lookupA at h
  split at h
  · rename_i K E hu
    split at h
    · rename_i ks hks
      obtain ⟨hk1, hk2, vs, hk3, hk4⟩ := key_cells hks (hρ k)
      obtain ⟨m, hm, h⟩ := bind_some h
      split at h
      · rename_i b0 r z hself hfind hz
        simp [Rd.run] at h; subst h
        obtain ⟨zv, z1, z2⟩ := zeroA_some (w := w) hz
        obtain ⟨s1, s2, s3⟩ := kindsOf_size hk1
        have hlen : vs.length = ks.length := by rw [(RL_get _ _ hk3).1]; exact (eqCells_len hself).1
        have hck : ∀ em, (Instr.checkKey em 10000 K (a.eval k)).run P w = .ok () w := fun em => checkKey_flat em 9991 9 K ks hk1 hlen hk4
        have fin : ∀ (es : List (AVal × AVal × Nat)) (l : List MapEntry), EntsAt g w es l → findA ks (aggT P K) (rho k) es 0 = some r →
            ((a.eval x = .map none ∧ l = []) ∨ ∃ k ents clock, a.eval x = .map (some k) ∧ w.heap[k]? = some (.map ents clock) ∧ ents.toList = l) →
            Ran P a o g H w { val := if ok then .tup [match r with | some (_, v, _) => v | none => z, .sc (.bool r.isSome)] else match r with | some (_, v, _) => v | none => z } := by
          intro es l hes hf hx
          obtain ⟨r', q1, q2⟩ := run_findAsking hk1 hk3 hk4 es l 0 r hes hf
          have hrun := run_lookup (ok := ok) hu hx hck z1 (run_findKey s2 q1)
          have hval : r'.isSome = r.isSome ∧ R g w (match r with | some (_, v, _) => v | none => z) ((r'.map (·.2)).getD zv) := by
            match r, r', q2 with
            | none, none, _ => exact ⟨rfl, z2⟩
            | some (j, u, bn), some (j', u'), ⟨p1, p2, _⟩ => exact ⟨rfl, p2⟩
          refine Ran.pure hi (by simp [execOp, ho, hrun]; rfl) ?_
          cases ok
          · simpa using hval.2
          · grind [R, RL]
        rcases mapOf_some hi (hρ x) hm with ⟨rfl, hv⟩ | ⟨b, clock, es, kk, ents, rfl, hx, hb, hv, hrk, hheap, hents⟩
        · exact fin [] [] rfl hfind (.inl ⟨hv, rfl⟩)
        grind
      · simp [Rd.run] at h
    · simp [Rd.run] at h
  · simp [Rd.run] at h

/-- Two plain keys that are equal are the same to the bit. -/
theorem sameBits_of (n : Nat) {ks : List Kd} : ∀ {cs ds : List AVal} {vs us : List Value}, eqCells ks cs ds = some true → RL g w cs vs → RL g w ds us → (us.zip vs).all (fun p => Instr.sameBits n p.1 p.2) = true ∧ us.length = vs.length := by
  induction ks with
  | nil =>
    intro cs ds vs us h hc hd
    cases cs <;> cases ds <;> simp [eqCells] at h
    simp only [RL] at hc hd
    subst hc; subst hd; simp
  | cons q qs ih =>
    intro cs ds vs us h hc hd
    cases cs <;> cases ds <;> simp only [eqCells] at h
    all_goals (try cases h)
    rename_i c cs d ds
    split at h
    · rename_i x y h1 h2
      simp at h
      obtain ⟨rfl, rfl⟩ := h
      simp only [RL] at hc hd
      obtain ⟨v, vs', rfl, r1, r2⟩ := hc
      obtain ⟨u, us', rfl, r3, r4⟩ := hd
      obtain ⟨i1, i2⟩ := ih h2 r2 r4
      refine ⟨?_, by simp [i2]⟩
      simp only [List.zip_cons_cons, List.all_cons, i1, Bool.and_true]
      unfold eqCell at h1
      split at h1
      · split at h1 <;> simp at h1
        rename_i hq
        have := R_sc r1; subst this
        have := R_sc r3; subst this
        obtain ⟨rfl, rfl⟩ := hq
        subst h1
        cases n <;> simp [Instr.sameBits]
      · simp at h1
        have := R_sc r1; subst this
        have := R_sc r3; subst this
        subst h1
        cases n <;> simp [Instr.sameBits]
      · rename_i p1 p2
        have h3 : (p1 == p2) = true := (beq_toListBytes _ _).trans (by simpa using h1)
        have h4 : (p2 == p1) = true := by rw [beq_toListBytes] at h3 ⊢; simp at h3 ⊢; exact h3.symm
        have := R_sc r1; subst this
        have := R_sc r3; subst this
        cases n <;> simp only [Instr.sameBits] <;> exact h4
      · cases h1
    · cases h

theorem keyStays {K : TypeId} {ks : List Kd} {k k' : AVal} {x x' : Value} {vs vs' : List Value} (h1 : RL g w k.cells vs) (ha : AsVar P K vs x) (h2 : RL g w k'.cells vs') (ha' : AsVar P K vs' x') (he : eqCells ks k.cells k'.cells = some true) :
    (Instr.keyThatStays x' x).run P w = .ok x w := by
  have hsb : Instr.sameBits 10000 x' x = true := by
    by_cases hag : aggT P K = true
    · simp only [AsVar, hag, if_true] at ha ha'
      subst ha; subst ha'
      obtain ⟨b1, b2⟩ := sameBits_of 9999 he h1 h2
      simp only [Instr.sameBits, List.size_toArray, b2, beq_self_eq_true, Bool.true_and]
      exact b1
    · simp only [AsVar, hag, Bool.false_eq_true, if_false] at ha ha'
      subst ha; subst ha'
      obtain ⟨b1, b2⟩ := sameBits_of 10000 he h1 h2
      simpa using b1
  simp [Instr.keyThatStays, hsb]

theorem EntsAt_get : ∀ {es : List (AVal × AVal × Nat)} {l : List MapEntry}, EntsAt g w es l → es.length = l.length ∧ ∀ (i : Nat) (p : AVal × AVal × Nat), es[i]? = some p → ∃ e, l[i]? = some e ∧ R g w p.1 e.key ∧ R g w p.2.1 e.val ∧ e.born = p.2.2
  | [], l, h => by simp only [EntsAt] at h; subst h; simp
  | q :: qs, l, h => by
    simp only [EntsAt] at h
    obtain ⟨e, l', rfl, h1, h2, h3, h4⟩ := h
    obtain ⟨i1, i2⟩ := EntsAt_get h4
    grind

theorem EntsAt_of : ∀ {es : List (AVal × AVal × Nat)} {l : List MapEntry}, es.length = l.length → (∀ (i : Nat) (p : AVal × AVal × Nat) (e : MapEntry), es[i]? = some p → l[i]? = some e → R g w p.1 e.key ∧ R g w p.2.1 e.val ∧ e.born = p.2.2) → EntsAt g w es l
  | [], l, h, _ => by grind [EntsAt]
  | q :: qs, [], h, _ => by simp at h
  | q :: qs, e :: l, h, hc => by
    simp only [EntsAt]
    obtain ⟨h1, h2, h3⟩ := hc 0 q e (by simp) (by simp)
    exact ⟨e, l, rfl, h1, h2, h3, EntsAt_of (by simpa using h) fun i p e' hp he => hc (i + 1) p e' (by simpa using hp) (by simpa using he)⟩

theorem setObj_heap (w : World) (k : Nat) (ob : Obj) (hk : k < w.heap.size) : ({ w with heap := w.heap.setIfInBounds k ob } : World).heap[k]? = some ob := by
  simp [hk]

theorem shape?_setObj {w : World} {k : Nat} {es es' : Array MapEntry} {c c' : Nat} (hk : w.heap[k]? = some (.map es c)) : ∀ j x, w.shape? j = some x → ({ w with heap := w.heap.setIfInBounds k (.map es' c') } : World).shape? j = some x := by
  intro j x hx
  by_cases hj : j = k
  · subst hj; simp [World.shape?, hk] at hx
  · have : (w.heap.setIfInBounds k (.map es' c'))[j]? = w.heap[j]? := Array.getElem?_setIfInBounds_ne (Ne.symm hj)
    simpa [World.shape?, this] using hx

theorem ran_mapUpdate {T : Nat} {m k x : Operand} {eff : Eff} (hi : Inv g H w) (hρ : ∀ x, R g w (rho x) (a.eval x)) (ho : o.op = .mapUpdate T m k x ∨ o.op = .insert T m k x) (h : (mapUpdateA P T (rho m) (rho k) (rho x)).run H = some eff) : Ran P a o g H w eff := by
  unfold mapUpdateA at h
  split at h
  · rename_i K E hu
    split at h
    · rename_i ks hks
      obtain ⟨hk1, hk2, vs, hk3, hk4⟩ := key_cells hks (hρ k)
      obtain ⟨mm, hm, h⟩ := bind_some h
      obtain ⟨s1, s2, s3⟩ := kindsOf_size hk1
      split at h
      · rename_i b clock es
        rcases mapOf_some hi (hρ m) hm with ⟨hn, _⟩ | ⟨b', clock', es', kk, ents, he, hx, hb, hv, hrk, hheap, hents⟩
        · cases hn
        · simp at he
          obtain ⟨rfl, rfl, rfl⟩ := he
          have hkl : kk < w.heap.size := (Array.getElem?_eq_some_iff.1 hheap).1
          have hg : (getObj kk).run P w = .ok (.map ents clock) w := by simp [getObj, Sem.run, hheap]
          have hset : ∀ ob, (setObj kk ob).run P w = .ok () { w with heap := w.heap.setIfInBounds kk ob } := by intro ob; simp [setObj, Sem.run, hheap]
          have hexec : ∀ {w'}, (Instr.mapUpdate T (a.eval m) (a.eval k) (a.eval x)).run P w = .ok () w' → (execOp a.eval o).run P w = .ok .skip w' := by
            intro w' hr
            rcases ho with ho | ho <;> simp [execOp, ho, hr]
          have place : ∀ (clock2 : Nat) (es2 : List (AVal × AVal × Nat)) (ents2 : Array MapEntry), EntsAt g w es2 ents2.toList →
              (Instr.mapUpdate T (a.eval m) (a.eval k) (a.eval x)).run P w = .ok () { w with heap := w.heap.setIfInBounds kk (.map ents2 clock2) } → Ran P a o g H w { val := nothing, upd := [(b, .map clock2 es2)] } := by
            intro clock2 es2 ents2 hE hrun
            obtain ⟨p1, p2⟩ := hi.inplace (w' := { w with heap := w.heap.setIfInBounds kk (.map ents2 clock2) }) (y := .map clock2 es2) hb rfl hrk rfl (fun j hj => Array.getElem?_setIfInBounds_ne (Ne.symm hj)) (by simp) (shape?_setObj hheap) rfl ⟨rfl, Nat.le_of_eq rfl⟩ rfl
              fun hext => ⟨kk, ents2, hrk, setObj_heap w kk _ hkl, EntsAt_mono hext _ _ hE⟩
            exact ⟨undef, _, g, .inr ⟨hexec hrun, rfl⟩, by rw [apply_one]; exact p1, by simp [nothing, R, undef], by rw [apply_one]; exact p2⟩
          split at h
          · rename_i b0 i v0 born hself hfind
            simp [Rd.run] at h; subst h
            have hlen : vs.length = ks.length := by rw [(RL_get _ _ hk3).1]; exact (eqCells_len hself).1
            have hck : ∀ em, (Instr.checkKey em 10000 K (a.eval k)).run P w = .ok () w := fun em => checkKey_flat em 9991 9 K ks hk1 hlen hk4
            obtain ⟨r', q1, q2⟩ := run_findAsking hk1 hk3 hk4 es ents.toList 0 _ hents hfind
            have hfk := run_findKey s2 q1
            match r', q2 with
            | some (j', u'), ⟨p1, p2, e, p3, p4, p5, p6, p7, p, p8, p9⟩ =>
              subst p1
              simp only [Nat.sub_zero] at p3 p8
              obtain ⟨e2, e3, e4, e5, e6⟩ := (EntsAt_get hents).2 i p p8
              rw [p3] at e3; cases e3
              have hpsh : isAggA p.1 = aggT P K := by
                have : ∀ (es : List (AVal × AVal × Nat)) (i0 i : Nat) (r : AVal × Nat) , findA ks (aggT P K) (rho k) es i0 = some (some (i, r)) → ∀ p, es[i - i0]? = some p → i0 ≤ i → isAggA p.1 = aggT P K := by
                  intro es
                  induction es with
                  | nil => intro i0 i r h; simp [findA] at h
                  | cons q qs ih =>
                    intro i0 i r h p hp hle
                    grind [findA, aggT]
                exact this es 0 i (v0, born) hfind p (by simpa using p8) (Nat.zero_le _)
              obtain ⟨vs', y1, y2⟩ := asVar_of (P := P) (K := K) e4 hpsh
              have hstay := keyStays (P := P) (w := w) hk3 hk4 y1 y2 p9
              have hei : ents[i]? = some e := by rw [← Array.getElem?_toList]; exact p3
              have hrun : (Instr.mapUpdate T (a.eval m) (a.eval k) (a.eval x)).run P w = .ok () { w with heap := w.heap.setIfInBounds kk (.map (ents.modify i fun e => { e with key := a.eval k, val := a.eval x }) clock) } := by
                simp [Instr.mapUpdate, run_underlying hu, hv, hg, hck, hfk, hei, hstay, hset]
              grind [EntsAt_of, EntsAt_get]
          · rename_i b0 hself hfind
            simp [Rd.run] at h; subst h
            have hlen : vs.length = ks.length := by rw [(RL_get _ _ hk3).1]; exact (eqCells_len hself).1
            have hck : ∀ em, (Instr.checkKey em 10000 K (a.eval k)).run P w = .ok () w := fun em => checkKey_flat em 9991 9 K ks hk1 hlen hk4
            obtain ⟨r', q1, q2⟩ := run_findAsking hk1 hk3 hk4 es ents.toList 0 _ hents hfind
            have hfk := run_findKey s2 q1
            match r', q2 with
            | none, _ =>
              have hrun : (Instr.mapUpdate T (a.eval m) (a.eval k) (a.eval x)).run P w = .ok () { w with heap := w.heap.setIfInBounds kk (.map (ents.push { key := a.eval k, val := a.eval x, born := clock }) (clock + 1)) } := by
                simp [Instr.mapUpdate, run_underlying hu, hv, hg, hck, hfk, hset]
              grind [EntsAt_of, EntsAt_get]
          · simp [Rd.run] at h
      · simp [Rd.run] at h
    · simp [Rd.run] at h
  · simp [Rd.run] at h

theorem ran_makeMap {nid T : Nat} {r : Option Operand} (hi : Inv g H w) (hρ : ∀ x, R g w (rho x) (a.eval x)) (hn : H[nid]? = some .unborn) (ho : o.op = .makeMap T r) (hu : ∃ K E, P.underlying T = some (.map K E)) (hr : ∀ x, r = some x → ∃ q n, rho x = .sc (.int q n)) : Ran P a o g H w { val := .mp nid, upd := [(nid, .map 0 [])] } := by
  obtain ⟨K, E, hu⟩ := hu
  obtain ⟨a1, a2, a3⟩ := hi.newBlk (sz := 0) (y := .map 0 []) (ob := .map #[] 0) hn rfl ⟨w.heap.size, #[], by simp [Gh.born], alloc_get, rfl⟩
  refine ⟨.map (some w.heap.size), w.alloc (.map #[] 0), _, .inl ?_, by rw [apply_one]; exact a1, by grind [R], by rw [apply_one]; exact a2⟩
  cases r with
  | none => simp [execOp, ho, Instr.makeMap]
  | some x =>
    obtain ⟨q, n, hq⟩ := hr x rfl
    have := hρ x
    rw [hq] at this
    have := R_sc this
    simp [execOp, ho, Instr.makeMap, run_underlying hu, this, asInt, asIntOf]

theorem ran_lenMap {args : Array Operand} {ats : Array TypeId} {T K E : Nat} {x : Operand} {eff : Eff} (hi : Inv g H w) (hρ : ∀ x, R g w (rho x) (a.eval x)) (ho : o.op = .call { callee := .builtin .len, args := args, argTypes := ats }) (h0 : ats[0]? = some T) (h1 : args[0]? = some x)
    (hu : P.underlying T = some (.map K E)) (h : ((mapOf (rho x)).bind fun m => Rd.done { val := .sc (.int .i64 (match m with | some (_, _, es) => (es.length : Int) | none => 0)) }).run H = some eff) : Ran P a o g H w eff := by
  obtain ⟨m, hm, h⟩ := bind_some h
  simp only [Rd.run, Option.some.injEq] at h
  subst h
  rcases mapOf_some hi (hρ x) hm with ⟨rfl, hv⟩ | ⟨b, clock, es, k, ents, rfl, hx, hb, hv, hrk, hheap, hents⟩
  · refine Ran.pure hi (v := .int .i64 0) ?_ (by simp [R])
    simp [execOp, ho, resolve, invoke, builtin, Builtin.len_, h0, h1, run_underlying hu, hv, goInt]
  · refine Ran.pure hi (v := .int .i64 ents.size) ?_ ?_
    · simp [execOp, ho, resolve, invoke, builtin, Builtin.len_, h0, h1, run_underlying hu, hv, goInt, getObj, Sem.run, hheap]
    · have := (EntsAt_get hents).1
      grind [R]

theorem ran_rangeMap {nid T : Nat} {x : Operand} {eff : Eff} (hi : Inv g H w) (hρ : ∀ x, R g w (rho x) (a.eval x)) (hn : H[nid]? = some .unborn) (ho : o.op = .range T x) (h : (rangeMapA P nid T (rho x)).run H = some eff) : Ran P a o g H w eff := by
  unfold rangeMapA at h
  split at h
  · rename_i K E hu
    obtain ⟨m, hm, h⟩ := bind_some h
    rcases mapOf_some hi (hρ x) hm with ⟨rfl, hv⟩ | ⟨b, clock, es, k, ents, rfl, hx, hb, hv, hrk, hheap, hents⟩
    · simp only [Rd.run, Option.some.injEq] at h
      subst h
      obtain ⟨a1, a2, a3⟩ := hi.newBlk (sz := 0) (y := .iter (.sc (.map none)) 0 [] 0) (ob := .mapIter none 0 #[] 0) hn rfl ⟨w.heap.size, none, by simp [Gh.born], alloc_get, by simp [R]⟩
      refine ⟨.pointer (some ⟨w.heap.size, 0, none⟩), w.alloc (.mapIter none 0 #[] 0), _, .inl ?_, by rw [apply_one]; exact a1, by grind [R], by rw [apply_one]; exact a2⟩
      simp [execOp, ho, Instr.range, run_underlying hu, hv]
    · simp only [Rd.run, Option.some.injEq] at h
      subst h
      have hne : b ≠ nid := fun e => by subst e; rw [hb] at hn; cases hn
      obtain ⟨a1, a2, a3⟩ := hi.newBlk (sz := 0) (y := .iter (.mp b) clock [] clock) (ob := .mapIter (some k) clock #[] clock) hn rfl ⟨w.heap.size, some k, by simp [Gh.born], alloc_get, by simp only [R]; grind [Gh.born]⟩
      refine ⟨.pointer (some ⟨w.heap.size, 0, none⟩), w.alloc (.mapIter (some k) clock #[] clock), _, .inl ?_, by rw [apply_one]; exact a1, by grind [R], by rw [apply_one]; exact a2⟩
      simp [execOp, ho, Instr.range, run_underlying hu, hv, getObj, Sem.run, hheap]
  · simp [Rd.run] at h

theorem EntsAt_find {q : Nat} : ∀ {es : List (AVal × AVal × Nat)} {l : List MapEntry} {p : AVal × AVal × Nat}, EntsAt g w es l → es.find? (fun p => p.2.2 == q) = some p → ∃ e, l.find? (fun e => e.born == q) = some e ∧ R g w p.1 e.key ∧ R g w p.2.1 e.val
  | [], _, _, _, h => by cases h
  | r :: rs, l, p, he, h => by
    simp only [EntsAt] at he
    obtain ⟨e, l', rfl, h1, h2, h3, h4⟩ := he
    simp only [List.find?_cons] at h ⊢
    rw [h3]
    cases hc : r.2.2 == q with
    | true =>
      grind
    | false =>
      rw [hc] at h
      exact EntsAt_find h4 h

theorem ran_entry {x : Operand} {eff : Eff} (hi : Inv g H w) (hρ : ∀ x, R g w (rho x) (a.eval x)) (ho : o.op = .entry x) (h : (entryA (rho x)).run H = some eff) : Ran P a o g H w eff := by
  have hx := hρ x
  unfold entryA at h
  split at h
  · rename_i b hrx
    rw [hrx] at hx
    simp only [R] at hx
    obtain ⟨k, sz, hk, hx⟩ := hx
    simp only [Rd.run] at h
    cases hb : H[b]? with
    | none => rw [hb] at h; cases h
    | some y =>
      rw [hb] at h
      simp only at h
      split at h
      · rename_i m since seen stepped
        obtain ⟨mm, hm, hh⟩ := bind_some h
        clear h
        obtain ⟨k1, mo, q1, q2, q3⟩ := hi.good b _ hb
        rw [hk] at q1
        simp only [Option.some.injEq, Prod.mk.injEq] at q1
        obtain ⟨rfl, -⟩ := q1
        rcases mapOf_some hi q3 hm with ⟨rfl, hv⟩ | ⟨b', clock, es, k2, ents, rfl, hx2, hb2, hv, hrk, hheap, hents⟩
        · simp [Rd.run] at hh
        · simp only at hh
          split at hh
          · rename_i hcl
            subst hcl
            obtain ⟨v, hv2, rfl⟩ := yields_some hh
            unfold entryIn at hv2
            split at hv2
            · rename_i st hst
              obtain ⟨p, hp, rfl⟩ := Option.map_eq_some_iff.1 hv2
              obtain ⟨e, he, r1, r2⟩ := EntsAt_find hents hp
              refine Ran.pure hi (v := .tuple #[e.key, e.val]) ?_ (by grind [R, RL])
              simp only [Value.map.injEq] at hv
              subst hv
              have hback : seen.toArray.back? = some st := by rw [← hst]; simp [Array.back?, List.getLast?_eq_getElem?]
              have hf : ents.find? (fun e => e.born == st) = some e := by rw [← Array.find?_toList]; exact he
              simp only [Nat.zero_mul, Nat.add_zero] at hx
              simp [execOp, ho, hx, Instr.entry, getObj, Sem.run, q2, hback, hheap, hf]
            · cases hv2
          · simp [Rd.run] at hh
      · simp [Rd.run] at h
  · simp [Rd.run] at h

end
end Go.AM
