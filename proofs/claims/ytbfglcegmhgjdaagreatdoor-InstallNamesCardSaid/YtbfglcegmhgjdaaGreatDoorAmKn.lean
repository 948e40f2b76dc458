/- Loops over maps without a choice, entries made in their place, maps held against nil. No program. -/
import Derived.Test.YtbfglcegmhgjdaaGreatDoorAmK
import Derived.Maps.RangeRun
namespace Go.AM
open Go.ChangeMaps

section
set_option linter.unusedSectionVars false
variable [Globs] {P : Program} {a : Act} {o : Oper} {g : Gh} {H : List ABlk} {w : World} {rho : Operand → AVal}

theorem EntsAt_filter {seen : List Nat} : ∀ {es : List (AVal × AVal × Nat)} {l : List MapEntry}, EntsAt g w es l → (es.filter fun p => !seen.contains p.2.2).map (fun p => p.2.2) = (l.filter fun e => !seen.contains e.born).map (fun e => e.born)
  | [], l, h => by simp only [EntsAt] at h; subst h; rfl
  | q :: qs, l, h => by
    simp only [EntsAt] at h
    obtain ⟨e, l', rfl, h1, h2, h3, h4⟩ := h
    have := EntsAt_filter (seen := seen) h4
    simp only [List.filter_cons, h3]
    split
    · simp only [List.map_cons, h3]; rw [this]
    · exact this

theorem EntsAt_lt {n : Nat} : ∀ {es : List (AVal × AVal × Nat)} {l : List MapEntry}, EntsAt g w es l → (es.all fun p => decide (p.2.2 < n)) = true → ∀ x ∈ l, x.born < n
  | [], l, h, _ => by simp only [EntsAt] at h; subst h; simp
  | q :: qs, l, h, ha => by
    simp only [EntsAt] at h
    obtain ⟨e, l', rfl, h1, h2, h3, h4⟩ := h
    simp only [List.all_cons, Bool.and_eq_true, decide_eq_true_eq] at ha
    have := EntsAt_lt h4 ha.2
    grind

theorem ran_next {it : Operand} {eff : Eff} (hi : Inv g H w) (hρ : ∀ x, R g w (rho x) (a.eval x)) (ho : o.op = .next it false) (h : (nextA (rho it)).run H = some eff) : Ran P a o g H w eff := by
  have hev := hρ it
  unfold nextA at h
  split at h
  · rename_i b hrx
    rw [hrx] at hev
    simp only [R, Nat.zero_mul, Nat.add_zero] at hev
    obtain ⟨k, sz, hk, hx⟩ := hev
    have hexec : ∀ {v : Value} {w' : World}, (Instr.next (.pointer (some ⟨k, 0, none⟩)) false o.type).run P w = .ok v w' → (execOp a.eval o).run P w = .ok (.value v) w' := by
      intro v w' h
      simp [execOp, ho, hx, h, Result.andThen]
    simp only [Rd.run] at h
    cases hb : H[b]? with
    | none => rw [hb] at h; cases h
    | some y =>
      rw [hb] at h
      simp only at h
      split at h
      · rename_i mb since seen stepped
        obtain ⟨k', mo, q1, q2, q3⟩ := hi.good _ _ hb
        rw [hk] at q1
        simp only [Option.some.injEq, Prod.mk.injEq] at q1
        obtain ⟨rfl, rfl⟩ := q1
        simp only [R] at q3
        obtain ⟨k2, z2, q4, q5⟩ := q3
        obtain rfl : mo = some k2 := by simpa using q5
        simp only [Rd.run] at h
        cases hmb : H[mb]? with
        | none => rw [hmb] at h; cases h
        | some ym =>
          rw [hmb] at h
          simp only at h
          split at h
          · rename_i clock es
            obtain ⟨k3, ents, r1, r2, r3⟩ := hi.good _ _ hmb
            rw [q4] at r1
            simp only [Option.some.injEq, Prod.mk.injEq] at r1
            obtain ⟨rfl, rfl⟩ := r1
            split at h
            · rename_i hc
              simp only [Bool.and_eq_true, decide_eq_true_eq] at hc
              obtain ⟨hc1, hc2⟩ := hc
              have hf := EntsAt_filter (seen := seen) r3
              have hlf : (leftOf ents seen.toArray).toList = ents.toList.filter fun e => !seen.contains e.born := by
                unfold leftOf
                simp only [Array.toList_filter, List.contains_toArray]
              rcases run_next_at w o.type k k2 since stepped seen.toArray ents clock q2 r2 (EntsAt_lt r3 hc1) hc2 with ⟨hsz, hrun⟩ | ⟨e, he, w1, hw1, hrun⟩
              · have hnil : (es.filter fun p => !seen.contains p.2.2) = [] := by
                  have : (leftOf ents seen.toArray).toList = [] := by rw [Array.eq_empty_of_size_eq_zero hsz]
                  rw [hlf] at this
                  rw [this] at hf
                  simpa using hf
                rw [hnil] at h
                simp only [Rd.run, Option.some.injEq] at h
                subst h
                exact Ran.pure hi (hexec hrun) (by grind [R, RL])
              · rw [hlf] at he
                split at h
                · rename_i hnil
                  rw [hnil] at hf
                  simp only [List.map_nil] at hf
                  have := List.map_eq_nil_iff.1 hf.symm
                  rw [this] at he
                  cases he
                · rename_i p hone
                  simp only [Rd.run, Option.some.injEq] at h
                  subst h
                  rw [hone] at hf
                  have hp : e.born = p.2.2 := by
                    have : e.born ∈ (ents.toList.filter fun e => !seen.contains e.born).map (fun e => e.born) := List.mem_map.2 ⟨e, he, rfl⟩
                    rw [← hf] at this
                    simpa using this
                  rw [hp] at hrun
                  have hheap : w1.heap = w.heap := by rcases hw1 with rfl | rfl <;> rfl
                  have hkl : k < w.heap.size := (Array.getElem?_eq_some_iff.1 q2).1
                  obtain ⟨i1, i2⟩ := hi.inplace (w' := setBlock w1 k (.mapIter (some k2) since (seen.toArray.push p.2.2) clock)) (y := .iter (.mp mb) since (seen ++ [p.2.2]) clock) hb rfl hk rfl
                    (fun j' hj' => by simp only [setBlock, hheap]; grind) (by simp [setBlock, hheap])
                    (fun j' x hx' => by
                      have hne : j' ≠ k := by rintro rfl; simp [World.shape?, q2] at hx'
                      simp only [World.shape?, setBlock, hheap, Array.getElem?_setIfInBounds_ne (Ne.symm hne)] at hx' ⊢
                      exact hx')
                    (by rcases hw1 with rfl | rfl <;> rfl) (by rcases hw1 with rfl | rfl <;> exact ⟨rfl, by first | exact Nat.le_refl _ | exact Nat.le_succ _⟩) (by rcases hw1 with rfl | rfl <;> rfl)
                    (fun hext => ⟨k, some k2, hk, by simp [setBlock, hheap, hkl], by grind [R]⟩)
                  exact ⟨_, _, g, .inl (hexec hrun), by rw [apply_one]; exact i1, by grind [R, RL], by rw [apply_one]; exact i2⟩
                · simp [Rd.run] at h
            · simp [Rd.run] at h
          · simp [Rd.run] at h
      · rename_i since seen stepped
        simp only [Rd.run, Option.some.injEq] at h
        subst h
        obtain ⟨k', mo, q1, q2, q3⟩ := hi.good _ _ hb
        rw [hk] at q1
        simp only [Option.some.injEq, Prod.mk.injEq] at q1
        obtain ⟨rfl, rfl⟩ := q1
        have hmo : mo = none := by simpa using R_sc q3
        subst hmo
        refine Ran.pure hi (v := .tuple #[.bool false]) (hexec ?_) (by grind [R, RL])
        simp [Instr.next, getObj, Sem.run, q2]
      · simp [Rd.run] at h
  · simp [Rd.run] at h

theorem ran_mapEntry {T : Nat} {m k : Operand} {eff : Eff} (hi : Inv g H w) (hρ : ∀ x, R g w (rho x) (a.eval x)) (ho : o.op = .mapEntry T m k) (h : (mapEntryA P T (rho m) (rho k)).run H = some eff) : Ran P a o g H w eff := by
  unfold mapEntryA at h
  split at h
  · rename_i K E hu
    split at h
    · rename_i ks hks
      obtain ⟨hk1, hk2, vs, hk3, hk4⟩ := key_cells hks (hρ k)
      obtain ⟨mm, hm, h⟩ := bind_some h
      obtain ⟨s1, s2, s3⟩ := kindsOf_size hk1
      split at h
      · rename_i b clock es
        rcases mapOf_some hi (hρ m) hm with ⟨hn, _⟩ | ⟨b', clock', es', kk, ents, he, hx, hb, hv, hrk, hheap, hents⟩
        · cases hn
        · simp at he
          obtain ⟨rfl, rfl, rfl⟩ := he
          have hkl : kk < w.heap.size := (Array.getElem?_eq_some_iff.1 hheap).1
          have hg : (getObj kk).run P w = .ok (.map ents clock) w := by simp [getObj, Sem.run, hheap]
          have hset : ∀ ob, (setObj kk ob).run P w = .ok () { w with heap := w.heap.setIfInBounds kk ob } := by intro ob; simp [setObj, Sem.run, hheap]
          have hexec : ∀ {v w'}, (Instr.mapEntry T (a.eval m) (a.eval k)).run P w = .ok v w' → (execOp a.eval o).run P w = .ok (.value v) w' := by
            intro v w' hr
            simp [execOp, ho, hr]
          have place : ∀ (u : Value) (r : AVal) (clock2 : Nat) (es2 : List (AVal × AVal × Nat)) (ents2 : Array MapEntry), EntsAt g w es2 ents2.toList → R g w r u →
              (Instr.mapEntry T (a.eval m) (a.eval k)).run P w = .ok u { w with heap := w.heap.setIfInBounds kk (.map ents2 clock2) } → Ran P a o g H w { val := r, upd := [(b, .map clock2 es2)] } := by
            intro u r clock2 es2 ents2 hE hR hrun
            obtain ⟨p1, p2⟩ := hi.inplace (w' := { w with heap := w.heap.setIfInBounds kk (.map ents2 clock2) }) (y := .map clock2 es2) hb rfl hrk rfl (fun j hj => Array.getElem?_setIfInBounds_ne (Ne.symm hj)) (by simp) (shape?_setObj hheap) rfl ⟨rfl, Nat.le_of_eq rfl⟩ rfl
              fun hext => ⟨kk, ents2, hrk, setObj_heap w kk _ hkl, EntsAt_mono hext _ _ hE⟩
            exact ⟨u, _, g, .inl (hexec hrun), by rw [apply_one]; exact p1, R_mono p2.ext _ _ hR, by rw [apply_one]; exact p2⟩
          split at h
          · rename_i b0 i v0 born z0 hself hfind hz0
            simp [Rd.run] at h; subst h
            have hlen : vs.length = ks.length := by rw [(RL_get _ _ hk3).1]; exact (eqCells_len hself).1
            have hck : ∀ em, (Instr.checkKey em 10000 K (a.eval k)).run P w = .ok () w := fun em => checkKey_flat em 9991 9 K ks hk1 hlen hk4
            obtain ⟨r', q1, q2⟩ := run_findAsking hk1 hk3 hk4 es ents.toList 0 _ hents hfind
            have hfk := run_findKey s2 q1
            match r', q2 with
            | some (j', u'), ⟨p1, p2, e, p3, p4, p5, p6, p7, p, p8, p9⟩ =>
              subst p1
              simp only [Nat.sub_zero] at p3 p8
              obtain ⟨e2, e3, e4, e5, e6⟩ := (EntsAt_get hents).2 i p p8
              rw [p3] at e3; cases e3
              have hpsh : isAggA p.1 = aggT P K := by
                have : ∀ (es : List (AVal × AVal × Nat)) (i0 i : Nat) (r : AVal × Nat) , findA ks (aggT P K) (rho k) es i0 = some (some (i, r)) → ∀ p, es[i - i0]? = some p → i0 ≤ i → isAggA p.1 = aggT P K := by
                  intro es
                  induction es with
                  | nil => intro i0 i r h; simp [findA] at h
                  | cons q qs ih =>
                    intro i0 i r h p hp hle
                    grind [findA, aggT]
                exact this es 0 i (v0, born) hfind p (by simpa using p8) (Nat.zero_le _)
              obtain ⟨vs', y1, y2⟩ := asVar_of (P := P) (K := K) e4 hpsh
              have hstay := keyStays (P := P) (w := w) hk3 hk4 y1 y2 p9
              have hei : ents[i]? = some e := by rw [← Array.getElem?_toList]; exact p3
              have hrun : (Instr.mapEntry T (a.eval m) (a.eval k)).run P w = .ok (.tuple #[u', .int .i64 born]) { w with heap := w.heap.setIfInBounds kk (.map (ents.modify i fun e => { e with key := a.eval k }) clock) } := by
                simp [Instr.mapEntry, run_underlying hu, hv, hg, hck, hfk, hei, hstay, hset, goInt, p5]
              refine place _ _ _ _ _ ?_ ?_ hrun
              · refine EntsAt_of ?_ ?_
                · simpa using (EntsAt_get hents).1
                · intro i' p' e' h1 h2
                  have hl := (EntsAt_get hents).1
                  simp only [Array.toList_modify] at h2
                  rw [List.getElem?_modify] at h2
                  rw [List.getElem?_set] at h1
                  by_cases hii : i = i'
                  · subst hii
                    grind
                  · have := (EntsAt_get hents).2 i'
                    grind
              · grind [R, RL]
          · rename_i b0 z0 hself hfind hz0
            simp [Rd.run] at h; subst h
            have hlen : vs.length = ks.length := by rw [(RL_get _ _ hk3).1]; exact (eqCells_len hself).1
            have hck : ∀ em, (Instr.checkKey em 10000 K (a.eval k)).run P w = .ok () w := fun em => checkKey_flat em 9991 9 K ks hk1 hlen hk4
            obtain ⟨r', q1, q2⟩ := run_findAsking hk1 hk3 hk4 es ents.toList 0 _ hents hfind
            have hfk := run_findKey s2 q1
            obtain ⟨zv, z1, z2⟩ := zeroA_some (g := g) (w := w) hz0
            match r', q2 with
            | none, _ =>
              have hrun : (Instr.mapEntry T (a.eval m) (a.eval k)).run P w = .ok (.tuple #[zv, .int .i64 clock]) { w with heap := w.heap.setIfInBounds kk (.map (ents.push { key := a.eval k, val := zv, born := clock }) (clock + 1)) } := by
                simp [Instr.mapEntry, run_underlying hu, hv, hg, hck, hfk, hset, z1, goInt]
              refine place _ _ _ _ _ ?_ ?_ hrun
              · grind [EntsAt_of, EntsAt_get]
              · grind [R, RL]
          · simp [Rd.run] at h
      · simp [Rd.run] at h
    · simp [Rd.run] at h
  · simp [Rd.run] at h

theorem stampIn_some {n : Int} : ∀ {es : List (AVal × AVal × Nat)} {l : List MapEntry} {i0 i : Nat} {k : AVal} {born : Nat}, EntsAt g w es l → stampIn n es i0 = some (i, k, born) →
    i0 ≤ i ∧ l.findIdx? (fun e => (e.born : Int) == n) = some (i - i0) ∧ ∃ e v, l[i - i0]? = some e ∧ es[i - i0]? = some (k, v, born) ∧ R g w k e.key ∧ e.born = born
  | [], _, _, _, _, _, _, h => by cases h
  | q :: qs, l, i0, i, k, born, he, h => by
    simp only [EntsAt] at he
    obtain ⟨e, l', rfl, h1, h2, h3, h4⟩ := he
    simp only [stampIn] at h
    split at h
    · rename_i hc
      simp only [Option.some.injEq, Prod.mk.injEq] at h
      obtain ⟨rfl, rfl, rfl⟩ := h
      refine ⟨Nat.le_refl _, ?_, ?_⟩
      · simp [List.findIdx?_cons, h3, hc]
      · exact ⟨e, q.2.1, by simp, by simp, h1, h3⟩
    · rename_i hc
      obtain ⟨g1, g2, e', v', g3, g4, g5, g6⟩ := stampIn_some h4 h
      have hs : i - i0 = (i - (i0 + 1)) + 1 := by omega
      refine ⟨by omega, ?_, e', v', ?_, ?_, g5, g6⟩
      · rw [List.findIdx?_cons]
        have : ((e.born : Int) == n) = false := by simpa [h3] using hc
        rw [this, g2, hs]
        simp
      · rw [hs]; simpa using g3
      · rw [hs]; simpa using g4

theorem findIdx_toList {α : Type} (p : α → Bool) (l : Array α) : l.findIdx? p = l.toList.findIdx? p := by
  cases l
  simp

theorem ran_entryStore {T : Nat} {m s x : Operand} {eff : Eff} (hi : Inv g H w) (hρ : ∀ x, R g w (rho x) (a.eval x)) (ho : o.op = .entryStore T m s x) (h : (entryStoreA (rho m) (rho s) (rho x)).run H = some eff) : Ran P a o g H w eff := by
  unfold entryStoreA at h
  obtain ⟨mm, hm, h⟩ := bind_some h
  split at h
  · rename_i b clock es
    rcases mapOf_some hi (hρ m) hm with ⟨hn, _⟩ | ⟨b', clock', es', kk, ents, he, hx, hb, hv, hrk, hheap, hents⟩
    · cases hn
    · simp at he
      obtain ⟨rfl, rfl, rfl⟩ := he
      have hkl : kk < w.heap.size := (Array.getElem?_eq_some_iff.1 hheap).1
      have hg : (getObj kk).run P w = .ok (.map ents clock) w := by simp [getObj, Sem.run, hheap]
      have hset : ∀ ob, (setObj kk ob).run P w = .ok () { w with heap := w.heap.setIfInBounds kk ob } := by intro ob; simp [setObj, Sem.run, hheap]
      split at h
      · rename_i n hst
        have hs := hρ s
        rw [hst] at hs
        have hs := R_sc hs
        split at h
        · rename_i i k born hfind
          simp [Rd.run] at h; subst h
          obtain ⟨g1, g2, e, v, g3, g4, g5, g6⟩ := stampIn_some hents hfind
          simp only [Nat.sub_zero] at g2 g3 g4
          have hfi : ents.findIdx? (fun e => (e.born : Int) == n) = some i := by rw [findIdx_toList]; exact g2
          have hrun : (Instr.entryStore T (a.eval m) (a.eval s) (a.eval x)).run P w = .ok () { w with heap := w.heap.setIfInBounds kk (.map (ents.modify i fun e => { e with val := a.eval x }) clock) } := by
            simp [Instr.entryStore, hv, hg, hs, asInt, asIntOf, hfi, hset]
          have hE : EntsAt g w (es.set i (k, rho x, born)) (ents.modify i fun e => { e with val := a.eval x }).toList := by
            refine EntsAt_of ?_ ?_
            · simpa using (EntsAt_get hents).1
            · intro i' p' e' h1 h2
              have hl := (EntsAt_get hents).1
              have hxx := hρ x
              simp only [Array.toList_modify] at h2
              rw [List.getElem?_modify] at h2
              rw [List.getElem?_set] at h1
              by_cases hii : i = i'
              · subst hii
                grind
              · have := (EntsAt_get hents).2 i'
                grind
          obtain ⟨p1, p2⟩ := hi.inplace (w' := { w with heap := w.heap.setIfInBounds kk (.map (ents.modify i fun e => { e with val := a.eval x }) clock) }) (y := .map clock (es.set i (k, rho x, born))) hb rfl hrk rfl (fun j hj => Array.getElem?_setIfInBounds_ne (Ne.symm hj)) (by simp) (shape?_setObj hheap) rfl ⟨rfl, Nat.le_of_eq rfl⟩ rfl
            fun hext => ⟨kk, _, hrk, setObj_heap w kk _ hkl, EntsAt_mono hext _ _ hE⟩
          have hexec : (execOp a.eval o).run P w = .ok .skip { w with heap := w.heap.setIfInBounds kk (.map (ents.modify i fun e => { e with val := a.eval x }) clock) } := by simp [execOp, ho, hrun]
          exact ⟨undef, _, g, .inr ⟨hexec, rfl⟩, by rw [apply_one]; exact p1, by simp [nothing, R, undef], by rw [apply_one]; exact p2⟩
        · simp [Rd.run] at h
      · simp [Rd.run] at h
  · simp [Rd.run] at h

theorem mapNilConst_some {y : Operand} (h : mapNilConst y = true) : y = .const (.map none) := by
  grind [mapNilConst]

theorem equalIn_map_nil (n : Nat) {T K E : Nat} {m : Option Nat} (hu : P.underlying T = some (.map K E)) : (Op.equalIn (n + 1) T (.map m) (.map none)).run P w = .ok m.isNone w := by
  cases m <;> simp only [Op.equalIn, Sem.run_bind, run_underlying hu, Result.andThen_ok, Sem.run_pure, Option.isNone]

theorem ran_nilEqM {op : BinOp} {T yT : Nat} {x : Operand} {v : AVal} (hi : Inv g H w) (hρ : ∀ x, R g w (rho x) (a.eval x)) (ho : o.op = .binOp op T x (.const (.map none)) yT) (h : nilEqMA P op T (rho x) = some v) : Ran P a o g H w { val := v } := by
  have hx := hρ x
  have e0 : a.eval (.const (.map none)) = .map none := rfl
  unfold nilEqMA at h
  split at h
  · rename_i K E hu
    have key : ∀ b, (match rho x with | .mp _ => some false | .sc (.map none) => some true | _ => none) = some b → ∃ mm : Option Nat, a.eval x = .map mm ∧ mm.isNone = b := by
      intro b hb
      split at hb
      · rename_i e
        rw [e] at hx; simp only [R] at hx
        grind
      · rename_i e
        rw [e] at hx
        have := R_sc hx
        grind
      · cases hb
    have hq : ∀ mm : Option Nat, (Op.equalIn 10000 T (.map mm) (.map none)).run P w = .ok mm.isNone w := fun mm => equalIn_map_nil 9999 hu
    have hgd : ∀ mm : Option Nat, op = .eql ∨ op = .neq → (eqGuard op T x (.const (.map none)) (.map mm) (.map none)).run P w = .ok () w := by
      intro mm hop
      rcases hop with rfl | rfl <;> cases x <;> rfl
    split at h
    · rename_i b hb
      simp only [Option.some.injEq] at h
      subst h
      obtain ⟨mm, hv, rfl⟩ := key b hb
      refine Ran.pure hi (v := .bool mm.isNone) ?_ (by simp [R])
      simp only [execOp, ho, e0, hv, Sem.run_bind, hgd mm (.inl rfl), Result.andThen_ok, binOp, Op.equal, Op.maxDepth, hq, Sem.run_pure]
    · rename_i b hb
      simp only [Option.some.injEq] at h
      subst h
      obtain ⟨mm, hv, rfl⟩ := key b hb
      refine Ran.pure hi (v := .bool !mm.isNone) ?_ (by simp [R])
      simp only [execOp, ho, e0, hv, Sem.run_bind, hgd mm (.inr rfl), Result.andThen_ok, binOp, Op.equal, Op.maxDepth, hq, Sem.run_pure]
    · cases h
  · cases h

theorem ptrNilConst_some {y : Operand} (h : ptrNilConst y = true) : y = .const (.pointer none) := by
  grind [ptrNilConst]

theorem equalIn_ptr_nil (n : Nat) {T E : Nat} {m : Option Addr} (hu : P.underlying T = some (.pointer E)) : (Op.equalIn (n + 1) T (.pointer m) (.pointer none)).run P w = .ok m.isNone w := by
  cases m <;> simp only [Op.equalIn, Sem.run_bind, run_underlying hu, Result.andThen_ok, Sem.run_pure, Option.isNone]

theorem ran_nilEqP {op : BinOp} {T yT : Nat} {x : Operand} {v : AVal} (hi : Inv g H w) (hρ : ∀ x, R g w (rho x) (a.eval x)) (ho : o.op = .binOp op T x (.const (.pointer none)) yT) (h : nilEqPA P op T (rho x) = some v) : Ran P a o g H w { val := v } := by
  have hx := hρ x
  have e0 : a.eval (.const (.pointer none)) = .pointer none := rfl
  unfold nilEqPA at h
  split at h
  · rename_i E hu
    have key : ∀ b, (match rho x with | .ptr _ _ _ _ | .cptr _ _ | .glob _ _ => some false | .sc (.pointer none) => some true | _ => none) = some b → ∃ mm : Option Addr, a.eval x = .pointer mm ∧ mm.isNone = b := by
      intro b hb
      split at hb
      · rename_i e
        rw [e] at hx; simp only [R] at hx
        grind
      · rename_i e
        rw [e] at hx; simp only [R] at hx
        grind
      · rename_i e
        rw [e] at hx; simp only [R] at hx
        grind
      · rename_i e
        rw [e] at hx
        have := R_sc hx
        grind
      · cases hb
    have hq : ∀ mm : Option Addr, (Op.equalIn 10000 T (.pointer mm) (.pointer none)).run P w = .ok mm.isNone w := fun mm => equalIn_ptr_nil 9999 hu
    have hgd : ∀ mm : Option Addr, op = .eql ∨ op = .neq → (eqGuard op T x (.const (.pointer none)) (.pointer mm) (.pointer none)).run P w = .ok () w := by
      intro mm hop
      rcases hop with rfl | rfl <;> cases x <;> rfl
    split at h
    · rename_i b hb
      simp only [Option.some.injEq] at h
      subst h
      obtain ⟨mm, hv, rfl⟩ := key b hb
      refine Ran.pure hi (v := .bool mm.isNone) ?_ (by simp [R])
      simp only [execOp, ho, e0, hv, Sem.run_bind, hgd mm (.inl rfl), Result.andThen_ok, binOp, Op.equal, Op.maxDepth, hq, Sem.run_pure]
    · rename_i b hb
      simp only [Option.some.injEq] at h
      subst h
      obtain ⟨mm, hv, rfl⟩ := key b hb
      refine Ran.pure hi (v := .bool !mm.isNone) ?_ (by simp [R])
      simp only [execOp, ho, e0, hv, Sem.run_bind, hgd mm (.inr rfl), Result.andThen_ok, binOp, Op.equal, Op.maxDepth, hq, Sem.run_pure]
    · cases h
  · cases h

end
end Go.AM
