/- Regions whose order is open. No program. -/
import Derived.Test.YtbfglcegmhgjdaaGreatDoorAmU
namespace Go.AM

section
set_option linter.unusedSectionVars false
variable [Globs] {P : Program} {cfg : Cfg} {orc : Nat → Orc} {ops : Array Oper} {n0 : Nat}

def bef (ops : Array Oper) (k j : Nat) : Prop := ((CheckFast.beforeF ops).getD j 0).testBit k = true

def RdN (ops : Array Oper) (n0 : Nat) (feet : List Foot) (j : Nat) (l : Loc) : Prop := ∃ o f, ops[j]? = some o ∧ feet[j]? = some f ∧ RdL ops n0 o f l
def WN (ops : Array Oper) (n0 : Nat) (feet : List Foot) (j : Nat) (l : Loc) : Prop := ∃ o f, ops[j]? = some o ∧ feet[j]? = some f ∧ WL n0 o f l

theorem indep_spec {feet : List Foot} (h : indep ops (CheckFast.beforeF ops) feet = true) {i j : Nat} {x y : Foot} (hij : i < j) (hx : feet[i]? = some x) (hy : feet[j]? = some y) (hb : ¬ bef ops i j) :
    x.apart y = true ∧ ∃ oi oj, ops[i]? = some oi ∧ ops[j]? = some oj ∧ Oper.apart ops oi oj = true := by
  unfold indep at h
  rw [List.all_eq_true] at h
  have h1 := h (y, j) (List.mem_of_getElem? (i := j) (by rw [List.getElem?_zipIdx, hy]; simp))
  simp only [List.all_eq_true] at h1
  have h2 := h1 (x, i) (List.mem_of_getElem? (i := i) (by rw [List.getElem?_zipIdx, hx]; simp))
  simp only [hij, decide_true, Bool.not_true, Bool.false_or, Bool.or_eq_true, Bool.and_eq_true] at h2
  rcases h2 with h2 | ⟨h2, h3⟩
  · exact absurd h2 hb
  grind

theorem indep_ind {feet : List Foot} (h : indep ops (CheckFast.beforeF ops) feet = true) : ∀ i j, i < j → j < feet.length → ¬ bef ops i j → ∀ l,
    ¬ (WN ops n0 feet i l ∧ RdN ops n0 feet j l) ∧ ¬ (WN ops n0 feet i l ∧ WN ops n0 feet j l) ∧ ¬ (RdN ops n0 feet i l ∧ WN ops n0 feet j l) := by
  intro i j hij hj hb l
  obtain ⟨h1, oi, oj, h2, h3, h4⟩ := indep_spec h hij (List.getElem?_eq_getElem (by omega)) (List.getElem?_eq_getElem hj) hb
  obtain ⟨a1, a2, a3⟩ := Oper.apart_spec h4
  simp only [Foot.apart, Bool.and_eq_true, List.all_eq_true, Bool.not_eq_true', List.contains_eq_mem, decide_eq_false_iff_not] at h1
  have hw : ∀ k l, WN ops n0 feet k l → ∀ o f, ops[k]? = some o → feet[k]? = some f → WL n0 o f l := by
    rintro k l ⟨o', f', q1, q2, q3⟩ o f e1 e2
    rw [e1] at q1; rw [e2] at q2; cases q1; cases q2; exact q3
  have hr : ∀ k l, RdN ops n0 feet k l → ∀ o f, ops[k]? = some o → feet[k]? = some f → RdL ops n0 o f l := by
    rintro k l ⟨o', f', q1, q2, q3⟩ o f e1 e2
    rw [e1] at q1; rw [e2] at q2; cases q1; cases q2; exact q3
  have fi := List.getElem?_eq_getElem (l := feet) (i := i) (by omega)
  have fj := List.getElem?_eq_getElem (l := feet) hj
  refine ⟨fun ⟨q1, q2⟩ => ?_, fun ⟨q1, q2⟩ => ?_, fun ⟨q1, q2⟩ => ?_⟩
  · have w1 := hw _ _ q1 _ _ h2 fi
    have w2 := hr _ _ q2 _ _ h3 fj
    cases l with
    | reg t => exact a1 t w1 w2
    | blk b => exact (h1.1 _ w1).1 w2
    | rest => exact w1.elim
  · have w1 := hw _ _ q1 _ _ h2 fi
    have w2 := hw _ _ q2 _ _ h3 fj
    cases l with
    | reg t => exact a2 t w1 w2
    | blk b => exact (h1.1 _ w1).2 w2
    | rest => exact w1.elim
  · have w1 := hr _ _ q1 _ _ h2 fi
    have w2 := hw _ _ q2 _ _ h3 fj
    cases l with
    | reg t => exact a3 t w2 w1
    | blk b => exact h1.2 _ w2 w1
    | rest => exact w2.elim

theorem drawable_spec (h : drawable ops = true) {j : Nat} {o : Oper} (ho : ops[j]? = some o) : (∀ c, o.op ≠ .defer c) ∧ ∀ e ∈ o.after, Region.binds .any e = true → e.on < j := by
  unfold drawable at h
  rw [List.all_eq_true] at h
  have h1 := h (o, j) (List.mem_of_getElem? (i := j) (by rw [List.getElem?_zipIdx]; simp [ho]))
  grind

theorem ready_some (h : drawable ops = true) {listed : Array Bool} (hsz : listed.size = ops.size) : ∀ j, listed.getD j true = false → Region.ready .any ops listed ≠ [] := by
  intro j
  induction j using Nat.strongRecOn with
  | _ j ih =>
    intro hj
    have hlt : j < listed.size := by
      apply Decidable.byContradiction; intro hc
      simp [Array.getElem?_eq_none (Nat.le_of_not_lt hc)] at hj
    have ho : ops[j]? = some ops[j] := Array.getElem?_eq_getElem (by omega)
    by_cases hall : ∀ e ∈ (ops[j]).after, Region.binds .any e = true → listed.getD e.on false = true
    · intro hn
      have : j ∈ Region.ready .any ops listed := mem_ready.2 ⟨hj, _, ho, hall⟩
      rw [hn] at this; cases this
    grind [drawable_spec]

theorem count_set {listed : Array Bool} {i fuel : Nat} (hi : listed.getD i true = false) (hc : listed.toList.count false = fuel + 1) : (listed.setIfInBounds i true).toList.count false = fuel := by
  have hlt : i < listed.size := by
    apply Decidable.byContradiction; intro hc
    simp [Array.getElem?_eq_none (Nat.le_of_not_lt hc)] at hi
  rw [Array.toList_setIfInBounds, List.count_set (by simpa using hlt), hc]
  simp_all

theorem draw_sound {ro : Option Nat} (hcalm : ∀ (k : Nat) (o : Oper), ops[k]? = some o → Calm ro o) (ho : ∀ k, OrcOk P (orc k)) {Q : Exit → Act → World → Prop} {l : List (Oper × Nat)} {feet : List Foot} {n : Nat} {st : Nat → St} {r : OpRes} {gg : Gh} {ww : World}
    (hl : ∀ (j : Nat), (l[j]?).map (fun (p : Oper × Nat) => p.1) = ops[j]?) (hd : drawable ops = true) (hind : indep ops (CheckFast.beforeF ops) feet = true) (hlen : feet.length = ops.size)
    (hn0 : n0 ≤ (st 0).H.length)
    (htr : ∀ j, j < n → ∃ o nid f, l[j]? = some (o, nid) ∧ feet[j]? = some f ∧ stepOp P cfg (orc j) ops n0 o nid (st j) = some (.ok (st (j + 1)), f))
    (hend : (r = .ok (st n) ∧ n = ops.size) ∨
      (∃ v s' o nid f, r = .pan v { s' with A := ops.toList.foldl (fun A o => putA A o.dst .junk) s'.A } ∧ ops.size = n + 1 ∧ l[n]? = some (o, nid) ∧ feet[n]? = some f ∧ stepOp P cfg (orc n) ops n0 o nid (st n) = some (.pan v s', f) ∧ feet.all (fun f => f.writes.isEmpty) = true))
    (hp : RegPost Q gg (st 0).H ww r) :
    ∀ (fuel : Nat) (listed : Array Bool) (s : St) (g : Gh) (a : Act) (w : World), listed.size = ops.size → listed.toList.count false = fuel → Sim g s a w → Later gg (st 0).H ww g s.H w → n0 ≤ s.H.length →
      Agrees (look n0) st (WN ops n0 feet) s (fun k => listed.getD k false = true) → (∀ k, listed.getD k false = true → k < n) →
      (∀ k o e, listed.getD k false = true → ops[k]? = some o → e ∈ o.after → Region.binds .any e = true → listed.getD e.on false = true) → wpAnyIn (Fr ro) 0 P .any ops Q fuel listed a w := by
  have hnN : n ≤ ops.size := by rcases hend with ⟨_, h⟩ | ⟨_, _, _, _, _, _, h, _⟩ <;> omega
  have hop : ∀ j o nid, l[j]? = some (o, nid) → ops[j]? = some o := fun j o nid h => by
    have := hl j; rw [h] at this; exact this.symm
  have hstn : ∀ j, j ≤ n → n0 ≤ (st j).H.length := by
    intro j
    induction j with
    | zero => intro _; exact hn0
    | succ j ih =>
      intro hj
      obtain ⟨o, nid, f, h1, h2, h3⟩ := htr j (by omega)
      exact (step_local (ih (by omega)) (ih (by omega)) (drawable_spec hd (hop _ _ _ h1)).1 h3 fun _ _ => rfl).1
  have frame : ∀ j, j < n → ∀ l, ¬ WN ops n0 feet j l → look n0 (st (j + 1)) l = look n0 (st j) l := by
    intro j hj lc hw
    obtain ⟨o, nid, f, h1, h2, h3⟩ := htr j hj
    obtain ⟨_, s3, h4, _, _, h5⟩ := step_local (hstn j (by omega)) (hstn j (by omega)) (drawable_spec hd (hop _ _ _ h1)).1 h3 fun _ _ => rfl
    rw [h3] at h4
    simp only [Option.some.injEq, Prod.mk.injEq, OpRes.ok.injEq, and_true] at h4
    rw [h4]
    exact h5 lc fun hc => hw ⟨o, f, hop _ _ _ h1, h2, hc⟩
  have ind := indep_ind (n0 := n0) hind
  rw [hlen] at ind
  intro fuel
  induction fuel with
  | zero =>
    intro listed s g a w hsz hc hs hla hnl hag hDn hdown
    have hall : ∀ j, listed.getD j true = true := by
      intro j
      cases hj : listed.getD j true
      · have hlt : j < listed.size := by
          apply Decidable.byContradiction; intro hc
          simp [Array.getElem?_eq_none (Nat.le_of_not_lt hc)] at hj
        simp only [Array.getD_eq_getD_getElem?, Array.getElem?_eq_getElem hlt, Option.getD_some] at hj
        have hm : false ∈ listed.toList := by rw [← hj]; simp
        grind
      · rfl
    have hD : ∀ j, j < ops.size → listed.getD j false = true := fun j hj => by
      grind
    refine ⟨?_, ?_⟩
    · cases hr : Region.ready .any ops listed with
      | nil => rfl
      | cons j js =>
        have hm : j ∈ Region.ready .any ops listed := by rw [hr]; simp
        have := (mem_ready.1 hm).1
        rw [hall j] at this; cases this
    · rcases hend with ⟨rfl, hn⟩ | ⟨v, s', o, nid, f, rfl, hn, _⟩
      · have he : s = st n := look_ext (n0 := n0) fun lc => agree_uniq hag (agree_prefix frame n (Nat.le_refl _)) fun k hw => by
          grind
        subst he
        exact hp g a w hs hla
      grind
  | succ fuel ih =>
    intro listed s g a w hsz hc hs hla hnl hag hDn hdown
    refine ⟨fun hr => ?_, fun i hi => ?_⟩
    · exfalso
      have hm : false ∈ listed.toList := List.count_pos_iff.1 (by omega)
      obtain ⟨j, hj⟩ := List.getElem?_of_mem hm
      refine ready_some hd hsz j ?_ hr
      simp_all
    · obtain ⟨hun, o, hoi, hed⟩ := mem_ready.1 hi
      have hiN : i < ops.size := (Array.getElem?_eq_some_iff.1 hoi).1
      have hnot : ¬ listed.getD i false = true := by
        have h2 : i < listed.size := by omega
        simp only [Array.getD_eq_getD_getElem?, Array.getElem?_eq_getElem h2, Option.getD_some] at hun ⊢
        simp [hun]
      have hD' : ∀ k, listed.getD k false = true → k < ops.size := fun k hk => by have := hDn k hk; omega
      have hdown' : ∀ k k', listed.getD k false = true → bef ops k' k → listed.getD k' false = true := fun k k' hk hb =>
        before_closed (D := fun k => listed.getD k false = true) (fun k o e hk ho he hb => hdown k o e hk ho he hb) k (fun o' e' ho' he' hb' => hdown k o' e' hk ho' he' hb') hb
      have hready : ∀ k, bef ops k i → listed.getD k false = true := fun k hb =>
        before_closed (D := fun k => listed.getD k false = true) (fun k o e hk ho he hb => hdown k o e hk ho he hb) i (fun o' e' ho' he' hb' => by grind) hb
      by_cases hin : i < n
      · obtain ⟨o', nid, f, h1, h2, h3⟩ := htr i hin
        have heo := hop _ _ _ h1
        rw [hoi] at heo
        cases heo
        have hread : ∀ lc, RdL ops n0 o f lc → look n0 s lc = look n0 (st i) lc := fun lc hrd =>
          agree_read (Rd := RdN ops n0 feet) (bef := bef ops) frame ind hag hD' hdown' (by omega) hiN hnot hready ⟨o, f, hoi, h2, hrd⟩
        obtain ⟨_, s3, h4, h5, h6, h7⟩ := step_local (hstn i (by omega)) hnl (drawable_spec hd hoi).1 h3 hread
        refine step_sound (ho _) hs hoi (hcalm _ _ hoi) h4 fun g' a' w' hs' hla' => ?_
        have hset : ∀ k, (listed.setIfInBounds i true).getD k false = true ↔ (listed.getD k false = true ∨ k = i) := by
          intro k
          by_cases hk : i = k
          · subst hk
            have : i < listed.size := by omega
            simp [this]
          · rw [getD_set_ne false hk]
            grind
        refine ih (listed.setIfInBounds i true) s3 g' a' w' (by simpa using hsz) (count_set hun hc) hs' (hla.trans hla') h5 ?_ ?_ ?_
        · have hst := agree_step (Rd := RdN ops n0 feet) (bef := bef ops) (s' := s3) ind hag hD' hdown' hnot
            (fun lc hw => by
              obtain ⟨o2, f2, q1, q2, q3⟩ := hw
              grind)
            (fun lc hw => h7 lc fun hc => hw ⟨o, f, hoi, h2, hc⟩)
          grind
        · grind
        grind
      · rcases hend with ⟨rfl, hn⟩ | ⟨v, s', o', nid, f, rfl, hn, h1, h2, h3, h8⟩
        · omega
        · have hie : i = n := by omega
          subst hie
          have heo := hop _ _ _ h1
          rw [hoi] at heo
          cases heo
          have hread : ∀ lc, RdL ops n0 o f lc → look n0 s lc = look n0 (st i) lc := fun lc hrd =>
            agree_read (Rd := RdN ops n0 feet) (bef := bef ops) frame ind hag hD' hdown' (Nat.le_refl _) hiN hnot hready ⟨o, f, hoi, h2, hrd⟩
          have hwr : ∀ (k : Nat) (f : Foot), feet[k]? = some f → f.writes = [] := fun k f hk => by
            grind
          obtain ⟨rfl, h4⟩ := step_local_pan (hstn i (Nat.le_refl _)) hnl h3 (hwr i f h2) hread
          refine step_sound (ho _) hs hoi (hcalm _ _ hoi) h4 fun g' w' x hv hs' hla' hr => ?_
          have hsame : ∀ lc, (∀ t, lc ≠ .reg t ∨ ∀ o ∈ ops.toList, o.dst ≠ some t) → look n0 s lc = look n0 (st i) lc := fun lc hlc => by
            refine agree_uniq hag (agree_prefix frame i (Nat.le_refl _)) fun k hw => ?_
            obtain ⟨o2, f2, q1, q2, q3⟩ := hw
            exfalso
            cases lc with
            | reg t =>
              rcases hlc t with h | h
              · exact h rfl
              · exact h o2 (by simpa using Array.mem_of_getElem? q1) q3
            | blk b => grind [WL]
            | rest => exact q3
          have hAl : s.A.length = (st i).A.length ∧ s.D = (st i).D := by
            have := hsame .rest (fun t => .inl (by simp))
            simpa [look] using this
          have hH : s.H = (st i).H := by
            have e1 : ({ s with A := (st i).A } : St) = st i := look_ext (n0 := n0) fun lc => by
              cases lc with
              | reg t => rfl
              | blk b => exact hsame (.blk b) (fun t => .inl (by simp))
              | rest => simp [look, hAl.2]
            have e2 : ({ s with A := (st i).A } : St).H = (st i).H := by rw [e1]
            exact e2
          refine hp g' a w' x hv ⟨?_, ?_, ?_⟩ ?_ hr
          · grind [hs'.inv]
          · show RL g' w' (ops.toList.foldl (fun A o => putA A o.dst .junk) (st i).A) a.tmps.toList
            obtain ⟨r1, r2⟩ := RL_get _ _ hs'.tmps
            refine RL_of _ _ (by rw [junk_len, r1, hAl.1]) fun t b y hb hy => ?_
            rcases junk_get _ _ _ _ hb with rfl | ⟨hb, hno⟩
            · simp [R]
            · have := hsame (.reg t) (fun t' => by
                grind)
              grind [look, LVal.a.injEq]
          · grind [RD, hs'.defs]
          · show Later gg (st 0).H ww g' (st i).H w'
            rw [← hH]; exact hla.trans hla'

/-- A region. -/
theorem region_sound {ro : Option Nat} (hm : P.follows .mixedOrders = true) (ho : ∀ k, OrcOk P (orc k)) {Q : Exit → Act → World → Prop} {id : Nat} {draw : Bool} {s : St} {g : Gh} {a : Act} {w : World} {r : OpRes}
    (hcalm : ∀ (k : Nat) (o : Oper), ops[k]? = some o → Calm ro o) (h : regionI P cfg orc ops draw s = some r) (hs : Sim g s a w) (hp : RegPost Q g s.H w r) : (Code.region id ops draw).wpIn (Fr ro) 0 P Q a w := by
  unfold regionI at h
  simp only [natF_eq, newsF_eq] at h
  generalize (if countAllocs ops.toList = 0 then 0 else tailFree s.H) = t0 at h
  generalize countAllocs ops.toList - t0 = m0 at h
  generalize s.H.length - t0 = f0 at h
  obtain ⟨i1, i2⟩ := hs.inv.reserve m0
  have hs0 : Sim g { s with H := s.H ++ List.replicate m0 .unborn } a w := ⟨i1, hs.tmps, hs.defs⟩
  split at h
  · cases h
  · rename_i r' feet hrun
    cases draw
    · simp only [Bool.not_false, if_true, Option.some.injEq] at h
      subst h
      refine wpIn_region ?_
      rw [List.range_eq_range']
      have := runOps_sound hcalm ho (Q := Q) _ 0 _ g a w r' feet (fun j => by rw [numbered_get]; simp) hrun hs0 (hp.later i2)
      grind [numbered_len]
    · simp only [Bool.not_true, Bool.false_eq_true, if_false] at h
      split at h
      · rename_i hc
        simp only [Bool.and_eq_true, beq_iff_eq] at hc
        obtain ⟨⟨hd, hlen⟩, hind⟩ := hc
        obtain ⟨n, st, h0, h1, h2⟩ := runOps_trace _ _ _ _ _ hrun
        simp only [Nat.zero_add] at h1 h2
        refine wpIn_region_any hm ?_
        have hw' : ∀ (d : Nat), w.drawn ≤ d → Sim g (st 0) a { w with drawn := d } ∧ Later g s.H w g (st 0).H { w with drawn := d } := by
          intro d hd
          obtain ⟨f1, f2⟩ := Inv.frame (w1 := { w with drawn := d }) i1 (fun _ _ => rfl) (Nat.le_refl _) rfl ⟨rfl, hd⟩ rfl
          rw [h0]
          exact ⟨⟨f1, RL_mono f2.ext _ _ hs.tmps, RD_mono f2.ext _ _ hs.defs⟩, i2.trans f2⟩
        obtain ⟨q1, q2⟩ := hw' (w.drawn + 1) (Nat.le_succ _)
        have hfin : (r = .ok (st n) ∧ n = ops.size) ∨
          (∃ v s' o nid f, r = .pan v { s' with A := ops.toList.foldl (fun A o => putA A o.dst .junk) s'.A } ∧ ops.size = n + 1 ∧ (numbered f0 ops.toList)[n]? = some (o, nid) ∧ feet[n]? = some f ∧ stepOp P cfg (orc n) ops (s.H ++ List.replicate m0 ABlk.unborn).length o nid (st n) = some (.pan v s', f) ∧ feet.all (fun f => f.writes.isEmpty) = true) := by
          rcases h2 with ⟨s', rfl, e2, e3, e4⟩ | ⟨v, s', o, nid, f, rfl, e2, e3, e4, e5⟩
          · grind
          · grind
        refine draw_sound (n0 := (s.H ++ List.replicate m0 ABlk.unborn).length) hcalm ho (l := numbered f0 ops.toList) (feet := feet) (n := n) (st := st) (r := r) (gg := g) (ww := { w with drawn := w.drawn + 1 })
          (fun j => by rw [numbered_get]; simp) hd hind hlen (by rw [h0]; exact Nat.le_refl _) h1 hfin (hp.later q2) ops.size _ (st 0) g a _ (by simp) (by simp) q1 (Later.refl _ _ _) (by rw [h0]; exact Nat.le_refl _) ?_ ?_ ?_
        · have : (fun k => (Array.replicate ops.size false).getD k false = true) = fun _ => False := funext fun k => propext (by
            simp only [iff_false]
            by_cases hk : k < ops.size <;> simp [hk])
          rw [this]; exact agree_first
        · intro k hk
          by_cases hk' : k < ops.size <;> simp [hk'] at hk
        · intro k o e hk
          by_cases hk' : k < ops.size <;> simp [hk'] at hk
      · cases h

end
end Go.AM
