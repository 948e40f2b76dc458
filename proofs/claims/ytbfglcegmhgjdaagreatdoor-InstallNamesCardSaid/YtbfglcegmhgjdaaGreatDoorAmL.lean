/- Every operation but a call of a function does what the abstract machine's does. No program. -/
import Derived.Test.YtbfglcegmhgjdaaGreatDoorAmJ
import Derived.Test.YtbfglcegmhgjdaaGreatDoorAmKn
namespace Go.AM

section
set_option linter.unusedSectionVars false
variable [Globs] {P : Program} {a : Act} {o : Oper} {g : Gh} {H : List ABlk} {w : World} {rho : Operand → AVal}

theorem equalIn_iface_nil (n : Nat) {T t : Nat} {y : Value} {ms : Array (String × TypeId)} (hu : P.underlying T = some (.interface ms)) : (Op.equalIn (n + 1) T (.iface t y) .nilIface).run P w = .ok false w := by
  simp only [Op.equalIn, Sem.run_bind, run_underlying hu, Result.andThen_ok, Sem.run_pure]

theorem equalIn_nil_nil (n : Nat) {T : Nat} {ms : Array (String × TypeId)} (hu : P.underlying T = some (.interface ms)) : (Op.equalIn (n + 1) T .nilIface .nilIface).run P w = .ok true w := by
  simp only [Op.equalIn, Sem.run_bind, run_underlying hu, Result.andThen_ok, Sem.run_pure]

theorem run_eq_of {op : BinOp} {T : Nat} {x y : Value} {b : Bool} (h : (Op.equalIn 10000 T x y).run P w = .ok b w) (hx : (∃ t u, x = .iface t u) ∨ x = .nilIface) (hy : y = .nilIface) :
    (op = .eql → (binOp op T x y).run P w = .ok (.bool b) w) ∧ (op = .neq → (binOp op T x y).run P w = .ok (.bool !b) w) := by
  subst hy
  refine ⟨?_, ?_⟩ <;> rintro rfl <;> rcases hx with ⟨t, u, rfl⟩ | rfl <;> simp only [binOp, Op.equal, Op.maxDepth, Sem.run_bind, h, Result.andThen_ok, Sem.run_pure]

theorem eqGuard_const {op : BinOp} {T : Nat} {x : Operand} {u : Value} (hu : (∃ t y, u = .iface t y) ∨ u = .nilIface) : (eqGuard op T x (.const .nilIface) u .nilIface).run P w = .ok () w := by
  rcases hu with ⟨t, y, rfl⟩ | rfl
  · cases op <;> rfl
  · cases op <;> cases x <;> rfl

theorem ran_nilEq {op : BinOp} {T yT : Nat} {x : Operand} {v : AVal} (hi : Inv g H w) (hρ : ∀ x, R g w (rho x) (a.eval x)) (ho : o.op = .binOp op T x (.const .nilIface) yT) (h : nilEqA P op T (rho x) = some v) : Ran P a o g H w { val := v } := by
  have hx := hρ x
  have fin : ∀ (b : Bool), ((∃ t y, a.eval x = .iface t y) ∨ a.eval x = .nilIface) → (binOp op T (a.eval x) .nilIface).run P w = .ok (.bool b) w → Ran P a o g H w { val := .sc (.bool b) } := by
    intro b hu hr
    refine Ran.pure hi (v := .bool b) ?_ (by simp [R])
    have e : a.eval (.const .nilIface) = .nilIface := rfl
    simp only [execOp, ho, e, Sem.run_bind, eqGuard_const hu, Result.andThen_ok, hr, Sem.run_pure]
  unfold nilEqA at h
  split at h
  · rename_i ms hu
    split at h <;> simp at h
    all_goals (rename_i e; subst h)
    · rw [e] at hx; simp only [R] at hx; obtain ⟨y, hx, _⟩ := hx
      exact fin false (.inl ⟨_, _, hx⟩) (by grind [run_eq_of, equalIn_iface_nil])
    · rw [e] at hx; simp only [R] at hx; obtain ⟨y, hx, _⟩ := hx
      exact fin true (.inl ⟨_, _, hx⟩) (by grind [run_eq_of, equalIn_iface_nil])
    · grind [R_sc, run_eq_of, equalIn_nil_nil]
    grind [R_sc, run_eq_of, equalIn_nil_nil]
  · cases h

theorem nilSl_some {x : AVal} {v : Value} {b : Bool} (h : nilSl x = some b) (hr : R g w x v) : ∃ a n c, v = .slice a n c ∧ a.isNone = b := by
  unfold nilSl at h
  grind [R_sc, R]

theorem nilConst_some {y : Operand} (h : nilConst y = true) : y = .const (.slice none 0 0) := by
  grind [nilConst]

theorem equalIn_slice_nil (n : Nat) {T e : Nat} {a' : Option Addr} {m c : Nat} (hu : P.underlying T = some (.slice e)) : (Op.equalIn (n + 1) T (.slice a' m c) (.slice none 0 0)).run P w = .ok a'.isNone w := by
  cases a' <;> simp only [Op.equalIn, Sem.run_bind, run_underlying hu, Result.andThen_ok, Sem.run_pure, Option.isNone]

theorem run_eqS_of {op : BinOp} {T : Nat} {a' : Option Addr} {m c : Nat} {b : Bool} (h : (Op.equalIn 10000 T (.slice a' m c) (.slice none 0 0)).run P w = .ok b w) :
    (op = .eql → (binOp op T (.slice a' m c) (.slice none 0 0)).run P w = .ok (.bool b) w) ∧ (op = .neq → (binOp op T (.slice a' m c) (.slice none 0 0)).run P w = .ok (.bool !b) w) := by
  refine ⟨?_, ?_⟩ <;> rintro rfl <;> simp only [binOp, Op.equal, Op.maxDepth, Sem.run_bind, h, Result.andThen_ok, Sem.run_pure]

theorem eqGuardS {op : BinOp} {T : Nat} {x : Operand} {a' : Option Addr} {m c : Nat} (hop : op = .eql ∨ op = .neq) : (eqGuard op T x (.const (.slice none 0 0)) (.slice a' m c) (.slice none 0 0)).run P w = .ok () w := by
  rcases hop with rfl | rfl <;> cases x <;> rfl

theorem ran_nilEqS {op : BinOp} {T yT : Nat} {x : Operand} {v : AVal} (hi : Inv g H w) (hρ : ∀ x, R g w (rho x) (a.eval x)) (ho : o.op = .binOp op T x (.const (.slice none 0 0)) yT) (h : nilEqSA P op T (rho x) = some v) : Ran P a o g H w { val := v } := by
  have hx := hρ x
  have e0 : a.eval (.const (.slice none 0 0)) = .slice none 0 0 := rfl
  unfold nilEqSA at h
  split at h
  · rename_i e hu
    split at h
    · rename_i b hb
      simp only [Option.some.injEq] at h
      subst h
      obtain ⟨a', n, c, hv, rfl⟩ := nilSl_some hb hx
      refine Ran.pure hi (v := .bool a'.isNone) ?_ (by simp [R])
      simp only [execOp, ho, e0, hv, Sem.run_bind, eqGuardS (.inl rfl), Result.andThen_ok, (run_eqS_of (equalIn_slice_nil 9999 hu)).1 rfl, Sem.run_pure]
    · rename_i b hb
      simp only [Option.some.injEq] at h
      subst h
      obtain ⟨a', n, c, hv, rfl⟩ := nilSl_some hb hx
      refine Ran.pure hi (v := .bool !a'.isNone) ?_ (by simp [R])
      simp only [execOp, ho, e0, hv, Sem.run_bind, eqGuardS (.inr rfl), Result.andThen_ok, (run_eqS_of (equalIn_slice_nil 9999 hu)).2 rfl, Sem.run_pure]
    · cases h
  · cases h

theorem ran_typeAssert {x : Operand} {xT T : Nat} {ok : Bool} {v : AVal} (hi : Inv g H w) (hρ : ∀ x, R g w (rho x) (a.eval x)) (ho : o.op = .typeAssert x xT T ok) (h : typeAssertA P T ok (rho x) = some v) : Ran P a o g H w { val := v } := by
  have hx := hρ x
  have ni : ∀ {d}, P.underlying T = some d → (∀ ms, d ≠ .interface ms) → True := fun _ _ => trivial
  unfold typeAssertA at h
  split at h
  · cases h
  · cases h
  · rename_i d hd hu
    have hz : ∀ {z}, zeroA P T = some z → ∃ y, (zeroValue T).run P w = .ok y w ∧ R g w z y := fun hz => zeroA_some hz
    split at h
    · rename_i t u e
      rw [e] at hx; simp only [R] at hx; obtain ⟨y, hx, hr⟩ := hx
      split at h
      · rename_i ht
        subst ht
        cases ok
        · simp at h; subst h
          exact Ran.pure hi (v := y) (by cases d <;> simp [execOp, ho, hx, Instr.typeAssert, run_underlying hu] <;> simp_all) hr
        · simp at h; subst h
          refine Ran.pure hi (v := .tuple #[y, .bool true]) (by cases d <;> simp [execOp, ho, hx, Instr.typeAssert, run_underlying hu] <;> simp_all) ?_
          grind [R, RL]
      · rename_i ht
        cases ok
        · simp at h
        · simp at h
          obtain ⟨z, hz1, rfl⟩ := h
          obtain ⟨zv, z1, z2⟩ := hz hz1
          refine Ran.pure hi (v := .tuple #[zv, .bool false]) (by cases d <;> simp [execOp, ho, hx, Instr.typeAssert, run_underlying hu, ht, z1] <;> simp_all) ?_
          grind [R, RL]
    · rename_i e
      rw [e] at hx; have hx := R_sc hx
      cases ok
      · simp at h
      · simp at h
        obtain ⟨z, hz1, rfl⟩ := h
        obtain ⟨zv, z1, z2⟩ := hz hz1
        refine Ran.pure hi (v := .tuple #[zv, .bool false]) (by cases d <;> simp [execOp, ho, hx, Instr.typeAssert, run_underlying hu, z1] <;> simp_all) ?_
        grind [R, RL]
    · cases h

theorem opA_ran {nid : Nat} {eff : Eff} (hi : Inv g H w) (hρ : ∀ x, R g w (rho x) (a.eval x)) (hn : allocs o.op = true → H[nid]? = some .unborn) (h : (opA P nid rho o.op).run H = some eff) : Ran P a o g H w eff := by
  cases ho : o.op
  case move x => simp [ho, opA, Rd.run] at h; subst h; exact ran_move hi hρ (.inl ho)
  case assign x => simp [ho, opA, Rd.run] at h; subst h; exact ran_move hi hρ (.inr ho)
  case pick c x y =>
    simp only [ho, opA] at h
    split at h
    · rename_i t hc
      simp [Rd.run] at h; subst h
      exact ran_pick hi hρ ho hc
    · simp [Rd.run] at h
  case alloc T =>
    grind [opA, Rd.run, ran_alloc0, ran_alloc, allocs, optEff_some]
  case box T x => simp only [ho, opA] at h; exact ran_boxOp hi hρ (hn (by simp [ho, allocs])) ho (optEff_some h)
  case build T parts => simp only [ho, opA] at h; obtain ⟨v, hv, rfl⟩ := yields_some h; exact ran_build hi hρ ho hv
  case buildSlice T len parts => simp only [ho, opA] at h; exact ran_buildSlice hi hρ (hn (by simp [ho, allocs])) ho (optEff_some h)
  case load T x => simp only [ho, opA] at h; exact ran_load hi hρ ho h
  case store T x y => simp only [ho, opA] at h; exact ran_store hi hρ ho h
  case nilCheck x =>
    simp only [ho, opA] at h
    split at h <;> simp [Rd.run] at h
    · rename_i e; subst h; rw [← e]; exact ran_nilCheck hi hρ ho rfl (.inl ⟨_, _, _, _, e⟩)
    · rename_i e; subst h; rw [← e]; exact ran_nilCheck hi hρ ho rfl (.inr (.inl ⟨_, _, e⟩))
    · rename_i e; subst h; rw [← e]; exact ran_nilCheck hi hρ ho rfl (.inr (.inr (.inl ⟨_, _, e⟩)))
    · rename_i e; subst h; rw [← e]; exact ran_nilCheck hi hρ ho rfl (.inr (.inr (.inr ⟨_, _, _, e⟩)))
  case binOp op T x y yT =>
    by_cases hc : y = .const .nilIface
    · subst hc
      simp only [ho, opA] at h
      obtain ⟨v, hv, rfl⟩ := yields_some h
      exact ran_nilEq hi hρ ho hv
    · have : opA P nid rho o.op = if ptrNilConst y then yields (nilEqPA P op T (rho x)) else if mapNilConst y then yields (nilEqMA P op T (rho x)) else if nilConst y then yields (nilEqSA P op T (rho x)) else yields (binA P op T (rho x) (rho y)) := by
        rw [ho]
        cases y with
        | const v => cases v <;> first | rfl | exact absurd rfl hc
        | _ => rfl
      rw [this] at h
      split at h
      · rename_i hn
        obtain ⟨v, hv, rfl⟩ := yields_some h
        exact ran_nilEqP hi hρ (ptrNilConst_some hn ▸ ho) hv
      split at h
      · rename_i hn
        obtain ⟨v, hv, rfl⟩ := yields_some h
        exact ran_nilEqM hi hρ (mapNilConst_some hn ▸ ho) hv
      split at h
      · rename_i hn
        obtain ⟨v, hv, rfl⟩ := yields_some h
        exact ran_nilEqS hi hρ (nilConst_some hn ▸ ho) hv
      · obtain ⟨v, hv, rfl⟩ := yields_some h
        exact ran_binOp hi hρ ho hv
  case typeAssert x xT T ok =>
    simp only [ho, opA] at h; obtain ⟨v, hv, rfl⟩ := yields_some h; exact ran_typeAssert hi hρ ho hv
  case unOp op T x => simp only [ho, opA] at h; obtain ⟨v, hv, rfl⟩ := yields_some h; exact ran_unOp hi hρ ho hv
  case convert s d x =>
    simp only [ho, opA] at h
    split at h
    · rename_i hb
      obtain ⟨rows, h1, h2⟩ := bind_some h
      split at h2
      · rename_i xs hx
        simp [Rd.run] at h2; subst h2
        exact ran_convStr hi hρ ho hb h1 hx
      · simp [Rd.run] at h2
    · obtain ⟨v, hv, rfl⟩ := yields_some h; exact ran_convert hi hρ ho hv
  case makeInterface T x =>
    simp only [ho, opA] at h
    split at h <;> simp [Rd.run] at h
    rename_i hn1 hu
    subst h
    exact ran_makeInterface hi hρ ho (by simp [hu]) (fun ms hm => by grind)
  case makeFunc f x y => grind [opA, Rd.run, ran_makeFunc]
  case makeMap T r =>
    cases r with
    | none =>
      simp only [ho, opA] at h
      split at h <;> simp [Rd.run] at h
      rename_i K E hu
      subst h
      exact ran_makeMap hi hρ (hn (by simp [ho, allocs])) ho ⟨K, E, hu⟩ (by simp)
    | some x =>
      simp only [ho, opA] at h
      split at h <;> simp [Rd.run] at h
      rename_i K E q n hu hq
      subst h
      exact ran_makeMap hi hρ (hn (by simp [ho, allocs])) ho ⟨K, E, hu⟩ (by grind)
  case makeSlice T l c => simp only [ho, opA] at h; exact ran_makeSlice hi hρ (hn (by simp [ho, allocs])) ho (optEff_some h)
  case slice T x lo hi' mx =>
    cases mx with
    | none => grind [opA, yields_some, ran_slice]
    | some m => grind [opA, yields_some, ran_slice3]
  case sliceToArrayPointer T x => simp only [ho, opA] at h; obtain ⟨v, hv, rfl⟩ := yields_some h; exact ran_array hi hρ ho hv
  case fieldAddr T x f =>
    simp only [ho, opA] at h
    split at h
    · rename_i fd hf
      split at h
      · rename_i n hs
        obtain ⟨v, hv, rfl⟩ := yields_some h
        exact ran_fieldAddr hi hρ ho hf hs hv
      · simp [Rd.run] at h
    · simp [Rd.run] at h
  case field T x f =>
    simp only [ho, opA] at h
    split at h
    · rename_i fd cs hf hx
      obtain ⟨v, hv, rfl⟩ := yields_some h
      exact ran_field hi hρ ho hf hx hv
    · simp [Rd.run] at h
  case indexAddr T x ix =>
    simp only [ho, opA] at h
    split at h
    · rename_i q n hn'
      obtain ⟨v, hv, rfl⟩ := yields_some h
      exact ran_indexAddr hi hρ ho hn' hv
    · simp [Rd.run] at h
  case index T x ix =>
    simp only [ho, opA] at h
    split at h
    · rename_i q n hn'
      obtain ⟨v, hv, rfl⟩ := yields_some h
      exact ran_index hi hρ ho hn' hv
    · simp [Rd.run] at h
  case lookup T x k ok => simp only [ho, opA] at h; exact ran_lookup hi hρ ho h
  case mapUpdate T m k x => simp only [ho, opA] at h; exact ran_mapUpdate hi hρ (.inl ho) h
  case insert T m k x => simp only [ho, opA] at h; exact ran_mapUpdate hi hρ (.inr ho) h
  case range T x => simp only [ho, opA] at h; exact ran_rangeMap hi hρ (hn (by simp [ho, allocs])) ho h
  case next it st =>
    cases st
    · simp only [ho, opA] at h; exact ran_next hi hρ ho h
    · simp [ho, opA, Rd.run] at h
  case mapEntry T m k => simp only [ho, opA] at h; exact ran_mapEntry hi hρ ho h
  case entryStore T m s x => simp only [ho, opA] at h; exact ran_entryStore hi hρ ho h
  case entry x => simp only [ho, opA] at h; exact ran_entry hi hρ ho h
  case extract x i =>
    simp only [ho, opA] at h
    split at h
    · rename_i cs hx
      obtain ⟨v, hv, rfl⟩ := yields_some h
      exact ran_extract hi hρ ho hx hv
    · simp [Rd.run] at h
  case call c =>
    obtain ⟨ce, args, ats⟩ := c
    cases ce with
    | value f => simp [ho, opA, Rd.run] at h
    | invoke r m => simp [ho, opA, Rd.run] at h
    | builtin b =>
      cases b
      case len =>
        simp only [ho, opA] at h
        split at h
        · rename_i T x h0 h1
          split at h
          · rename_i K E q hu
            exact ran_lenMap hi hρ ho h0 h1 hu h
          · rename_i n hu hl
            split at h <;> simp [Rd.run] at h
            rename_i hs
            subst h
            exact ran_len hi hρ ho h0 h1 hl (.inl ⟨hu, _, hs⟩)
          · rename_i e n hu hl
            split at h <;> simp [Rd.run] at h
            rename_i hs
            subst h
            refine ran_len hi hρ ho h0 h1 hl (.inr ⟨⟨e, hu⟩, fun s hx => ?_⟩)
            exact hs s hx
          · simp [Rd.run] at h
        · simp [Rd.run] at h
      case append =>
        simp only [ho, opA] at h
        split at h
        · rename_i ST XT s x h0 h1 h2 h3
          split at h
          · rename_i hsz
            exact ran_append hi hρ (hn (by simp [ho, allocs])) ho h0 h1 h2 h3 hsz h
          · simp [Rd.run] at h
        · simp [Rd.run] at h
      case copy =>
        simp only [ho, opA] at h
        split at h
        · rename_i DT d x h0 h1 h2
          exact ran_copy hi hρ ho h0 h1 h2 h
        · simp [Rd.run] at h
      case clear =>
        simp only [ho, opA] at h
        split at h
        · rename_i T x h0 h1
          split at h
          · exact ran_clear hi hρ ho h0 h1 h
          · simp [Rd.run] at h
        · simp [Rd.run] at h
      case min =>
        simp only [ho, opA] at h
        split at h
        · rename_i x y h0 h1
          split at h
          · rename_i hsz
            obtain ⟨v, hv, rfl⟩ := yields_some h
            exact ran_min hi hρ ho h0 h1 hsz hv
          · simp [Rd.run] at h
        · simp [Rd.run] at h
      all_goals (simp [ho, opA, Rd.run] at h)
  all_goals (simp [ho, opA, Rd.run] at h)

end
end Go.AM
