/- Operations that touch no memory do what the abstract machine's do. No program. -/
import Derived.Test.YtbfglcegmhgjdaaGreatDoorAmE
namespace Go.AM

section
set_option linter.unusedSectionVars false
variable [Globs] {P : Program} {a : Act} {o : Oper} {g : Gh} {H : List ABlk} {w : World} {rho : Operand → AVal}

theorem R_sc {v x : Value} (h : R g w (.sc v) x) : x = v := by simpa [R] using h

theorem run_intOp {op : BinOp} {k : IntKind} {x y : Int} {v : AVal} {T : Nat} (h : intOp op k x y = some v) : ∃ u, v = .sc u ∧ (binOp op T (.int k x) (.int k y)).run P w = .ok u w := by
  unfold intOp at h
  cases op <;> simp only at h
  case quo => split at h <;> simp at h; subst h; rename_i h0; exact ⟨_, rfl, by simp [binOp, Op.intDiv, h0]⟩
  case rem => split at h <;> simp at h; subst h; rename_i h0; exact ⟨_, rfl, by simp [binOp, Op.intDiv, h0]⟩
  all_goals (try simp at h)
  all_goals (try (subst h; refine ⟨_, rfl, ?_⟩; simp [binOp, Op.intArith, Op.intBits, Op.intCmp]))

theorem run_strOp {op : BinOp} {x y : ByteArray} {v : AVal} {T : Nat} (h : strOp op x y = some v) : ∃ u, v = .sc u ∧ (binOp op T (.string x) (.string y)).run P w = .ok u w := by
  unfold strOp at h
  cases op <;> simp only at h
  case add =>
    split at h <;> simp at h
    rename_i hle
    subst h
    refine ⟨_, rfl, ?_⟩
    simp only [binOp, Op.stringOp]
    rw [if_neg (by simp [IntKind.max, IntKind.bits, IntKind.signed]; omega)]
    rfl
  all_goals (try simp at h)
  all_goals (try (subst h; refine ⟨_, rfl, ?_⟩; simp [binOp, Op.stringOp]))

theorem eqGuard_plain {op : BinOp} {T : Nat} {x y : Operand} {u v : Value} (h : (∀ cs, u ≠ .agg cs) ∧ u ≠ .nilIface) : (eqGuard op T x y u v).run P w = .ok () w := by
  cases op <;> cases u <;> first | exact absurd rfl h.2 | exact absurd rfl (h.1 _) | rfl | (cases v <;> rfl)

theorem ran_binOp {op : BinOp} {T yT : Nat} {x y : Operand} {v : AVal} (hi : Inv g H w) (hρ : ∀ x, R g w (rho x) (a.eval x)) (ho : o.op = .binOp op T x y yT) (h : binA P op T (rho x) (rho y) = some v) : Ran P a o g H w { val := v } := by
  have hx := hρ x
  have hy := hρ y
  have fin : ∀ {u : Value}, v = .sc u → (eqGuard op T x y (a.eval x) (a.eval y)).run P w = .ok () w → (binOp op T (a.eval x) (a.eval y)).run P w = .ok u w → Ran P a o g H w { val := v } := by
    intro u hv h1 h2
    subst hv
    refine Ran.pure hi ?_ (by simp [R] : R g w (.sc u) u)
    simp [execOp, ho, h1, h2]
  unfold binA at h
  split at h
  · rename_i k p k' q e1 e2
    rw [e1] at hx; rw [e2] at hy
    have hx := R_sc hx; have hy := R_sc hy
    have hg : (eqGuard op T x y (a.eval x) (a.eval y)).run P w = .ok () w := by rw [hx]; exact eqGuard_plain ⟨by simp, by simp⟩
    split at h
    · split at h <;> simp at h
      subst h
      exact fin rfl hg (by rw [hx, hy]; simp [binOp, Op.shift, *])
    · split at h <;> simp at h
      subst h
      exact fin rfl hg (by rw [hx, hy]; simp [binOp, Op.shift, *])
    · split at h
      · rename_i hk
        subst hk
        obtain ⟨u, h1, h2⟩ := run_intOp (T := T) (P := P) (w := w) h
        grind
      · cases h
  · rename_i p q e1 e2
    rw [e1] at hx; rw [e2] at hy
    have hx := R_sc hx; have hy := R_sc hy
    obtain ⟨u, h1, h2⟩ := run_strOp (T := T) (P := P) (w := w) h
    grind [eqGuard_plain]
  · rename_i p q e1 e2
    rw [e1] at hx; rw [e2] at hy
    have hx := R_sc hx; have hy := R_sc hy
    have hg : (eqGuard op T x y (a.eval x) (a.eval y)).run P w = .ok () w := by rw [hx]; exact eqGuard_plain ⟨by simp, by simp⟩
    have e := run_equalIn_bool' (P := P) w 9999 T p q
    split at h <;> simp at h
    all_goals
      subst h
      rename_i hu
      exact fin rfl hg (by rw [hx, hy]; simp [binOp, Op.equal, Op.maxDepth, e hu])
  · rename_i xs ys e1 e2
    rw [e1] at hx; rw [e2] at hy
    simp only [R] at hx hy
    obtain ⟨vs, hx, _, hl⟩ := hx
    obtain ⟨us, hy, _, hl'⟩ := hy
    split at h
    · cases h
    · rename_i hgt
      split at h
      · rename_i ks hks
        obtain ⟨s1, s2, s3⟩ := kindsOf_size hks
        have key : ∀ {b}, eqCells ks xs ys = some b → (Op.equalIn 10000 T (.agg vs.toArray) (.agg us.toArray)).run P w = .ok b w := by
          intro b hb
          have ha : aggT P T = true := by simp at hgt; exact hgt.2
          exact flat_equal (g := g) 9991 9 T ks hks hl hl' hb (by simp [AsVar, ha]) (by simp [AsVar, ha])
        have hg : (eqGuard op T x y (a.eval x) (a.eval y)).run P w = .ok () w := by
          rw [hx, hy]; exact run_eqGuard_agg w op T x y _ _ (by simp at hgt; exact hgt.1)
        split at h <;> simp at h
        · rename_i hb
          subst h
          exact fin rfl hg (by rw [hx, hy, run_eql_struct, key hb]; rfl)
        · rename_i hb
          subst h
          exact fin rfl hg (by rw [hx, hy, run_neq_struct, key hb]; rfl)
      · cases h
  · cases h

theorem ran_unOp {op : UnOp} {T : Nat} {x : Operand} {v : AVal} (hi : Inv g H w) (hρ : ∀ x, R g w (rho x) (a.eval x)) (ho : o.op = .unOp op T x) (h : unA op (rho x) = some v) : Ran P a o g H w { val := v } := by
  have hx := hρ x
  unfold unA at h
  split at h
  · rename_i b e
    rw [e] at hx; have hx := R_sc hx
    split at h <;> simp at h
    subst h
    exact Ran.pure hi (v := .bool !b) (by simp [execOp, ho, hx, Op.unary]) (by simp [R])
  · rename_i k n e
    rw [e] at hx; have hx := R_sc hx
    split at h
    · simp at h; subst h
      exact Ran.pure hi (v := .int k (k.wrap (0 - n))) (by simp [execOp, ho, hx, Op.unary, Op.intArith]) (by simp [R])
    · simp [intOp] at h; subst h
      exact Ran.pure hi (v := _) (by simp only [execOp, ho, hx, Op.unary, Op.intBits]; rfl) (by simp [R])
    · cases h
  · cases h

theorem ran_convert {s d : Nat} {x : Operand} {v : AVal} (hi : Inv g H w) (hρ : ∀ x, R g w (rho x) (a.eval x)) (ho : o.op = .convert s d x) (h : convA P s d (rho x) = some v) : Ran P a o g H w { val := v } := by
  have hx := hρ x
  unfold convA at h
  split at h
  · rename_i k n e
    rw [e] at hx; have hx := R_sc hx
    split at h <;> simp at h
    rename_i q k' hs hd
    subst h
    exact Ran.pure hi (v := .int k' (k'.wrap n)) (by simp [execOp, ho, hx, convert, run_underlying hs, run_underlying hd, Conv.intToInt]) (by simp [R])
  · rename_i t e
    rw [e] at hx; have hx := R_sc hx
    split at h <;> simp at h
    rename_i hs hd
    subst h
    exact Ran.pure hi (v := .string t) (by simp [execOp, ho, hx, convert, run_underlying hs, run_underlying hd]) (by simp [R])
  · cases h

theorem ran_makeInterface {T : Nat} {x : Operand} (hi : Inv g H w) (hρ : ∀ x, R g w (rho x) (a.eval x)) (ho : o.op = .makeInterface T x) (hu : (P.underlying T).isSome) (hn : ∀ ms, P.underlying T ≠ some (.interface ms)) : Ran P a o g H w { val := .ifc T (rho x) } := by
  obtain ⟨d, hd⟩ := Option.isSome_iff_exists.1 hu
  refine Ran.pure hi (v := .iface T (a.eval x)) ?_ (by grind [R])
  simp only [execOp, ho, Instr.makeInterface, Sem.run_bind, run_underlying hd, Result.andThen_ok]
  simp_all

theorem RL_map (hρ : ∀ x, R g w (rho x) (a.eval x)) : ∀ (l : List Operand), RL g w (l.map rho) (l.map a.eval)
  | [] => by simp [RL]
  | x :: l => by simp only [List.map_cons, RL]; exact ⟨_, _, rfl, hρ x, RL_map hρ l⟩

theorem ran_makeFunc {f : Fn} {x y : Array Operand} (hi : Inv g H w) (hρ : ∀ x, R g w (rho x) (a.eval x)) (ho : o.op = .makeFunc f x y) : Ran P a o g H w { val := .fn f (x.toList.map rho) (y.toList.map rho) } := by
  refine Ran.pure hi (v := .func f (x.map a.eval) (y.map a.eval)) (by simp [execOp, ho, Instr.makeFunc]) ?_
  simp only [R]
  exact ⟨(x.map a.eval).toList, (y.map a.eval).toList, by simp only [Array.toArray_toList], by simpa using RL_map hρ x.toList, by simpa using RL_map hρ y.toList⟩

theorem ran_nilCheck {x : Operand} {v : AVal} (hi : Inv g H w) (hρ : ∀ x, R g w (rho x) (a.eval x)) (ho : o.op = .nilCheck x) (h : rho x = v) (hv : (∃ b ver i o, v = .ptr b ver i o) ∨ (∃ cs o, v = .cptr cs o) ∨ (∃ i o, v = .glob i o) ∨ (∃ f p q, v = .fn (.func f) p q)) : Ran P a o g H w { val := v } := by
  have hx := hρ x
  rw [h] at hx
  refine Ran.pure hi (v := a.eval x) ?_ hx
  rcases hv with ⟨b, ver, i, o', rfl⟩ | ⟨cs, o', rfl⟩ | ⟨i, o', rfl⟩ | ⟨f, p, q, rfl⟩ <;> simp only [R] at hx
  · obtain ⟨_, _, _, e⟩ := hx; simp [execOp, ho, e]
  · obtain ⟨_, _, e, _⟩ := hx; simp [execOp, ho, e]
  · simp [execOp, ho, hx]
  · obtain ⟨_, _, e, _⟩ := hx; simp [execOp, ho, e]

theorem ran_extract {x : Operand} {i : Nat} {cs : List AVal} {v : AVal} (hi : Inv g H w) (hρ : ∀ x, R g w (rho x) (a.eval x)) (ho : o.op = .extract x i) (he : rho x = .tup cs) (h : cs[i]? = some v) : Ran P a o g H w { val := v } := by
  have hx := hρ x
  rw [he] at hx; simp only [R] at hx
  obtain ⟨vs, e, hl⟩ := hx
  obtain ⟨u, hu, hr⟩ := (RL_get _ _ hl).2 i v h
  exact Ran.pure hi (v := u) (by simp [execOp, ho, e, Instr.extract, hu]) hr

theorem fieldOf_some {T f : Nat} {fd : Field} (h : fieldOf P T f = some fd) : ∃ fs, P.underlying T = some (.struct fs) ∧ fs[f]? = some fd := by
  grind [fieldOf]

theorem R_offset {x : AVal} {v : Value} {n : Nat} {y : AVal} (hx : R g w x v) (h : offsetA n x = some y) : ∃ k o, v = .pointer (some ⟨k, o, none⟩) ∧ R g w y (.pointer (some ⟨k, o + n, none⟩)) := by
  unfold offsetA at h
  grind [R]

theorem ran_fieldAddr {T f n : Nat} {x : Operand} {fd : Field} {y : AVal} (hi : Inv g H w) (hρ : ∀ x, R g w (rho x) (a.eval x)) (ho : o.op = .fieldAddr T x f) (hf : fieldOf P T f = some fd) (hs : sizeT P fd.type = some (n + 1)) (h : offsetA fd.offset (rho x) = some y) : Ran P a o g H w { val := y } := by
  obtain ⟨fs, hu, hfs⟩ := fieldOf_some hf
  obtain ⟨k, p, e, hr⟩ := R_offset (hρ x) h
  refine Ran.pure hi (v := _) ?_ hr
  simp [execOp, ho, Instr.fieldAt, run_underlying hu, hfs, e, Instr.sureAddr, fieldPlace, sizeT_some hs, add_addr]

theorem ran_field {T f : Nat} {x : Operand} {fd : Field} {cs : List AVal} {y : AVal} (hi : Inv g H w) (hρ : ∀ x, R g w (rho x) (a.eval x)) (ho : o.op = .field T x f) (hf : fieldOf P T f = some fd) (he : rho x = .agg cs) (h : loadIn P fd.type cs fd.offset = some y) : Ran P a o g H w { val := y } := by
  obtain ⟨fs, hu, hfs⟩ := fieldOf_some hf
  have hx := hρ x
  rw [he] at hx; simp only [R] at hx
  obtain ⟨vs, e, h1, hl⟩ := hx
  obtain ⟨v, r1, r2⟩ := run_part (P := P) (w := w) h hl h1
  refine Ran.pure hi (v := v) ?_ r2
  simp [execOp, ho, Instr.field, run_underlying hu, hfs, e, asAgg, r1]

theorem RR_get {k sz : Nat} : ∀ {rows : List (List AVal)} {off i : Nat} {r : List AVal}, RR g w rows k off sz → rows[i]? = some r → r.length = sz ∧ AVal.pureL r = true ∧ RC g w r k (off + i * sz)
  | [], _, _, _, _, h => by simp at h
  | q :: qs, off, 0, r, h, hr => by
    grind [RR]
  | q :: qs, off, i + 1, r, h, hr => by
    simp only [RR] at h
    have := RR_get h.2 (by simpa using hr : qs[i]? = some r)
    grind

theorem pureL_mem : ∀ {l : List AVal}, AVal.pureL l = true ↔ ∀ x ∈ l, x.pure = true
  | [] => by simp [AVal.pureL]
  | a :: as => by simp [AVal.pureL, pureL_mem (l := as)]

theorem RC_get {k : Nat} : ∀ {l : List AVal} {o : Nat}, RC g w l k o → ∀ (i : Nat) (x : AVal), l[i]? = some x → g.st k (o + i) ∧ ∃ y, w.cell? ⟨k, o + i, none⟩ = some y ∧ y.oneCell' = true ∧ R g w x y
  | [], _, _, _, _, h => by simp at h
  | a :: as, o, h, 0, x, hx => by
    grind [RC]
  | a :: as, o, h, i + 1, x, hx => by
    simp only [RC] at h
    have := RC_get h.2 i x (by simpa using hx)
    grind

theorem RC_of' {k : Nat} : ∀ {l : List AVal} {o : Nat}, (∀ (i : Nat) (x : AVal), l[i]? = some x → g.st k (o + i) ∧ ∃ y, w.cell? ⟨k, o + i, none⟩ = some y ∧ y.oneCell' = true ∧ R g w x y) → RC g w l k o
  | [], _, _ => by simp [RC]
  | a :: as, o, h => by
    simp only [RC]
    refine ⟨by simpa using h 0 a (by simp), RC_of' fun i x hx => ?_⟩
    have := h (i + 1) x (by simpa using hx)
    grind

theorem RC_sub {k o p n : Nat} {l : List AVal} (h : RC g w l k o) : RC g w ((l.drop p).take n) k (o + p) :=
  RC_of' fun i x hx => by
    rw [List.getElem?_take] at hx
    split at hx
    · rw [List.getElem?_drop] at hx
      have := RC_get h _ x hx
      rwa [← Nat.add_assoc] at this
    · cases hx

theorem pureL_sub {l : List AVal} {p n : Nat} (h : AVal.pureL l = true) : AVal.pureL ((l.drop p).take n) = true :=
  pureL_mem.2 fun x hx => pureL_mem.1 h x (List.mem_of_mem_drop (List.mem_of_mem_take hx))

theorem chunks_length (sz : Nat) : ∀ (n : Nat) (cs : List AVal), (chunks sz n cs).length = n
  | 0, _ => rfl
  | n + 1, cs => by simp [chunks, chunks_length sz n]

theorem chunks_flat (sz : Nat) : ∀ (n : Nat) (cs : List AVal), cs.length = n * sz → (∀ r ∈ chunks sz n cs, r.length = sz) ∧ (chunks sz n cs).flatten = cs
  | 0, cs, h => by grind [chunks]
  | n + 1, cs, h => by
    rw [Nat.add_mul, Nat.one_mul] at h
    obtain ⟨h1, h2⟩ := chunks_flat sz n (cs.drop sz) (by simp; omega)
    refine ⟨?_, ?_⟩
    · grind [chunks]
    · simp [chunks, h2]

theorem RR_chunks {k s : Nat} : ∀ (n : Nat) {l : List AVal} {o : Nat}, l.length = n * s → AVal.pureL l = true → RC g w l k o → RR g w (chunks s n l) k o s
  | 0, _, _, _, _, _ => by simp [chunks, RR]
  | n + 1, l, o, hl, hp, h => by
    rw [Nat.add_mul, Nat.one_mul] at hl
    simp only [chunks, RR]
    refine ⟨⟨by simp; omega, ?_, ?_⟩, RR_chunks n (by simp; omega) ?_ ?_⟩
    · have := pureL_sub (p := 0) (n := s) hp; simpa using this
    · have := RC_sub (p := 0) (n := s) h; simpa using this
    · grind [pureL_mem]
    · have := RC_sub (p := s) (n := l.length) h
      rwa [List.take_of_length_le (by simp)] at this

theorem ran_indexAddr {T : Nat} {x ix : Operand} {q : IntKind} {n : Int} {y : AVal} (hi : Inv g H w) (hρ : ∀ x, R g w (rho x) (a.eval x)) (ho : o.op = .indexAddr T x ix) (hn : rho ix = .sc (.int q n)) (h : indexAddrA P T (rho x) n = some y) : Ran P a o g H w { val := y } := by
  have hx := hρ x
  have hix := hρ ix
  rw [hn] at hix
  have hix := R_sc hix
  unfold indexAddrA at h
  split at h
  · rename_i e rows hu e1
    split at h
    · rename_i hn0
      obtain ⟨r, hr, h⟩ := Option.bind_eq_some_iff.1 h
      split at h <;> simp at h
      rename_i hsz
      subst h
      rw [e1] at hx; simp only [R] at hx
      obtain ⟨ad, cap, ex, _, hc⟩ := hx
      have hlt : n.toNat < rows.length := (List.getElem?_eq_some_iff.1 hr).1
      rcases hc with h0 | ⟨k, off, sz, rfl, hrr⟩
      · omega
      · obtain ⟨r1, r2, r3⟩ := RR_get hrr hr
        have hs2 := sizeT_some (w := w) hsz
        refine Ran.pure hi (v := .pointer (some ⟨k, off + n.toNat * sz, none⟩)) ?_ (by grind [R])
        have hin : 0 ≤ n ∧ n < (rows.length : Int) := ⟨hn0, by omega⟩
        simp [execOp, ho, Instr.indexAt, hix, asIntOf, run_underlying hu, ex, hin, hs2, add_addr, r1]
    · cases h
  · rename_i e b ver sz ob m hu e1
    split at h <;> simp at h
    rename_i hc
    obtain ⟨hc1, hc2, hc3⟩ := hc
    subst h
    rw [e1] at hx; simp only [R] at hx
    rcases hx with ⟨rfl, _⟩ | ⟨k, cap, e', s, hk, ex, hsh, hcap, hm, _⟩
    · omega
    have hs2 := sizeT_some (w := w) hc3
    refine Ran.pure hi (v := .pointer (some ⟨k, ob * sz + n.toNat * sz, none⟩)) ?_ (by grind [R])
    have hin : 0 ≤ n ∧ n < (m : Int) := ⟨hc1, hc2⟩
    simp [execOp, ho, Instr.indexAt, hix, asIntOf, run_underlying hu, ex, hin, hs2, add_addr]
  · rename_i e b ver jr ob sz m hu e1
    split at h <;> simp at h
    rename_i hc
    obtain ⟨hc1, hc2, hc3⟩ := hc
    subst h
    rw [e1] at hx; simp only [R] at hx
    obtain ⟨k, szr, cap, hk, ex, hm⟩ := hx
    have hs2 := sizeT_some (w := w) hc3
    refine Ran.pure hi (v := .pointer (some ⟨k, jr * szr + ob + n.toNat * sz, none⟩)) ?_ (by grind [R])
    have hin : 0 ≤ n ∧ n < (m : Int) := ⟨hc1, hc2⟩
    simp [execOp, ho, Instr.indexAt, hix, asIntOf, run_underlying hu, ex, hin, hs2, add_addr]
  · rename_i m e z hu
    split at h
    · rename_i hc
      obtain ⟨s, hs, h⟩ := Option.bind_eq_some_iff.1 h
      obtain ⟨k, p, ex, hr⟩ := R_offset hx h
      have hs2 := sizeT_some (w := w) hs
      refine Ran.pure hi (v := _) ?_ hr
      simp [execOp, ho, Instr.indexAt, hix, asIntOf, run_underlying hu, ex, Instr.sureAddr, hc, hs2, add_addr]
    · cases h
  · rename_i e rows hu e1
    split at h
    · rename_i hn0
      obtain ⟨r, hr, h⟩ := Option.bind_eq_some_iff.1 h
      split at h <;> simp at h
      rename_i hsz
      subst h
      rw [e1] at hx; have hx := tls_lst hx; simp only [R] at hx
      obtain ⟨ad, cap, ex, _, hc⟩ := hx
      have hlt : n.toNat < rows.length := (List.getElem?_eq_some_iff.1 hr).1
      rcases hc with h0 | ⟨k, off, sz, rfl, hrr⟩
      · omega
      · obtain ⟨r1, r2, r3⟩ := RR_get hrr hr
        have hs2 := sizeT_some (w := w) hsz
        refine Ran.pure hi (v := .pointer (some ⟨k, off + n.toNat * sz, none⟩)) ?_ (by grind [R])
        have hin : 0 ≤ n ∧ n < (rows.length : Int) := ⟨hn0, by omega⟩
        simp [execOp, ho, Instr.indexAt, hix, asIntOf, run_underlying hu, ex, hin, hs2, add_addr, r1]
    · cases h
  · cases h

theorem ran_index {T : Nat} {x ix : Operand} {q : IntKind} {n : Int} {y : AVal} (hi : Inv g H w) (hρ : ∀ x, R g w (rho x) (a.eval x)) (ho : o.op = .index T x ix) (hn : rho ix = .sc (.int q n)) (h : indexA P T (rho x) n = some y) : Ran P a o g H w { val := y } := by
  have hx := hρ x
  have hix := hρ ix
  rw [hn] at hix
  have hix := R_sc hix
  unfold indexA at h
  split at h
  · rename_i m e cs hu e1
    split at h
    · rename_i hc
      obtain ⟨s, hs, h⟩ := Option.bind_eq_some_iff.1 h
      rw [e1] at hx; simp only [R] at hx
      obtain ⟨vs, ex, h1, hl⟩ := hx
      obtain ⟨v, r1, r2⟩ := run_part (P := P) (w := w) h hl h1
      have hs2 := sizeT_some (w := w) hs
      refine Ran.pure hi (v := v) ?_ r2
      simp [execOp, ho, Instr.index, hix, asIntOf, run_underlying hu, ex, hc, hs2, r1]
    · cases h
  · rename_i s hu e1
    split at h
    · rename_i hn0
      obtain ⟨b, hb, rfl⟩ := Option.map_eq_some_iff.1 h
      rw [e1] at hx; have hx := R_sc hx
      refine Ran.pure hi (v := .int .u8 b.toNat) ?_ (by simp [R])
      simp [execOp, ho, Instr.index, hix, asIntOf, run_underlying hu, hx, hn0, hb]
    · cases h
  · cases h

theorem boundA_some {d m n : Nat} {x : Option AVal} {v : Option Value} {c : BoundsCode} (hv : match x, v with | none, none => True | some p, some q => R g w p q | _, _ => False) (h : boundA d m x = some n) :
    (match v with | some v => Instr.sliceBound v m c | none => (pure d : Sem Nat)).run P w = .ok n w ∧ (x ≠ none → n ≤ m) ∧ (x = none → n = d) := by
  unfold boundA at h
  split at h
  · simp at h; subst h
    cases v with
    | none => simp
    | some v => simp at hv
  · rename_i k i
    split at h <;> simp at h
    rename_i hc
    subst h
    cases v with
    | none => simp at hv
    | some v =>
      simp only at hv
      have hv := R_sc hv
      subst hv
      simp [Instr.sliceBound, asIntOf, hc]
  · cases h

theorem lenA_some {x : AVal} {n : Nat} {v : Value} (h : lenA x = some n) (hr : R g w x v) : (∃ a cap, v = .slice a n cap ∧ n ≤ cap + n ∧ (∀ s, x ≠ .sc (.string s))) ∨ (∃ s, x = .sc (.string s) ∧ v = .string s ∧ s.size = n) := by
  unfold lenA at h
  grind [R, R_sc]

theorem ran_min {args : Array Operand} {ats : Array TypeId} {x y : Operand} {v : AVal} (hi : Inv g H w) (hρ : ∀ x, R g w (rho x) (a.eval x)) (ho : o.op = .call { callee := .builtin .min, args := args, argTypes := ats }) (h0 : args[0]? = some x) (h1 : args[1]? = some y) (hsz : args.size = 2)
    (h : minA (rho x) (rho y) = some v) : Ran P a o g H w { val := v } := by
  unfold minA at h
  split at h
  · rename_i k p k' q hx hy
    simp only [Option.some.injEq] at h
    subst h
    have hx' := hρ x
    have hy' := hρ y
    rw [hx] at hx'; rw [hy] at hy'
    have hx' := R_sc hx'
    have hy' := R_sc hy'
    have hl : args.toList = [x, y] := by
      obtain ⟨l⟩ := args
      simp at h0 h1 hsz
      match l, hsz with
      | [u, t], _ => simp at h0 h1; subst h0; subst h1; rfl
    refine Ran.pure hi (v := .int k (if q < p then q else p)) ?_ (by simp [R])
    simp [execOp, ho, resolve, invoke, builtin, Builtin.min_, Builtin.min2, hl, hx', hy']
  · cases h

theorem ran_len {args : Array Operand} {ats : Array TypeId} {T n : Nat} {x : Operand} (hi : Inv g H w) (hρ : ∀ x, R g w (rho x) (a.eval x)) (ho : o.op = .call { callee := .builtin .len, args := args, argTypes := ats }) (h0 : ats[0]? = some T) (h1 : args[0]? = some x)
    (h : lenA (rho x) = some n) (hu : (P.underlying T = some .string ∧ ∃ s, rho x = .sc (.string s)) ∨ (∃ e, P.underlying T = some (.slice e)) ∧ ∀ s, rho x ≠ .sc (.string s)) : Ran P a o g H w { val := .sc (.int .i64 n) } := by
  refine Ran.pure hi (v := .int .i64 n) ?_ (by simp [R])
  have hmap : (args.map a.eval)[0]? = some (a.eval x) := by simp [h1]
  rcases lenA_some h (hρ x) with ⟨ad, cap, ev, _, hns⟩ | ⟨s, es, ev, hsz⟩
  · rcases hu with ⟨_, s, hs⟩ | ⟨⟨e, hu⟩, _⟩
    · exact absurd hs (hns s)
    · simp [execOp, ho, resolve, invoke, builtin, Builtin.len_, h0, h1, run_underlying hu, ev, goInt]
  · rcases hu with ⟨hu, _⟩ | ⟨_, hn⟩
    · simp [execOp, ho, resolve, invoke, builtin, Builtin.len_, h0, h1, run_underlying hu, ev, hsz, goInt]
    · exact absurd es (hn s)

end
end Go.AM
