/- Making and building slices, copying: as the abstract machine does; and every operation but a call of a function. No program. -/
import Derived.Test.YtbfglcegmhgjdaaGreatDoorAmH
namespace Go.AM

section
set_option linter.unusedSectionVars false
variable [Globs] {P : Program} {a : Act} {o : Oper} {g : Gh} {H : List ABlk} {w : World} {rho : Operand → AVal}

theorem made_get {z : Array Value} {n j k : Nat} (hk : k < z.size) (hj : j * z.size + k < n) : (madeCells z n)[j * z.size + k]? = z[k]? := by
  have hmod : (j * z.size + k) % z.size = k := by
    rw [Nat.mul_comm, Nat.mul_add_mod]; exact Nat.mod_eq_of_lt hk
  simp [madeCells, hj, hmod, hk]

theorem rows_made {z : Array Value} {n l sz : Nat} (hs : z.size = sz) (hl : l * sz ≤ n) (h1 : ∀ y ∈ z.toList, y.oneCell' = true) : RowsAt g w (madeCells z n) sz (List.replicate l (z.toList.map .sc)) 0 := by
  refine RowsAt_of _ _ fun j r hr => ?_
  rw [List.getElem?_replicate] at hr
  split at hr
  · rename_i hj
    simp at hr; subst hr
    refine ⟨by simp [hs], CellsAt_of _ _ fun k x hx => ?_⟩
    rw [List.getElem?_map] at hx
    obtain ⟨y, hy, rfl⟩ := Option.map_eq_some_iff.1 hx
    rw [Array.getElem?_toList] at hy
    have hk : k < z.size := (Array.getElem?_eq_some_iff.1 hy).1
    refine ⟨y, ?_, h1 y (by grind), by simp [R]⟩
    have hb : (j + 1) * sz ≤ l * sz := Nat.mul_le_mul_right sz hj
    grind [made_get]
  · cases hr

theorem ran_makeSlice {nid T : Nat} {l c : Operand} {eff : Eff} (hi : Inv g H w) (hρ : ∀ x, R g w (rho x) (a.eval x)) (hn : H[nid]? = some .unborn) (ho : o.op = .makeSlice T l c) (h : makeSliceA P nid T (rho l) (rho c) = some eff) : Ran P a o g H w eff := by
  have hl := hρ l
  have hc := hρ c
  unfold makeSliceA at h
  split at h
  · rename_i kl nl kc nc e1 e2
    rw [e1] at hl; rw [e2] at hc
    have hl := R_sc hl; have hc := R_sc hc
    split at h
    · rename_i e hu
      split at h
      · rename_i i z hinfo hz
        split at h <;> simp at h
        rename_i hcond
        obtain ⟨c1, c2, c3, c4, c5⟩ := hcond
        subst h
        obtain ⟨i', zv, q1, q2, rfl, q4⟩ := zeroCellsA_some hz
        rw [hinfo] at q1; cases q1
        obtain ⟨r1, r2⟩ := roomy_some c3
        have hsz : zv.cells.size = i.size := by simpa using c4
        have hb : (i.bytes : Int) * nc ≤ 281474976710656 := by
          have hnc : nc = (nc.toNat : Int) := by omega
          rw [hnc]
          have : ((i.bytes * nc.toNat : Nat) : Int) ≤ 281474976710656 := by rw [Nat.mul_comm]; omega
          rwa [Int.natCast_mul] at this
        have hr := run_make (P := P) w T e i zv hu hinfo q2 kl kc nl nc c1 c2 hb (by omega)
        have hle : nl.toNat * i.size ≤ nc.toNat * i.size := Nat.mul_le_mul_right _ (by omega)
        obtain ⟨a1, a2, a3⟩ := hi.alloc (e := e) (c := madeCells zv.cells (nc.toNat * i.size)) (rows := List.replicate nl.toNat (zv.cells.toList.map .sc)) (sz := i.size) hn c5 (rows_made hsz hle q4) (by simp [size_madeCells]; exact hle)
        refine ⟨.slice (some ⟨w.heap.size, 0, none⟩) nl.toNat nc.toNat, w.alloc (.cells (madeCells zv.cells (nc.toNat * i.size)) e), _, .inl (by simp [execOp, ho, hl, hc, hr]), by rw [apply_one]; exact a1, ?_, by rw [apply_one]; exact a2⟩
        simp only [R]
        exact .inr ⟨w.heap.size, nc.toNat, e, nc.toNat * i.size, a3, by simp, by have := shape?_of_alloc w (madeCells zv.cells (nc.toNat * i.size)) e; rw [size_madeCells] at this; exact this, by simp, by omega, by omega⟩
      · cases h
    · cases h
  · cases h

/-- A block that nobody writes. -/
theorem Inv.fixed {H : List ABlk} (hi : Inv g H w) (ob : Obj) : Inv { rho := g.rho, st := fun k o => g.st k o ∨ k = w.heap.size } H (w.alloc ob) ∧ Later g H w { rho := g.rho, st := fun k o => g.st k o ∨ k = w.heap.size } H (w.alloc ob) := by
  have hheap : ∀ j, j < w.heap.size → (w.alloc ob).heap[j]? = w.heap[j]? := fun j hj => RowKit.Below.heap_alloc w _ j hj
  have hext : Ext g w { rho := g.rho, st := fun k o => g.st k o ∨ k = w.heap.size } (w.alloc ob) :=
    ⟨fun _ _ _ h => h, fun _ _ h => .inl h, fun k o hs => cell?_of_heap (hheap k (hi.stold k o hs)) o, fun k x hx => shape?_alloc hx⟩
  refine ⟨⟨fun b x hb => Good_mono hext (hi.good b x hb) (fun v k z h1 h2 => hheap k (hi.lies hb h1 h2)) (fun v _ h => h), hi.inj, hi.fresh, hi.next, ?_, ?_, hi.globs.mono hext⟩, ⟨hext, by simp, fun k hk _ => hheap k hk, fun k _ h => h, Nat.le_refl _, rfl, ⟨rfl, Nat.le_refl _⟩, rfl, fun k o hk h => ?_, fun b hb => ⟨hb, fun _ => rfl⟩, fun b ver k z h => .inl ⟨ver, z, h⟩⟩⟩
  · intro b x v k z o hb hv hk hs
    rcases hs with hs | hs
    · exact hi.free b x v k z o hb hv hk hs
    · have := hi.lies hb hv hk
      omega
  · intro k o hs
    rcases hs with hs | hs
    · have := hi.stold k o hs
      simp; omega
    · subst hs; simp
  · rcases h with h | h
    · exact .inl h
    · omega

theorem RR_of_cells {g' : Gh} {w' : World} {k sz : Nat} {c : Array Value} (hst : ∀ o, g'.st k o) (hcell : ∀ o, w'.cell? ⟨k, o, none⟩ = c[o]?) : ∀ {rows : List (List AVal)} {o : Nat}, RowsAt g' w' c sz rows o → AVal.pureL rows.flatten = true → RR g' w' rows k o sz
  | [], _, _, _ => by simp [RR]
  | r :: rs, o, h, hp => by
    simp only [RowsAt] at h
    obtain ⟨⟨h1, h2⟩, h3⟩ := h
    simp only [List.flatten_cons] at hp
    have hpa : ∀ (l m : List AVal), AVal.pureL (l ++ m) = true → AVal.pureL l = true ∧ AVal.pureL m = true := by
      intro l m
      induction l with
      | nil => intro h; exact ⟨rfl, h⟩
      | cons a as ih =>
        intro h
        simp only [List.cons_append, AVal.pureL, Bool.and_eq_true] at h ⊢
        obtain ⟨i1, i2⟩ := ih h.2
        exact ⟨⟨h.1, i1⟩, i2⟩
    obtain ⟨hp1, hp2⟩ := hpa _ _ hp
    have hrc : ∀ (l : List AVal) (o : Nat), CellsAt g' w' c l o → RC g' w' l k o := by
      intro l
      induction l with
      | nil => intro o _; simp [RC]
      | cons a as ih =>
        intro o h
        simp only [CellsAt] at h
        obtain ⟨⟨y, y1, y2, y3⟩, h4⟩ := h
        simp only [RC]
        exact ⟨⟨hst o, y, by rw [hcell]; exact y1, y2, y3⟩, ih (o + 1) h4⟩
    simp only [RR]
    exact ⟨⟨h1, hp1, hrc r o h2⟩, RR_of_cells hst hcell h3 hp2⟩

theorem ran_buildSlice {nid T len : Nat} {parts : Array (Nat × Operand)} {eff : Eff} (hi : Inv g H w) (hρ : ∀ x, R g w (rho x) (a.eval x)) (hn : H[nid]? = some .unborn) (ho : o.op = .buildSlice T len parts) (h : buildSliceA P nid T len (parts.toList.map fun p => (p.1, rho p.2)) = some eff) : Ran P a o g H w eff := by
  unfold buildSliceA at h
  split at h
  · rename_i e hu
    split at h
    · rename_i s z hs hz
      split at h
      · rename_i hc
        obtain ⟨c1, c2, c3⟩ := hc
        obtain ⟨cs, hf, heff⟩ := Option.map_eq_some_iff.1 h
        obtain ⟨i, zv, q1, q2, rfl, q4⟩ := zeroCellsA_some hz
        have hsz : zv.cells.size = s := by simpa using c2
        have hmade : ((Array.range (len * s)).map (zv.cells[· % zv.cells.size]!)) = madeCells zv.cells (len * s) := rfl
        have hrows : RowsAt g w (madeCells zv.cells (len * s)) s (List.replicate len (zv.cells.toList.map .sc)) 0 := rows_made hsz (Nat.le_refl _) q4
        obtain ⟨fl1, fl2⟩ := RowsAt_flat.1 hrows
        have hflen : (List.replicate len (zv.cells.toList.map AVal.sc)).flatten.length = len * s := by rw [flatten_len fl1]; simp
        obtain ⟨vs, v1, v2, v3, v4⟩ := RL_of_CellsAt fl2
        have hvs : vs = (madeCells zv.cells (len * s)).toList := by
          apply List.ext_getElem?
          intro j
          by_cases hj : j < vs.length
          · grind
          · grind
        obtain ⟨c', f1, f2, f3, f4, f5⟩ := run_fill (c := madeCells zv.cells (len * s)) hρ hf (by rw [← hvs]; exact v3) (by rw [← hvs]; exact v2)
        have hcs : cs.length = len * s := by rw [f5, hflen]
        obtain ⟨g1, g2⟩ := chunks_flat s len cs hcs
        have hc's : c'.size = len * s := by rw [f4, size_madeCells]
        have hcells : CellsAt g w c' (chunks s len cs).flatten 0 := by
          rw [g2]
          exact CellsAt_of_RL f2 f3 fun j _ => by simp
        have hexec : (execOp a.eval o).run P w = .ok (.value (.slice (some ⟨w.heap.size, 0, none⟩) len len)) (w.alloc (.cells c' e)) := by
          have hno : ¬ (16777216 < len * s) := by omega
          by_cases h0 : len * s = 0
          · have hl0 : len = 0 := by
              rcases Nat.mul_eq_zero.1 h0 with h | h
              · exact h
              · omega
            subst hl0
            have hm0 : madeCells zv.cells (0 * s) = #[] := by simp [madeCells, Array.range_zero']
            rw [hm0] at f1
            simp [execOp, ho, Instr.buildSlice, run_underlying hu, sizeT_some hs, newRow]
            rw [show (Array.map (fun _ => (default : Value)) (Array.range 0)) = #[] from by simp [Array.range_zero'], f1]
            simp
          · simp [execOp, ho, Instr.buildSlice, run_underlying hu, sizeT_some hs, hno, h0, zeroValue, typeInfo, q1, q2, newRow]
            rw [hmade, f1]
            simp
        have hrows2 : RowsAt g w c' s (chunks s len cs) 0 := RowsAt_flat.2 ⟨g1, hcells⟩
        have hle : len ≤ len * s := Nat.le_mul_of_pos_right len c1
        split at heff
        · rename_i hlit
          simp only [Bool.and_eq_true, decide_eq_true_eq] at hlit
          subst heff
          obtain ⟨a1, a2⟩ := hi.fixed (.cells c' e)
          refine ⟨_, _, _, .inl hexec, by simpa [Eff.apply] using a1, ?_, by simpa [Eff.apply] using a2⟩
          simp only [R]
          have hcl : (chunks s len cs).length = len := by grind [chunks_length]
          exact ⟨w.heap.size, s, by rw [hcl], RR_of_cells (c := c') (g' := { rho := g.rho, st := fun k o => g.st k o ∨ k = w.heap.size }) (fun o => Or.inr rfl) (fun o => cell?_cells alloc_get) (RowsAt_mono a2.ext _ _ hrows2) (by rw [g2]; exact hlit.2)⟩
        · subst heff
          obtain ⟨a1, a2, a3⟩ := hi.alloc (e := e) (c := c') (rows := chunks s len cs) (sz := s) hn c1 hrows2 (by grind [chunks_length])
          refine ⟨.slice (some ⟨w.heap.size, 0, none⟩) len len, w.alloc (.cells c' e), _, .inl hexec, by rw [apply_one]; exact a1, ?_, by rw [apply_one]; exact a2⟩
          grind [R, shape?_of_alloc]
      · cases h
    · cases h
  · cases h

/-- Rows laid into a block. -/
theorem store_rows {b ver sz ob k : Nat} {rows new : List (List AVal)} {news : List Value} {cur : Array Value} {E : TypeId} (hi : Inv g H w) (hrow : H[b]? = some (.row ver sz rows)) (hk : g.rho b ver = some (k, sz)) (q2 : w.heap[k]? = some (.cells cur E (0, 0)))
    (hle : ob + new.length ≤ rows.length) (hall : ∀ r ∈ new, r.length = sz) (n2 : RL g w new.flatten news) (n3 : ∀ y ∈ news, y.oneCell' = true) :
    ob * sz + news.length ≤ cur.size ∧ Inv g (H.set b (.row ver sz (rows.take ob ++ new ++ rows.drop (ob + new.length)))) (w.setRow k (cur.toList.take (ob * sz) ++ news ++ cur.toList.drop (ob * sz + news.length)).toArray) ∧
    Later g H w g (H.set b (.row ver sz (rows.take ob ++ new ++ rows.drop (ob + new.length)))) (w.setRow k (cur.toList.take (ob * sz) ++ news ++ cur.toList.drop (ob * sz + news.length)).toArray) := by
  obtain ⟨k', cur', E', p1, p2, q3, q4, q5, q6⟩ := hi.row b ver _ _ hrow hk
  rw [hk] at p1; simp at p1; subst p1
  rw [q2] at p2; simp at p2; obtain ⟨rfl, -⟩ := p2
  have n1 : news.length = new.length * sz := by rw [(RL_get _ _ n2).1, flatten_len hall]
  have hbound : (ob + new.length) * sz ≤ rows.length * sz := Nat.mul_le_mul_right _ hle
  rw [Nat.add_mul] at hbound
  rw [n1]
  have hsz' : (cur.toList.take (ob * sz) ++ news ++ cur.toList.drop (ob * sz + new.length * sz)).toArray.size = cur.size := by
    simp; omega
  have hgetnew : ∀ p, (cur.toList.take (ob * sz) ++ news ++ cur.toList.drop (ob * sz + new.length * sz)).toArray[p]? = if ob * sz ≤ p ∧ p < ob * sz + new.length * sz then news[p - ob * sz]? else cur[p]? := by
    intro p
    simp only [List.getElem?_toArray]
    by_cases h1 : p < ob * sz
    · grind
    · by_cases h2 : p < ob * sz + new.length * sz
      · grind
      · rw [if_neg (by omega), List.getElem?_append_right (by simp; omega), List.getElem?_drop]
        grind
  have hrows : RowsAt g w (cur.toList.take (ob * sz) ++ news ++ cur.toList.drop (ob * sz + new.length * sz)).toArray sz (rows.take ob ++ new ++ rows.drop (ob + new.length)) 0 := by
    refine RowsAt_of _ _ fun j r hr => ?_
    have hor : ob ≤ rows.length := by omega
    by_cases h1 : j < ob
    · rw [List.append_assoc, List.getElem?_append_left (by simp; omega), List.getElem?_take, if_pos h1] at hr
      obtain ⟨r1, r2⟩ := RowsAt_get _ _ _ _ q3 hr
      refine ⟨r1, CellsAt_congr _ _ _ (fun p hp => ?_) r2⟩
      rw [r1] at hp
      have : (j + 1) * sz ≤ ob * sz := Nat.mul_le_mul_right _ h1
      grind
    · by_cases h2 : j < ob + new.length
      · rw [List.append_assoc, List.getElem?_append_right (by simp; omega), List.getElem?_append_left (by simp; omega)] at hr
        have e0 : (rows.take ob).length = ob := by simp; omega
        rw [e0] at hr
        have r1 := hall r (List.mem_of_getElem? hr)
        refine ⟨r1, ?_⟩
        have hr' : new[j - ob]? = some r := hr
        refine CellsAt_of _ _ fun p y hy => ?_
        have hp : p < sz := by have := (List.getElem?_eq_some_iff.1 hy).1; omega
        -- the cell is one of the new ones
        have hidx : new.flatten[(j - ob) * sz + p]? = some y := by
          clear hr' hgetnew hsz'
          have : ∀ (l : List (List AVal)) (q : Nat), (∀ r ∈ l, r.length = sz) → l[q]? = some r → l.flatten[q * sz + p]? = some y := by
            intro l
            induction l with
            | nil => intro q _ h; simp at h
            | cons u us ih =>
              intro q hl h
              have hu' := hl u (by simp)
              cases q with
              | zero =>
                grind
              | succ q =>
                grind
          exact this new _ hall hr
        obtain ⟨z, hz1, hz2⟩ := (RL_get _ _ n2).2 _ _ hidx
        have hjm : (j - ob + 1) * sz ≤ new.length * sz := Nat.mul_le_mul_right _ (by omega)
        rw [Nat.add_mul, Nat.one_mul] at hjm
        have hjo : j * sz = ob * sz + (j - ob) * sz := by rw [← Nat.add_mul]; congr 1; omega
        refine ⟨z, ?_, n3 z (List.mem_of_getElem? hz1), hz2⟩
        rw [Nat.zero_add, hgetnew, if_pos (by omega), ← hz1]
        congr 1; omega
      · rw [List.getElem?_append_right (by simp; omega), List.getElem?_drop] at hr
        have e0 : ob + new.length + (j - (rows.take ob ++ new).length) = j := by simp; omega
        rw [e0] at hr
        obtain ⟨r1, r2⟩ := RowsAt_get _ _ _ _ q3 hr
        refine ⟨r1, CellsAt_congr _ _ _ (fun p hp => ?_) r2⟩
        have : (ob + new.length) * sz ≤ j * sz := Nat.mul_le_mul_right _ (by omega)
        grind
  obtain ⟨s1, s2⟩ := hi.store (rows' := rows.take ob ++ new ++ rows.drop (ob + new.length)) hrow hk q2 (setRow_heap w k cur _ E (0, 0) q2) hsz' (fun j hj => setRow_other w k j _ hj) (setRow_size w k _) rfl ⟨rfl, Nat.le_of_eq rfl⟩ rfl hrows (by
    grind)
  exact ⟨by omega, s1, s2⟩

theorem ran_clear {T : Nat} {args : Array Operand} {ats : Array TypeId} {x : Operand} {eff : Eff} (hi : Inv g H w) (hρ : ∀ x, R g w (rho x) (a.eval x))
    (ho : o.op = .call { callee := .builtin .clear, args := args, argTypes := ats }) (h0 : ats[0]? = some T) (hx0 : args[0]? = some x) (h : (clearA P T (rho x)).run H = some eff) : Ran P a o g H w eff := by
  have hexec : ∀ {v w'}, (Builtin.clear_ ats o.type (args.map a.eval)).run P w = .ok v w' → (execOp a.eval o).run P w = .ok (.value v) w' := by
    intro v w' hr
    simp [execOp, ho, resolve, invoke, builtin, hr]
  have hX := hρ x
  unfold clearA at h
  split at h
  · rename_i e hu ex
    simp [Rd.run] at h; subst h
    rw [ex] at hX
    have hX := R_sc hX
    exact Ran.pure hi (hexec (v := .tuple #[]) (by simp [Builtin.clear_, h0, hx0, run_underlying hu, hX])) (by simp [nothing, R])
  · rename_i e hu ex
    simp [Rd.run] at h; subst h
    rw [ex] at hX
    simp only [R] at hX
    obtain ⟨ad, cap, hX, _⟩ := hX
    simp only [List.length_nil] at hX
    refine Ran.pure hi (hexec (v := .tuple #[]) ?_) (by simp [nothing, R])
    cases ad <;> simp [Builtin.clear_, h0, hx0, run_underlying hu, hX]
  · rename_i e b ver sz ob n hu ex
    split at h
    · rename_i z hz
      obtain ⟨⟨sz', rows⟩, h1, h⟩ := bind_some h
      have hrow := rowOf_some h1
      simp only at hrow h
      split at h <;> simp [Rd.run] at h
      rename_i hc
      obtain ⟨rfl, hle, hzl⟩ := hc
      subst h
      obtain ⟨inf, zv, hinf, hzv, rfl, hz1⟩ := zeroCellsA_some hz
      have hzs : zv.cells.size = sz' := by simpa using hzl
      rw [ex] at hX; simp only [R] at hX
      rcases hX with ⟨rfl, evs⟩ | ⟨k, cap, e', s, hk, evs, hsh, hcs, hm, hmax⟩
      · have hrun : (Builtin.clear_ ats o.type (args.map a.eval)).run P w = .ok (.tuple #[]) w := by
          simp [Builtin.clear_, h0, hx0, run_underlying hu, evs]
        have hH : H.set b (.row ver sz' (rows.take ob ++ List.replicate 0 (zv.cells.toList.map AVal.sc) ++ rows.drop (ob + 0))) = H := by
          have : rows.take ob ++ List.replicate 0 (zv.cells.toList.map AVal.sc) ++ rows.drop (ob + 0) = rows := by simp
          rw [this]
          apply List.ext_getElem?
          intro i
          rw [List.getElem?_set]
          split
          · rename_i e; subst e; split <;> simp_all
          · rfl
        refine ⟨_, w, g, .inl (hexec hrun), ?_, by simp [nothing, R], ?_⟩
        · grind [apply_one]
        grind [apply_one, Later.refl]
      obtain ⟨k', cur, E, q1, q2, q3, q4, q5, q6⟩ := hi.row b ver _ _ hrow hk
      rw [hk] at q1; simp at q1; subst q1
      have hone : ∀ y ∈ (madeCells zv.cells (n * zv.cells.size)).toList, y.oneCell' = true := fun y hy => by
        obtain ⟨p, hp⟩ := List.getElem?_of_mem hy
        rw [Array.getElem?_toList] at hp
        have hlt : p < n * zv.cells.size := by have := (Array.getElem?_eq_some_iff.1 hp).1; simpa [size_madeCells] using this
        have hpos : 0 < zv.cells.size := by rw [hzs]; exact q5
        have hmod : p % zv.cells.size < zv.cells.size := Nat.mod_lt _ hpos
        have := made_get (z := zv.cells) (n := n * zv.cells.size) (j := p / zv.cells.size) hmod (by rw [Nat.div_add_mod']; exact hlt)
        rw [Nat.div_add_mod', hp] at this
        grind
      have hfl : RL g w (List.replicate n (zv.cells.toList.map .sc)).flatten (madeCells zv.cells (n * zv.cells.size)).toList := by
        obtain ⟨_, f2⟩ := RowsAt_flat.1 (rows_made (g := g) (w := w) (l := n) hzs (n := n * zv.cells.size) (by rw [hzs]; exact Nat.le_refl _) hz1)
        obtain ⟨vs, v1, v2, v3, v4⟩ := RL_of_CellsAt f2
        have hvl : vs.length = n * zv.cells.size := by
          rw [v1, flatten_len (sz := sz') (fun r hr => by grind)]
          simp [hzs]
        have : vs = (madeCells zv.cells (n * zv.cells.size)).toList := by
          apply List.ext_getElem?
          intro p
          by_cases hp : p < vs.length
          · grind
          · rw [List.getElem?_eq_none (by omega), List.getElem?_eq_none (by simp [size_madeCells]; omega)]
        rw [← this]; exact v3
      obtain ⟨f1, f2, f3⟩ := store_rows (new := List.replicate n (zv.cells.toList.map .sc)) (ob := ob) hi hrow hk q2 (by simpa using hle) (fun r hr => by grind) hfl hone
      have hst := run_storeCells_at P k (ob * sz') E (madeCells zv.cells (n * zv.cells.size)).toList 0 cur w q2 (by simpa using f1) hone
      simp only [Nat.add_zero] at hst
      simp only [List.length_replicate] at f2 f3
      by_cases hn0 : n = 0
      · subst hn0
        have hrun : (Builtin.clear_ ats o.type (args.map a.eval)).run P w = .ok (.tuple #[]) w := by
          simp [Builtin.clear_, h0, hx0, run_underlying hu, evs]
        have hH : H.set b (.row ver sz' (rows.take ob ++ List.replicate 0 (zv.cells.toList.map AVal.sc) ++ rows.drop (ob + 0))) = H := by
          have : rows.take ob ++ List.replicate 0 (zv.cells.toList.map AVal.sc) ++ rows.drop (ob + 0) = rows := by simp
          rw [this]
          apply List.ext_getElem?
          intro i
          rw [List.getElem?_set]
          split
          · rename_i e; subst e; split <;> simp_all
          · rfl
        refine ⟨_, w, g, .inl (hexec hrun), ?_, by simp [nothing, R], ?_⟩
        · grind [apply_one]
        grind [apply_one, Later.refl]
      · have hrun : (Builtin.clear_ ats o.type (args.map a.eval)).run P w = .ok (.tuple #[]) (w.setRow k (cur.toList.take (ob * sz') ++ (madeCells zv.cells (n * zv.cells.size)).toList ++ cur.toList.drop (ob * sz' + (madeCells zv.cells (n * zv.cells.size)).toList.length)).toArray) := by
          have hzc : Builtin.zeroCells zv.cells n = madeCells zv.cells (n * zv.cells.size) := rfl
          have hzr : (zeroValue e).run P w = .ok zv w := by simp [zeroValue, typeInfo, hinf, hzv]
          obtain ⟨n', rfl⟩ := Nat.exists_eq_succ_of_ne_zero hn0
          simp [Builtin.clear_, h0, hx0, run_underlying hu, evs, hzr, hzc, hst]
        exact ⟨_, _, g, .inl (hexec hrun), by grind [apply_one], by simp [nothing, R], by grind [apply_one]⟩
    · simp [Rd.run] at h
  · simp [Rd.run] at h

theorem ran_copy {DT : Nat} {args : Array Operand} {ats : Array TypeId} {d x : Operand} {eff : Eff} (hi : Inv g H w) (hρ : ∀ x, R g w (rho x) (a.eval x))
    (ho : o.op = .call { callee := .builtin .copy, args := args, argTypes := ats }) (h0 : ats[0]? = some DT) (hd0 : args[0]? = some d) (hx0 : args[1]? = some x)
    (h : (copyA P DT (rho d) (rho x)).run H = some eff) : Ran P a o g H w eff := by
  have hexec : ∀ {v w'}, (Builtin.copy_ ats o.type (args.map a.eval)).run P w = .ok v w' → (execOp a.eval o).run P w = .ok (.value v) w' := by
    intro v w' hr
    simp [execOp, ho, resolve, invoke, builtin, hr]
  have hD := hρ d
  have hX := hρ x
  unfold copyA at h
  split at h
  · rename_i e hu
    obtain ⟨new, hnew, h⟩ := bind_some h
    split at h
    · rename_i b ver szs ob n es
      obtain ⟨⟨sz, rows⟩, hr1, h⟩ := bind_some h
      have hrow := rowOf_some hr1
      simp only at hrow h
      split at h <;> simp [Rd.run] at h
      rename_i hc
      obtain ⟨hle, hsz, hall⟩ := hc
      subst h
      have hall := all_len hall
      obtain ⟨ad, cap, news, ev, n1, n2, n3, n4⟩ := elems_R hi hX hnew hall
      rw [es] at hD; simp only [R] at hD
      rcases hD with ⟨rfl, evs⟩ | ⟨k, scap, E', s', hk, evs, hsh, hcs, hns, hmax⟩
      · have hm0 : min new.length 0 = 0 := Nat.min_eq_right (Nat.zero_le _)
        have hmin : Nat.min new.length 0 = 0 := hm0
        have hH : H.set b (.row ver sz (rows.take ob ++ new.take (min new.length 0) ++ rows.drop (ob + min new.length 0))) = H := by
          have : rows.take ob ++ new.take (min new.length 0) ++ rows.drop (ob + min new.length 0) = rows := by simp
          rw [this]
          apply List.ext_getElem?
          intro i
          rw [List.getElem?_set]
          split
          · rename_i e; subst e; split <;> simp_all
          · rfl
        have hrun : (Builtin.copy_ ats o.type (args.map a.eval)).run P w = .ok (.int .i64 0) w := by
          have hf : ∀ m, (Builtin.firstCells sz 0 (.slice ad m cap)).run P w = .ok #[] w := fun m => by cases ad <;> simp [Builtin.firstCells, loadCells, loadCellsFrom]
          simp [Builtin.copy_, h0, hd0, hx0, run_underlying hu, evs, ev, Builtin.lenOf, sizeT_some hsz, hf, goInt]
        refine ⟨_, w, g, .inl (hexec hrun), ?_, by simp [R], ?_⟩
        · grind [apply_one]
        grind [apply_one, Later.refl]
      obtain ⟨k', cur, E, q1, q2, q3, q4, q5, q6⟩ := hi.row b ver _ _ hrow hk
      rw [hk] at q1; simp at q1; obtain ⟨rfl, rfl⟩ := q1
      have hm : (min new.length n) ≤ new.length := Nat.min_le_left _ _
      have hm2 : (min new.length n) ≤ n := Nat.min_le_right _ _
      obtain ⟨fl1, fl2⟩ := RowsAt_flat.1 q3
      have hmsz : (min new.length n) * szs ≤ new.length * szs := Nat.mul_le_mul_right _ hm
      have hnewsT : (news.take ((min new.length n) * szs)).length = (min new.length n) * szs := by simp; omega
      have hrlT : RL g w (new.take (min new.length n)).flatten (news.take ((min new.length n) * szs)) := by
        have e1 : (new.take (min new.length n)).flatten = new.flatten.take ((min new.length n) * szs) := by
          have hsplit : new.flatten = (new.take (min new.length n)).flatten ++ (new.drop (min new.length n)).flatten := by rw [← List.flatten_append, List.take_append_drop]
          have hl : (new.take (min new.length n)).flatten.length = (min new.length n) * szs := by
            rw [flatten_len (sz := szs) (fun r hr => hall r (List.mem_of_mem_take hr))]; simp
          rw [hsplit, ← hl, List.take_left]
        rw [e1]
        have := RL_sub n2 0 ((min new.length n) * szs)
        simpa using this
      have hfirst : (Builtin.firstCells szs (min new.length n) (.slice ad new.length cap)).run P w = .ok (news.take ((min new.length n) * szs)).toArray w := by
        rcases n4 with h0 | ⟨A, hA, hA2⟩
        · have hz : min new.length n = 0 := by omega
          have hnn : news = [] := List.eq_nil_of_length_eq_zero (by rw [n1, h0]; simp)
          subst hnn
          rw [hz]
          cases ad <;> simp [Builtin.firstCells, loadCells, loadCellsFrom]
        · subst hA
          have := run_firstCells_some (P := P) w szs (min new.length n) A new.length cap (news.take ((min new.length n) * szs)) hnewsT (fun j u hu => by
            grind)
          exact this
      have hbound : (ob + n) * szs ≤ rows.length * szs := Nat.mul_le_mul_right _ hle
      rw [Nat.add_mul] at hbound
      have hmn : (min new.length n) * szs ≤ n * szs := Nat.mul_le_mul_right _ hm2
      have hst := run_storeCells_at P k (ob * szs) E (news.take ((min new.length n) * szs)) 0 cur w q2 (by rw [hnewsT]; omega) (fun y hy => n3 y (List.mem_of_mem_take hy))
      simp only [Nat.add_zero, hnewsT] at hst
      have hsz' : (cur.toList.take (ob * szs) ++ news.take ((min new.length n) * szs) ++ cur.toList.drop (ob * szs + (min new.length n) * szs)).toArray.size = cur.size := by
        simp; omega
      have hrun : (Builtin.copy_ ats o.type (args.map a.eval)).run P w = .ok (.int .i64 (min new.length n : Nat)) (w.setRow k (cur.toList.take (ob * szs) ++ news.take ((min new.length n) * szs) ++ cur.toList.drop (ob * szs + (min new.length n) * szs)).toArray) := by
        have hmin : Nat.min new.length n = min new.length n := rfl
        simp [Builtin.copy_, h0, hd0, hx0, run_underlying hu, evs, ev, Builtin.lenOf, sizeT_some hsz, hmin, hfirst, hst, goInt]
      have hgetnew : ∀ p, (cur.toList.take (ob * szs) ++ news.take ((min new.length n) * szs) ++ cur.toList.drop (ob * szs + (min new.length n) * szs)).toArray[p]? = if ob * szs ≤ p ∧ p < ob * szs + (min new.length n) * szs then news[p - ob * szs]? else cur[p]? := by
        intro p
        simp only [List.getElem?_toArray]
        by_cases h1 : p < ob * szs
        · grind
        · by_cases h2 : p < ob * szs + (min new.length n) * szs
          · grind
          · rw [if_neg (by omega), List.getElem?_append_right (by simp; omega), List.getElem?_drop]
            have e1 : ob * szs + (min new.length n) * szs + (p - (List.take (ob * szs) cur.toList ++ news.take ((min new.length n) * szs)).length) = p := by simp; omega
            rw [e1]; simp
      have hrows : RowsAt g w (cur.toList.take (ob * szs) ++ news.take ((min new.length n) * szs) ++ cur.toList.drop (ob * szs + (min new.length n) * szs)).toArray szs (rows.take ob ++ new.take (min new.length n) ++ rows.drop (ob + min new.length n)) 0 := by
        refine RowsAt_of _ _ fun j r hr => ?_
        have hor : ob ≤ rows.length := by omega
        by_cases h1 : j < ob
        · rw [List.append_assoc, List.getElem?_append_left (by simp; omega), List.getElem?_take, if_pos h1] at hr
          obtain ⟨r1, r2⟩ := RowsAt_get _ _ _ _ q3 hr
          refine ⟨r1, CellsAt_congr _ _ _ (fun p hp => ?_) r2⟩
          rw [r1] at hp
          have : (j + 1) * szs ≤ ob * szs := Nat.mul_le_mul_right _ h1
          grind
        · by_cases h2 : j < ob + min new.length n
          · rw [List.append_assoc, List.getElem?_append_right (by simp; omega), List.getElem?_append_left (by simp; omega), List.getElem?_take, if_pos (by simp; omega)] at hr
            have e0 : (rows.take ob).length = ob := by simp; omega
            rw [e0] at hr
            have r1 := hall r (List.mem_of_getElem? hr)
            refine ⟨r1, ?_⟩
            have hr' : (new.take (min new.length n))[j - ob]? = some r := by rw [List.getElem?_take, if_pos (by omega)]; exact hr
            refine CellsAt_of _ _ fun p y hy => ?_
            have hp : p < szs := by have := (List.getElem?_eq_some_iff.1 hy).1; omega
            -- the cell is one of the new ones
            have hidx : new.flatten[(j - ob) * szs + p]? = some y := by
              clear hr' hst hrun hgetnew hsz' hrlT hfirst
              have : ∀ (l : List (List AVal)) (q : Nat), (∀ r ∈ l, r.length = szs) → l[q]? = some r → l.flatten[q * szs + p]? = some y := by
                intro l
                induction l with
                | nil => intro q _ h; simp at h
                | cons u us ih =>
                  intro q hl h
                  have hu' := hl u (by simp)
                  cases q with
                  | zero =>
                    grind
                  | succ q =>
                    simp only [List.flatten_cons, Nat.add_mul, Nat.one_mul]
                    rw [List.getElem?_append_right (by omega), hu', show q * szs + szs + p - szs = q * szs + p by omega]
                    grind
              exact this new _ hall hr
            obtain ⟨z, hz1, hz2⟩ := (RL_get _ _ n2).2 _ _ hidx
            have hjm : (j - ob + 1) * szs ≤ (min new.length n) * szs := Nat.mul_le_mul_right _ (by omega)
            rw [Nat.add_mul, Nat.one_mul] at hjm
            have hjo : j * szs = ob * szs + (j - ob) * szs := by rw [← Nat.add_mul]; congr 1; omega
            refine ⟨z, ?_, n3 z (List.mem_of_getElem? hz1), hz2⟩
            rw [Nat.zero_add, hgetnew, if_pos (by omega), ← hz1]
            congr 1; omega
          · rw [List.getElem?_append_right (by simp; omega), List.getElem?_drop] at hr
            have e0 : ob + min new.length n + (j - (rows.take ob ++ new.take (min new.length n)).length) = j := by simp; omega
            rw [e0] at hr
            obtain ⟨r1, r2⟩ := RowsAt_get _ _ _ _ q3 hr
            refine ⟨r1, CellsAt_congr _ _ _ (fun p hp => ?_) r2⟩
            have : (ob + min new.length n) * szs ≤ j * szs := Nat.mul_le_mul_right _ (by omega)
            grind
      obtain ⟨s1, s2⟩ := hi.store (rows' := rows.take ob ++ new.take (min new.length n) ++ rows.drop (ob + min new.length n)) hrow hk q2 (setRow_heap w k cur _ E (0, 0) q2) hsz' (fun j hj => setRow_other w k j _ hj) (setRow_size w k _) rfl ⟨rfl, Nat.le_of_eq rfl⟩ rfl hrows (by
        rw [hsz']
        have : (rows.take ob ++ new.take (min new.length n) ++ rows.drop (ob + min new.length n)).length = rows.length := by simp; omega
        rw [this]; exact q4)
      exact ⟨_, _, g, .inl (hexec hrun), by grind [apply_one], by simp [R], by grind [apply_one]⟩
    · rename_i b ver ir ob s n es
      obtain ⟨⟨sz, rows⟩, hr1, h⟩ := bind_some h
      have hrow := rowOf_some hr1
      simp only at hrow h
      split at h
      · rename_i cs hcs
        split at h <;> simp [Rd.run] at h
        rename_i hc
        obtain ⟨hle, hsz, hall⟩ := hc
        subst h
        have hall := all_len hall
        obtain ⟨ad, cap, news, ev, n1, n2, n3, n4⟩ := elems_R hi hX hnew hall
        rw [es] at hD; simp only [R] at hD
        obtain ⟨k, szr, scap, hk, evs, hns⟩ := hD
        obtain ⟨k', cur, E, q1, q2, q3, q4, q5, q6⟩ := hi.row b ver _ _ hrow hk
        rw [hk] at q1; simp at q1; obtain ⟨rfl, rfl⟩ := q1
        have hm : (min new.length n) ≤ new.length := Nat.min_le_left _ _
        have hm2 : (min new.length n) ≤ n := Nat.min_le_right _ _
        have hmsz : (min new.length n) * s ≤ new.length * s := Nat.mul_le_mul_right _ hm
        have hmn : (min new.length n) * s ≤ n * s := Nat.mul_le_mul_right _ hm2
        have hnewsT : (news.take ((min new.length n) * s)).length = (min new.length n) * s := by simp; omega
        have hflen : (new.take (min new.length n)).flatten.length = (min new.length n) * s := by
          rw [flatten_len (sz := s) (fun r hr => hall r (List.mem_of_mem_take hr))]; simp
        have hrlT : RL g w (new.take (min new.length n)).flatten (news.take ((min new.length n) * s)) := by
          have e1 : (new.take (min new.length n)).flatten = new.flatten.take ((min new.length n) * s) := by
            have hsplit : new.flatten = (new.take (min new.length n)).flatten ++ (new.drop (min new.length n)).flatten := by rw [← List.flatten_append, List.take_append_drop]
            rw [hsplit, ← hflen, List.take_left]
          rw [e1]
          have := RL_sub n2 0 ((min new.length n) * s)
          simpa using this
        have hfirst : (Builtin.firstCells s (min new.length n) (.slice ad new.length cap)).run P w = .ok (news.take ((min new.length n) * s)).toArray w := by
          rcases n4 with h0 | ⟨A, hA, hA2⟩
          · have hz : min new.length n = 0 := by omega
            have hnn : news = [] := List.eq_nil_of_length_eq_zero (by rw [n1, h0]; simp)
            subst hnn
            rw [hz]
            cases ad <;> simp [Builtin.firstCells, loadCells, loadCellsFrom]
          · subst hA
            exact run_firstCells_some (P := P) w s (min new.length n) A new.length cap (news.take ((min new.length n) * s)) hnewsT (fun j u hu => by
              grind)
        obtain ⟨hfit, s1, s2⟩ := store_cells (off := ob) hi hrow hcs (by rw [hflen]; omega) hk q2 (fun y hy => n3 y (List.mem_of_mem_take hy)) hrlT
        have hst := run_storeCells_at P k (ir * szr + ob) E (news.take ((min new.length n) * s)) 0 cur w q2 (by simpa using hfit) (fun y hy => n3 y (List.mem_of_mem_take hy))
        simp only [Nat.add_zero] at hst
        have hmin : Nat.min new.length n = min new.length n := rfl
        have hrun : (Builtin.copy_ ats o.type (args.map a.eval)).run P w = .ok (.int .i64 (min new.length n : Nat)) (w.setRow k (cur.toList.take (ir * szr + ob) ++ news.take ((min new.length n) * s) ++ cur.toList.drop (ir * szr + ob + (news.take ((min new.length n) * s)).length)).toArray) := by
          simp [Builtin.copy_, h0, hd0, hx0, run_underlying hu, evs, ev, Builtin.lenOf, sizeT_some hsz, hmin, hfirst, hst, goInt]
        exact ⟨_, _, g, .inl (hexec hrun), by rw [apply_one]; exact s1, by simp [R], by rw [apply_one]; exact s2⟩
      · simp [Rd.run] at h
    · simp [Rd.run] at h
  · simp [Rd.run] at h

end
end Go.AM
