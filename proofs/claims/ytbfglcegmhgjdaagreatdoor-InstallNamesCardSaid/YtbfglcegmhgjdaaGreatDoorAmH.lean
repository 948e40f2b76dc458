/- Making, appending, copying: as the abstract machine does. No program. -/
import Derived.Test.YtbfglcegmhgjdaaGreatDoorAmG
import Derived.Laws.MakeOwn
import Derived.Laws.BytesString
namespace Go.AM

section
set_option linter.unusedSectionVars false
variable [Globs] {P : Program} {a : Act} {o : Oper} {g : Gh} {H : List ABlk} {w : World} {rho : Operand → AVal}

theorem CellsAt_append {c : Array Value} : ∀ {l l' : List AVal} {o : Nat}, CellsAt g w c (l ++ l') o ↔ CellsAt g w c l o ∧ CellsAt g w c l' (o + l.length)
  | [], l', o => by simp [CellsAt]
  | x :: l, l', o => by
    simp only [List.cons_append, CellsAt, List.length_cons, CellsAt_append (l := l) (l' := l') (o := o + 1), and_assoc]
    grind

theorem RowsAt_flat {c : Array Value} {sz : Nat} : ∀ {rows : List (List AVal)} {o : Nat}, RowsAt g w c sz rows o ↔ (∀ r ∈ rows, r.length = sz) ∧ CellsAt g w c rows.flatten o
  | [], o => by simp [RowsAt, CellsAt]
  | r :: rs, o => by
    simp only [RowsAt, List.flatten_cons, CellsAt_append, List.mem_cons, forall_eq_or_imp, RowsAt_flat (rows := rs)]
    grind

theorem RC_append {k : Nat} : ∀ {l l' : List AVal} {o : Nat}, RC g w l k o → RC g w l' k (o + l.length) → RC g w (l ++ l') k o
  | [], l', o, _, h => by simpa using h
  | x :: l, l', o, h, h' => by
    simp only [RC] at h
    simp only [List.cons_append, RC]
    exact ⟨h.1, RC_append h.2 (by grind)⟩

theorem RR_flat {k sz : Nat} : ∀ {rows : List (List AVal)} {o : Nat}, RR g w rows k o sz → (∀ r ∈ rows, r.length = sz) ∧ RC g w rows.flatten k o
  | [], o, _ => by simp [RC]
  | r :: rs, o, h => by
    simp only [RR] at h
    obtain ⟨⟨h1, _, h2⟩, h3⟩ := h
    obtain ⟨h4, h5⟩ := RR_flat h3
    grind [RC_append]

theorem flatten_len {sz : Nat} : ∀ {rows : List (List AVal)}, (∀ r ∈ rows, r.length = sz) → rows.flatten.length = rows.length * sz
  | [], _ => by simp
  | r :: rs, h => by
    simp only [List.flatten_cons, List.length_append, List.length_cons, h r (by simp), flatten_len (rows := rs) (sz := sz) (fun q hq => h q (List.mem_cons_of_mem _ hq)), Nat.add_mul, Nat.one_mul]
    omega

/-- What an operand that is a slice holds. -/
theorem elems_R {x : AVal} {v : Value} {rows : List (List AVal)} {sz : Nat} (hi : Inv g H w) (hr : R g w x v) (h : (elems x).run H = some rows) (hsz : ∀ r ∈ rows, r.length = sz) :
    ∃ ad cap news, v = .slice ad rows.length cap ∧ news.length = rows.length * sz ∧ RL g w rows.flatten news ∧ (∀ y ∈ news, y.oneCell' = true) ∧
      (rows.length = 0 ∨ ∃ A, ad = some A ∧ ∀ j u, news[j]? = some u → w.cell? (A.add j) = some u) := by
  unfold elems at h
  split at h
  · simp [Rd.run] at h; subst h
    simp only [R] at hr; obtain ⟨ad, rfl⟩ := hr
    exact ⟨ad, 0, [], rfl, by simp, by simp [RL], by simp, .inl rfl⟩
  · simp [Rd.run] at h; subst h
    simp only [R] at hr; obtain ⟨ad, cap, rfl, _⟩ := hr
    exact ⟨ad, cap, [], rfl, by simp, by simp [RL], by simp, .inl rfl⟩
  · simp [Rd.run] at h; subst h
    have := R_sc hr; subst this
    exact ⟨none, 0, [], rfl, by simp, by simp [RL], by simp, .inl rfl⟩
  · rename_i rows
    simp [Rd.run] at h; subst h
    simp only [R] at hr
    obtain ⟨ad, cap, rfl, _, hc⟩ := hr
    rcases hc with h0 | ⟨k, off, sz', rfl, hrr⟩
    · have : rows = [] := List.eq_nil_of_length_eq_zero h0
      subst this
      exact ⟨ad, cap, [], rfl, by simp, by simp [RL], by simp, .inl rfl⟩
    · obtain ⟨f1, f2⟩ := RR_flat hrr
      grind [RL_of_RC, flatten_len, add_addr]
  · rename_i rows
    simp [Rd.run] at h; subst h
    have hr := tls_lst hr
    simp only [R] at hr
    obtain ⟨ad, cap, rfl, _, hc⟩ := hr
    rcases hc with h0 | ⟨k, off, sz', rfl, hrr⟩
    · have : rows = [] := List.eq_nil_of_length_eq_zero h0
      subst this
      exact ⟨ad, cap, [], rfl, by simp, by simp [RL], by simp, .inl rfl⟩
    · obtain ⟨f1, f2⟩ := RR_flat hrr
      grind [RL_of_RC, flatten_len, add_addr]
  · rename_i b ver sz' ob n
    obtain ⟨⟨s1, rows'⟩, h1, h2⟩ := bind_some h
    have hrow := rowOf_some h1
    simp only at h2 hrow
    split at h2 <;> simp [Rd.run] at h2
    rename_i hc
    obtain ⟨rfl, hle⟩ := hc
    subst h2
    simp only [R] at hr
    rcases hr with ⟨rfl, rfl⟩ | ⟨k, cap, e, s, hk, rfl, _⟩
    · exact ⟨none, 0, [], by simp, by simp, by simp [RL], by simp, .inl (by simp)⟩
    obtain ⟨k', c, e', q1, q2, q3, _⟩ := hi.row b ver _ _ hrow hk
    rw [hk] at q1; simp at q1; subst q1
    have hlen : ((rows'.drop ob).take n).length = n := by simp; omega
    have hrows : RowsAt g w c s1 ((rows'.drop ob).take n) (ob * s1) := by
      refine RowsAt_of _ _ fun j r hr => ?_
      rw [List.getElem?_take] at hr
      split at hr
      · rw [List.getElem?_drop] at hr
        obtain ⟨r1, r2⟩ := RowsAt_get _ _ _ _ q3 hr
        grind
      · cases hr
    obtain ⟨f1, f2⟩ := RowsAt_flat.1 hrows
    obtain ⟨vs, v1, v2, v3, v4⟩ := RL_of_CellsAt f2
    refine ⟨_, cap, vs, by rw [hlen], by rw [v1, flatten_len hsz], v3, v2, .inr ⟨_, rfl, fun j u hu => ?_⟩⟩
    grind [add_addr, cell?_cells]
  · rename_i b ver ir ob s n
    obtain ⟨⟨s1, rows'⟩, h1, h2⟩ := bind_some h
    have hrow := rowOf_some h1
    simp only at h2 hrow
    split at h2
    · rename_i cs hcs
      split at h2 <;> simp [Rd.run] at h2
      rename_i hle
      subst h2
      simp only [R] at hr
      obtain ⟨k, szr, cap, hk, rfl, _⟩ := hr
      obtain ⟨k', c, e', q1, q2, q3, _⟩ := hi.row b ver _ _ hrow hk
      rw [hk] at q1; simp at q1; obtain ⟨rfl, rfl⟩ := q1
      obtain ⟨r1, r2⟩ := RowsAt_get _ _ _ _ q3 hcs
      have hlen : ((cs.drop ob).take (n * s)).length = n * s := by simp; omega
      obtain ⟨f1, f2⟩ := chunks_flat s n _ hlen
      have hcl := chunks_length s n ((cs.drop ob).take (n * s))
      have hs : n = 0 ∨ s = sz := by
        cases n with
        | zero => exact .inl rfl
        | succ n =>
          grind [chunks]
      obtain ⟨vs, v1, v2, v3, v4⟩ := RL_of_CellsAt r2
      have hsub : RL g w ((cs.drop ob).take (n * s)) ((vs.drop ob).take (n * s)) := RL_sub v3 ob (n * s)
      refine ⟨_, cap, (vs.drop ob).take (n * s), by rw [hcl], ?_, by rw [f2]; exact hsub, fun y hy => v2 y (List.mem_of_mem_drop (List.mem_of_mem_take hy)), .inr ⟨_, rfl, fun j u hu => ?_⟩⟩
      · grind
      grind [add_addr, cell?_cells]
    · simp [Rd.run] at h2
  · simp [Rd.run] at h

theorem bytesA_some : ∀ {rows : List (List AVal)} {xs : List Int}, bytesA rows = some xs → rows = xs.map fun n => [AVal.sc (.int .u8 n)]
  | [], xs, h => by simp [bytesA] at h; subst h; rfl
  | r :: rs, xs, h => by
    unfold bytesA at h
    split at h
    · cases ‹_ = []›
    · rename_i n rs' he
      injection he with e1 e2
      subst e1; subst e2
      obtain ⟨ys, hy, rfl⟩ := Option.map_eq_some_iff.1 h
      rw [bytesA_some hy]; rfl
    · cases h

theorem foldl_bytes : ∀ (xs : List Int) (s : ByteArray), xs.foldl (fun r n => r.push (UInt8.ofNat n.toNat)) s = ⟨s.data ++ (xs.map fun n => UInt8.ofNat n.toNat).toArray⟩
  | [], s => by cases s; simp
  | x :: xs, s => by
    rw [List.foldl_cons, foldl_bytes xs]
    cases s
    simp [ByteArray.push]

theorem ran_convStr {s d : Nat} {x : Operand} {rows : List (List AVal)} {xs : List Int} (hi : Inv g H w) (hρ : ∀ x, R g w (rho x) (a.eval x)) (ho : o.op = .convert s d x) (hb : bytesTo P s d = true) (h : (elems (rho x)).run H = some rows) (hx : bytesA rows = some xs) :
    Ran P a o g H w { val := .sc (.string (strOfBytes xs)) } := by
  unfold bytesTo at hb
  split at hb
  · rename_i e hs hd
    split at hb
    · rename_i he
      have hrows := bytesA_some hx
      obtain ⟨ad, cap, news, ev, n1, n2, n3, n4⟩ := elems_R (sz := 1) hi (hρ x) h (fun r hr => by
        grind)
      have hlen : rows.length = xs.length := by rw [hrows]; simp
      have hflat : rows.flatten = xs.map fun n => AVal.sc (.int .u8 n) := by
        rw [hrows]
        clear hrows hx n1 n2 n4 h hlen ev
        induction xs with
        | nil => rfl
        | cons x xs ih => simp [ih]
      have hnews : news = xs.map (Value.int .u8) := by
        rw [hflat] at n2
        clear hflat hrows hx n1 n3 n4 h hlen ev
        induction xs generalizing news with
        | nil => simpa [RL] using n2
        | cons x xs ih =>
          grind [RL, R]
      refine Ran.pure hi (v := .string (strOfBytes xs)) ?_ (by simp [R])
      have key : (Conv.bytesToString (.slice ad rows.length cap)).run P w = .ok (.string (strOfBytes xs)) w := by
        cases ad with
        | none =>
          rcases n4 with h0 | ⟨A, hA, _⟩
          · have : xs = [] := List.eq_nil_of_length_eq_zero (by omega)
            subst this
            simp [Conv.bytesToString, strOfBytes]
            rfl
          · cases hA
        | some A =>
          have hl : (loadCells A rows.length).run P w = .ok (xs.map (Value.int .u8)).toArray w := by
            have := run_loadCells_list (P := P) w A (xs.map (Value.int .u8)) (fun j v hj => by
              grind)
            rw [List.length_map] at this
            rw [hlen]; exact this
          rw [run_bytesToString w A _ cap xs hl, foldl_bytes]
          simp [strOfBytes, ByteArray.empty, ByteArray.emptyWithCapacity]
          rfl
      simp only [execOp, ho, ev, Sem.run_bind, run_convert_bytes_string w s d e ad rows.length cap hs he hd, key]
      rfl
    · cases hb
  · cases hb

theorem ran_array {T : Nat} {x : Operand} {y : AVal} (hi : Inv g H w) (hρ : ∀ x, R g w (rho x) (a.eval x)) (ho : o.op = .sliceToArrayPointer T x) (h : arrayA P T (rho x) = some y) : Ran P a o g H w { val := y } := by
  have hx := hρ x
  unfold arrayA at h
  split at h
  · rename_i n e hu
    split at h
    · rename_i b ver i ob s m e1
      split at h <;> simp at h
      rename_i hle
      subst h
      rw [e1] at hx; simp only [R] at hx
      obtain ⟨k, sz, cap, hk, ex, _⟩ := hx
      refine Ran.pure hi (v := .pointer (some ⟨k, i * sz + ob, none⟩)) ?_ (by grind [R])
      have hn : ¬ m < n := by omega
      simp [execOp, ho, Instr.arrayAt, run_underlying hu, ex, hn]
    · rename_i rows e1
      split at h <;> simp at h
      rename_i hle
      subst h
      rw [e1] at hx; simp only [R] at hx
      obtain ⟨ad, cap, ex, _, hc⟩ := hx
      rcases hc with h0 | ⟨k, off, sz, rfl, hrr⟩
      · omega
      · obtain ⟨_, f2⟩ := RR_flat hrr
        have hp : AVal.pureL rows.flatten = true := pureL_mem.2 fun x hx => by
          obtain ⟨r, hr, hxr⟩ := List.mem_flatten.1 hx
          obtain ⟨j, hj⟩ := List.getElem?_of_mem hr
          exact pureL_mem.1 (RR_get hrr hj).2.1 x hxr
        refine Ran.pure hi (v := .pointer (some ⟨k, off, none⟩)) ?_ (by grind [R])
        have hn : ¬ rows.length < n := by omega
        simp [execOp, ho, Instr.arrayAt, run_underlying hu, ex, hn]
    · cases h
  · cases h

theorem run_firstCells {size m cap : Nat} {ad : Option Addr} {news : List Value} (hl : news.length = m * size) (h : m = 0 ∨ ∃ A, ad = some A ∧ ∀ j u, news[j]? = some u → w.cell? (A.add j) = some u) :
    (Builtin.firstCells size m (.slice ad m cap)).run P w = .ok news.toArray w := by
  rcases h with rfl | ⟨A, rfl, h⟩
  · have : news = [] := List.eq_nil_of_length_eq_zero (by simpa using hl)
    subst this
    cases ad <;> simp [Builtin.firstCells, loadCells, loadCellsFrom]
  · exact run_firstCells_some w size m A m cap news hl h

/-- append, whichever way it goes. -/
theorem run_append_new {ST XT ty e : Nat} {i : TypeInfo} {z : Value} {ats : Array TypeId} {base : Option Addr} {n cap m c : Nat} {ad : Option Addr} {olds news : List Value} (h0 : ats[0]? = some ST) (h1 : ats[1]? = some XT) (hs : P.underlying ST = some (.slice e))
    (hx : ∃ e', P.underlying XT = some (.slice e')) (hi : P.info? e = some i) (hz : i.zero = some z) (ho : olds.length = n * i.size) (hol : n = 0 ∨ ∃ A, base = some A ∧ ∀ j u, olds[j]? = some u → w.cell? (A.add j) = some u)
    (hl : news.length = m * i.size) (hnew : m = 0 ∨ ∃ A, ad = some A ∧ ∀ j u, news[j]? = some u → w.cell? (A.add j) = some u) (hroom : (n + m) * i.bytes ≤ 140737488355328) (h63 : n + m ≤ 9223372036854775807) (hc : ¬ n + m ≤ cap) :
    ∃ nc, n + m ≤ nc ∧ nc ≤ 9223372036854775807 ∧ (Builtin.append_ ats ty #[.slice base n cap, .slice ad m c]).run P w = .ok (.slice (some ⟨w.heap.size, 0, none⟩) (n + m) nc)
        (w.drew.alloc (.cells (olds.toArray ++ news.toArray ++ Builtin.zeroCells z.cells (nc - (n + m))) e)) := by
  obtain ⟨e', hx⟩ := hx
  have hf : ∀ w' : World, (∀ A, w'.cell? A = w.cell? A) → (Builtin.firstCells i.size m (.slice ad m c)).run P w' = .ok news.toArray w' := fun w' hw => run_firstCells hl (by
    grind)
  have hfo : ∀ w' : World, (∀ A, w'.cell? A = w.cell? A) → (Builtin.firstCells i.size n (.slice base n cap)).run P w' = .ok olds.toArray w' := fun w' hw => run_firstCells ho (by
    grind)
  have hge := grownCap_ge w (n + m) cap e
  have hle := grownCap_le_maxLen w (n + m) cap e (by simp only [maxLen]; omega)
  refine ⟨grownCap w (n + m) cap e, hge, by simpa [maxLen] using hle, ?_⟩
  have h63' : ¬ (9223372036854775807 < ((n : Int) + (m : Int))) := by omega
  have hfit := growslice_fits (need := n + m) (old := cap) (bytes := i.bytes) (by omega) hroom
  have h48' : ¬ (281474976710656 < Builtin.nextslicecap (n + m) cap * i.bytes) := by omega
  have f1 := hf w.drew (fun A => by simp)
  have f2 := hfo w.drew (fun A => by simp)
  simp [Builtin.append_, h0, h1, run_underlying hs, run_underlying hx, sizeOf, typeInfo, zeroValue, hi, hz, Builtin.lenOf, hc, h63', h48', Question.forced, f1, f2, newRow, grownCap]
  congr 2
  apply Array.ext'
  simp

theorem run_append {ST XT ty e : Nat} {i : TypeInfo} {z : Value} {ats : Array TypeId} {base : Option Addr} {n cap m c : Nat} {ad : Option Addr} {olds news : List Value} {E : TypeId} {cur : Array Value} (h0 : ats[0]? = some ST) (h1 : ats[1]? = some XT) (hs : P.underlying ST = some (.slice e))
    (hx : ∃ e', P.underlying XT = some (.slice e')) (hi : P.info? e = some i) (hz : i.zero = some z) (ho : olds.length = n * i.size) (hol : n = 0 ∨ ∃ A, base = some A ∧ ∀ j u, olds[j]? = some u → w.cell? (A.add j) = some u)
    (hl : news.length = m * i.size) (hnew : m = 0 ∨ ∃ A, ad = some A ∧ ∀ j u, news[j]? = some u → w.cell? (A.add j) = some u) (hone : ∀ y ∈ news, y.oneCell' = true) (hroom : (n + m) * i.bytes ≤ 140737488355328) (h63 : n + m ≤ 9223372036854775807)
    (hb : (n = 0 ∧ cap = 0) ∨ ∃ k, base = some ⟨k, 0, none⟩ ∧ w.heap[k]? = some (.cells cur E (0, 0)) ∧ cap * i.size = cur.size) :
    ((n + m ≤ cap ∧ ∃ w', (Builtin.append_ ats ty #[.slice base n cap, .slice ad m c]).run P w = .ok (.slice base (n + m) cap) w' ∧
        ((m = 0 ∧ w' = w) ∨ ∃ k, base = some ⟨k, 0, none⟩ ∧ w' = w.setRow k (cur.toList.take (n * i.size) ++ news ++ cur.toList.drop (n * i.size + news.length)).toArray)) ∨
     (cap < n + m ∧ ∃ nc, n + m ≤ nc ∧ nc ≤ 9223372036854775807 ∧ (Builtin.append_ ats ty #[.slice base n cap, .slice ad m c]).run P w = .ok (.slice (some ⟨w.heap.size, 0, none⟩) (n + m) nc)
        (w.drew.alloc (.cells (olds.toArray ++ news.toArray ++ Builtin.zeroCells z.cells (nc - (n + m))) e)))) := by
  obtain ⟨e', hx⟩ := hx
  have hf : ∀ w' : World, (∀ A, w'.cell? A = w.cell? A) → (Builtin.firstCells i.size m (.slice ad m c)).run P w' = .ok news.toArray w' := fun w' hw => run_firstCells hl (by
    grind)
  have hfo : ∀ w' : World, (∀ A, w'.cell? A = w.cell? A) → (Builtin.firstCells i.size n (.slice base n cap)).run P w' = .ok olds.toArray w' := fun w' hw => run_firstCells ho (by
    grind)
  by_cases hc : n + m ≤ cap
  · left
    refine ⟨hc, ?_⟩
    rcases hb with ⟨rfl, rfl⟩ | ⟨k, rfl, hk, hcap⟩
    · have hm : m = 0 := by omega
      subst hm
      have : news = [] := List.eq_nil_of_length_eq_zero (by simpa using hl)
      subst this
      refine ⟨w, ?_, .inl ⟨rfl, rfl⟩⟩
      have := hf w (fun _ => rfl)
      cases base <;> simp [Builtin.append_, h0, h1, run_underlying hs, run_underlying hx, sizeOf, typeInfo, hi, Builtin.lenOf, this, storeCells]
    · have hfit : n * i.size + news.length ≤ cur.size := by rw [hl, ← hcap, ← Nat.add_mul]; exact Nat.mul_le_mul_right _ hc
      have hst := run_storeCells_at P k (n * i.size) E news 0 cur w hk (by simpa using hfit) hone
      simp only [Nat.add_zero] at hst
      refine ⟨_, ?_, .inr ⟨k, rfl, rfl⟩⟩
      have := hf w (fun _ => rfl)
      simp [Builtin.append_, h0, h1, run_underlying hs, run_underlying hx, sizeOf, typeInfo, hi, Builtin.lenOf, hc, this, add_addr, hst]
  · right
    have hge := grownCap_ge w (n + m) cap e
    have hle := grownCap_le_maxLen w (n + m) cap e (by simp only [maxLen]; omega)
    refine ⟨by omega, grownCap w (n + m) cap e, hge, by simpa [maxLen] using hle, ?_⟩
    have h63' : ¬ (9223372036854775807 < ((n : Int) + (m : Int))) := by omega
    have hfit := growslice_fits (need := n + m) (old := cap) (bytes := i.bytes) (by omega) hroom
    have h48' : ¬ (281474976710656 < Builtin.nextslicecap (n + m) cap * i.bytes) := by omega
    have f1 := hf w.drew (fun A => by simp)
    have f2 := hfo w.drew (fun A => by simp)
    simp [Builtin.append_, h0, h1, run_underlying hs, run_underlying hx, sizeOf, typeInfo, zeroValue, hi, hz, Builtin.lenOf, hc, h63', h48', Question.forced, f1, f2, newRow, grownCap]
    congr 2
    apply Array.ext'
    simp

theorem all_len {rows : List (List AVal)} {n : Nat} (h : (rows.all fun r => r.length == n) = true) : ∀ r ∈ rows, r.length = n := by
  grind

theorem Later.draw {g' : Gh} {H' : List ABlk} {w' : World} (h : Later g H w.drew g' H' w') : Later g H w g' H' w' :=
  ⟨⟨h.ext.rho, h.ext.st, h.ext.cell, h.ext.shape⟩, h.size, h.keep, h.own, h.len, h.os, ⟨h.tape.1, Nat.le_of_succ_le h.tape.2⟩, h.output, h.stk, h.deadk, h.newk⟩

theorem Ext.draw (g : Gh) (w : World) : Ext g w g w.drew := ⟨fun _ _ _ h => h, fun _ _ h => h, fun _ _ _ => rfl, fun _ _ h => h⟩

theorem Inv.draw (h : Inv g H w) : Inv g H w.drew :=
  ⟨fun b x hb => Good_mono (Ext.draw g w) (h.good b x hb) (fun _ _ _ _ _ => rfl) fun _ _ h => h, h.inj, h.fresh, h.next, h.free, h.stold, h.globs.mono (Ext.draw g w)⟩

theorem zeroFits_some {i : TypeInfo} (h : zeroFits i = true) : ∃ z, i.zero = some z ∧ z.cells.size = i.size := by
  grind [zeroFits]

theorem roomy_some {n b : Nat} (h : roomy n b = true) : n * b ≤ 35184372088832 ∧ n ≤ 4398046511104 := by
  simpa [roomy] using h

theorem shape?_of_alloc (w : World) (c : Array Value) (e : TypeId) : (w.alloc (.cells c e)).shape? w.heap.size = some (e, c.size) := by
  have := alloc_get (w := w) (o := Obj.cells c e)
  simp only [World.shape?, this]

theorem ran_append {nid ST XT : Nat} {args : Array Operand} {ats : Array TypeId} {s x : Operand} {eff : Eff} (hi : Inv g H w) (hρ : ∀ x, R g w (rho x) (a.eval x)) (hn : H[nid]? = some .unborn)
    (ho : o.op = .call { callee := .builtin .append, args := args, argTypes := ats }) (h0 : ats[0]? = some ST) (h1 : ats[1]? = some XT) (hs0 : args[0]? = some s) (hx0 : args[1]? = some x) (hsz : args.size = 2)
    (h : (appendA P nid ST XT (rho s) (rho x)).run H = some eff) : Ran P a o g H w eff := by
  have hargs : args = #[s, x] := by
    obtain ⟨l⟩ := args
    match l, hsz with
    | [p, q], _ => simp at hs0 hx0; simp [hs0, hx0]
  have hexec : ∀ {v w'}, (Builtin.append_ ats o.type #[a.eval s, a.eval x]).run P w = .ok v w' → (execOp a.eval o).run P w = .ok (.value v) w' := by
    intro v w' hr
    simp [execOp, ho, resolve, invoke, builtin, hargs, hr]
  have hS := hρ s
  have hX := hρ x
  unfold appendA at h
  split at h
  · rename_i e e' hus hux
    split at h
    · rename_i i hinfo
      split at h
      · simp [Rd.run] at h
      · rename_i hz0
        obtain ⟨new, hnew, h⟩ := bind_some h
        split at h
        · -- nil
          rename_i es
          rw [es] at hS; have hS := R_sc hS
          split at h
          · rename_i hl0
            simp [Rd.run] at h; subst h
            have hnil : new = [] := List.eq_nil_of_length_eq_zero hl0
            subst hnil
            obtain ⟨ad, cap, news, ev, n1, n2, n3, n4⟩ := elems_R (sz := i.size) hi hX hnew (by simp)
            have hnews : news = [] := List.eq_nil_of_length_eq_zero (by simpa using n1)
            subst hnews
            refine Ran.pure hi (v := .slice none 0 0) (hexec ?_) (by rw [es]; simp [R])
            have := run_firstCells (P := P) (w := w) (size := i.size) (m := 0) (cap := cap) (ad := ad) (news := []) (by simp) (.inl rfl)
            rw [hS, ev]
            simp only [List.length_nil]
            simp [Builtin.append_, h0, h1, run_underlying hus, run_underlying hux, sizeOf, typeInfo, hinfo, Builtin.lenOf, this]
          · rename_i hl0
            split at h
            · rename_i hc
              simp only [Bool.and_eq_true] at hc
              obtain ⟨⟨hc1, hc2⟩, hc3⟩ := hc
              simp [Rd.run] at h; subst h
              have hall := all_len hc2
              obtain ⟨ad, cap, news, ev, n1, n2, n3, n4⟩ := elems_R hi hX hnew hall
              obtain ⟨z, hz, hzs⟩ := zeroFits_some hc3
              obtain ⟨hr1, hr2⟩ := roomy_some hc1
              rcases run_append (P := P) (w := w) (ty := o.type) (base := none) (n := 0) (cap := 0) (olds := []) (E := e) (cur := #[]) (c := cap) h0 h1 hus ⟨e', hux⟩ hinfo hz (by simp) (.inl rfl) n1 n4 n3 (by rw [Nat.zero_add]; omega) (by omega) (.inl ⟨rfl, rfl⟩) with ⟨hle, _⟩ | ⟨_, nc, c1, c2, c3⟩
              · omega
              · simp only [Nat.zero_add] at c1 c3
                have hcells : CellsAt g w.drew (#[] ++ news.toArray ++ Builtin.zeroCells z.cells (nc - new.length)) new.flatten 0 := by
                  refine CellsAt_of_RL (RL_mono (Ext.draw g w) _ _ n2) n3 fun j hj => ?_
                  simp [Array.getElem?_append]
                  omega
                obtain ⟨a1, a2, a3⟩ := hi.draw.alloc (e := e) (c := #[] ++ news.toArray ++ Builtin.zeroCells z.cells (nc - new.length)) (rows := new) (sz := i.size) hn (by omega) (RowsAt_flat.2 ⟨hall, hcells⟩) (by simp [n1])
                refine ⟨_, _, _, .inl (hexec (by rw [hS, ev]; exact c3)), by rw [apply_one]; exact a1, ?_, by rw [apply_one]; exact a2.draw⟩
                simp only [R]
                refine .inr ⟨_, nc, e, (#[] ++ news.toArray ++ Builtin.zeroCells z.cells (nc - new.length)).size, a3, by simp, ?_, ?_, c1, c2⟩
                · exact shape?_of_alloc _ _ _
                · have e5 : (#[] ++ news.toArray ++ Builtin.zeroCells z.cells (nc - new.length) : Array Value).size = new.length * i.size + (nc - new.length) * i.size := by simp [size_zeroCells, hzs, n1]
                  rw [e5, ← Nat.add_mul]
                  congr 1; omega
            · simp [Rd.run] at h
        · -- a list that nobody writes
          rename_i rows es
          split at h
          · rename_i hl0
            simp [Rd.run] at h; subst h
            have hnil : new = [] := List.eq_nil_of_length_eq_zero hl0
            subst hnil
            obtain ⟨ad, cap, news, ev, n1, n2, n3, n4⟩ := elems_R (sz := i.size) hi hX hnew (by simp)
            have hS' := hS
            rw [es] at hS'; simp only [R] at hS'
            obtain ⟨ad2, cap2, ev2, hcap2, _⟩ := hS'
            refine Ran.pure hi (v := a.eval s) (hexec ?_) hS
            have := run_firstCells (P := P) (w := w) (size := i.size) (m := 0) (cap := cap) (ad := ad) (news := []) (by simp) (.inl rfl)
            rw [ev, ev2]
            simp only [List.length_nil]
            cases ad2 <;> simp [Builtin.append_, h0, h1, run_underlying hus, run_underlying hux, sizeOf, typeInfo, hinfo, Builtin.lenOf, this, hcap2, storeCells]
          · simp [Rd.run] at h
        · -- no room
          rename_i es
          have hS0 := hS
          rw [es] at hS; simp only [R] at hS
          obtain ⟨ad2, hS⟩ := hS
          split at h
          · rename_i hl0
            simp [Rd.run] at h; subst h
            have hnil : new = [] := List.eq_nil_of_length_eq_zero hl0
            subst hnil
            obtain ⟨ad, cap, news, ev, n1, n2, n3, n4⟩ := elems_R (sz := i.size) hi hX hnew (by simp)
            have hnews : news = [] := List.eq_nil_of_length_eq_zero (by simpa using n1)
            subst hnews
            refine Ran.pure hi (v := a.eval s) (hexec ?_) hS0
            have := run_firstCells (P := P) (w := w) (size := i.size) (m := 0) (cap := cap) (ad := ad) (news := []) (by simp) (.inl rfl)
            rw [hS, ev]
            simp only [List.length_nil]
            cases ad2 <;> simp [Builtin.append_, h0, h1, run_underlying hus, run_underlying hux, sizeOf, typeInfo, hinfo, Builtin.lenOf, this, storeCells]
          · rename_i hl0
            split at h
            · rename_i hc
              simp only [Bool.and_eq_true] at hc
              obtain ⟨⟨hc1, hc2⟩, hc3⟩ := hc
              simp [Rd.run] at h; subst h
              have hall := all_len hc2
              obtain ⟨ad, cap, news, ev, n1, n2, n3, n4⟩ := elems_R hi hX hnew hall
              obtain ⟨z, hz, hzs⟩ := zeroFits_some hc3
              obtain ⟨hr1, hr2⟩ := roomy_some hc1
              rcases run_append (P := P) (w := w) (ty := o.type) (base := ad2) (n := 0) (cap := 0) (olds := []) (E := e) (cur := #[]) (c := cap) h0 h1 hus ⟨e', hux⟩ hinfo hz (by simp) (.inl rfl) n1 n4 n3 (by rw [Nat.zero_add]; omega) (by omega) (.inl ⟨rfl, rfl⟩) with ⟨hle, _⟩ | ⟨_, nc, c1, c2, c3⟩
              · omega
              · simp only [Nat.zero_add] at c1 c3
                have hcells : CellsAt g w.drew (#[] ++ news.toArray ++ Builtin.zeroCells z.cells (nc - new.length)) new.flatten 0 := by
                  refine CellsAt_of_RL (RL_mono (Ext.draw g w) _ _ n2) n3 fun j hj => ?_
                  simp [Array.getElem?_append]
                  omega
                obtain ⟨a1, a2, a3⟩ := hi.draw.alloc (e := e) (c := #[] ++ news.toArray ++ Builtin.zeroCells z.cells (nc - new.length)) (rows := new) (sz := i.size) hn (by omega) (RowsAt_flat.2 ⟨hall, hcells⟩) (by simp [n1])
                refine ⟨_, _, _, .inl (hexec (by rw [hS, ev]; exact c3)), by rw [apply_one]; exact a1, ?_, by rw [apply_one]; exact a2.draw⟩
                simp only [R]
                refine .inr ⟨_, nc, e, (#[] ++ news.toArray ++ Builtin.zeroCells z.cells (nc - new.length)).size, a3, by simp, ?_, ?_, c1, c2⟩
                · exact shape?_of_alloc _ _ _
                · have e5 : (#[] ++ news.toArray ++ Builtin.zeroCells z.cells (nc - new.length) : Array Value).size = new.length * i.size + (nc - new.length) * i.size := by simp [size_zeroCells, hzs, n1]
                  rw [e5, ← Nat.add_mul]
                  congr 1; omega
            · simp [Rd.run] at h
        · -- one of our own
          rename_i b ver szs ob n es
          obtain ⟨⟨sz, rows⟩, hr1, h⟩ := bind_some h
          have hrow := rowOf_some hr1
          simp only at hrow h
          split at h
          · rename_i hc
            obtain ⟨rfl, hle0, rfl, hroom, hall, hzf⟩ := hc
            simp [Rd.run] at h; subst h
            have hall := all_len hall
            rw [cutN_eq n rows hle0]
            have hlen : (rows.take n).length = n := by rw [List.length_take]; omega
            obtain ⟨ad, cap, news, ev, n1, n2, n3, n4⟩ := elems_R hi hX hnew hall
            obtain ⟨z, hz, hzs⟩ := zeroFits_some hzf
            obtain ⟨rm1, rm2⟩ := roomy_some hroom
            rw [es] at hS; simp only [R] at hS
            rcases hS with ⟨rfl, evs⟩ | ⟨k, scap, E', s', hk, evs, hsh, hcs, hns, hmax⟩
            · rw [List.take_zero]
              have hpos : 0 < i.size := by omega
              simp only [Nat.zero_add] at rm1 rm2
              by_cases hl0 : new.length = 0
              · have hnil : new = [] := List.eq_nil_of_length_eq_zero hl0
                subst hnil
                have hnews : news = [] := List.eq_nil_of_length_eq_zero (by simpa using n1)
                subst hnews
                obtain ⟨b1, b2⟩ := hi.blank hrow hpos
                refine ⟨.slice none 0 0, w, g, .inl (hexec ?_), by rw [apply_one]; exact b1, by simp [R], by rw [apply_one]; exact b2⟩
                have := run_firstCells (P := P) (w := w) (size := i.size) (m := 0) (cap := cap) (ad := ad) (news := []) (by simp) (.inl rfl)
                rw [evs, ev]
                simp only [List.length_nil]
                simp [Builtin.append_, h0, h1, run_underlying hus, run_underlying hux, sizeOf, typeInfo, hinfo, Builtin.lenOf, this]
              · rcases run_append (P := P) (w := w) (ty := o.type) (base := none) (n := 0) (cap := 0) (olds := []) (E := e) (cur := #[]) (c := cap) h0 h1 hus ⟨e', hux⟩ hinfo hz (by simp) (.inl rfl) n1 n4 n3 (by rw [Nat.zero_add]; omega) (by omega) (.inl ⟨rfl, rfl⟩) with ⟨hle, _⟩ | ⟨_, nc, c1, c2, c3⟩
                · omega
                · simp only [Nat.zero_add] at c1 c3
                  have hsz' : (#[] ++ news.toArray ++ Builtin.zeroCells z.cells (nc - new.length)).size = nc * i.size := by
                    have e5 : (#[] ++ news.toArray ++ Builtin.zeroCells z.cells (nc - new.length) : Array Value).size = new.length * i.size + (nc - new.length) * i.size := by simp [size_zeroCells, hzs, n1]
                    rw [e5, ← Nat.add_mul]
                    congr 1; omega
                  have hcells : CellsAt g w (#[] ++ news.toArray ++ Builtin.zeroCells z.cells (nc - new.length)) ([] ++ new).flatten 0 := by
                    refine CellsAt_of_RL (by simpa using n2) n3 fun j hj => ?_
                    simp [Array.getElem?_append]
                    omega
                  obtain ⟨s1, s2⟩ := hi.grow (w' := w.drew.alloc (.cells (#[] ++ news.toArray ++ Builtin.zeroCells z.cells (nc - new.length)) e)) (k' := w.heap.size) (rows' := [] ++ new) (k := 0) (c := #[]) (e := e) hrow hpos (alloc_get (w := w.drew)) (.inr (Nat.le_refl _)) (fun j hj _ => RowKit.Below.heap_alloc w.drew _ j hj) (by simp) rfl ⟨rfl, Nat.le_succ _⟩ rfl (RowsAt_flat.2 ⟨by simpa using hall, hcells⟩)
                    (by grind)
                  refine ⟨_, _, _, .inl (hexec (by rw [evs, ev]; exact c3)), by rw [apply_one]; exact s1, ?_, by rw [apply_one]; exact s2⟩
                  simp only [R]
                  exact .inr ⟨w.heap.size, nc, e, nc * i.size, by simp [Gh.born], by simp, by have := shape?_of_alloc w.drew (#[] ++ news.toArray ++ Builtin.zeroCells z.cells (nc - new.length)) e; rw [hsz'] at this; exact this, by simp, by simpa using c1, c2⟩
            obtain ⟨k', cur, E, q1, q2, q3, q4, q5, q6⟩ := hi.row b ver _ _ hrow hk
            rw [hk] at q1; simp at q1; obtain ⟨rfl, rfl⟩ := q1
            have hs' : s' = cur.size ∧ E' = E := by
              simp only [World.shape?, q2] at hsh
              simp at hsh; exact ⟨hsh.2.symm, hsh.1.symm⟩
            obtain ⟨rfl, rfl⟩ := hs'
            simp only [Nat.zero_mul, Nat.zero_add] at evs hcs
            have q3 : RowsAt g w cur i.size (rows.take n) 0 := RowsAt_of _ _ fun j r hr => by
              rw [List.getElem?_take] at hr
              split at hr
              · exact RowsAt_get _ _ _ _ q3 hr
              · cases hr
            generalize rows.take n = rowsN at q3 hlen ⊢
            obtain ⟨fl1, fl2⟩ := RowsAt_flat.1 q3
            obtain ⟨olds, o1, o2, o3, o4⟩ := RL_of_CellsAt fl2
            have ol : olds.length = n * i.size := by rw [o1, flatten_len fl1, hlen]
            have hcat : RL g w (rowsN ++ new).flatten (olds ++ news) := by rw [List.flatten_append]; exact RL_append o3 n2
            have hone2 : ∀ y ∈ olds ++ news, y.oneCell' = true := by
              intro y hy
              rcases List.mem_append.1 hy with h | h
              · exact o2 y h
              · exact n3 y h
            have hlens : ∀ r ∈ rowsN ++ new, r.length = i.size := by
              intro r hr
              rcases List.mem_append.1 hr with h | h
              · exact fl1 r h
              · exact hall r h
            have ocur : ∀ j, j < olds.length → cur[j]? = olds[j]? := fun j hj => by simpa using o4 j hj
            rcases run_append (P := P) (w := w) (ty := o.type) (base := some ⟨k, 0, none⟩) (n := n) (cap := scap) (olds := olds) (E := E') (cur := cur) (c := cap) h0 h1 hus ⟨e', hux⟩ hinfo hz ol
                (.inr ⟨_, rfl, fun j u hu => by
                  grind [add_addr, cell?_cells]⟩) n1 n4 n3 (by omega) (by omega) (.inr ⟨k, rfl, q2, hcs⟩) with ⟨hle, w', hr, hw⟩ | ⟨hlt, nc, c1, c2, c3⟩
            · -- in place
              have hcsz : n * i.size + news.length ≤ cur.size := by rw [n1, ← Nat.add_mul, ← hcs]; exact Nat.mul_le_mul_right _ hle
              have hw' : w' = w.setRow k (cur.toList.take (n * i.size) ++ news ++ cur.toList.drop (n * i.size + news.length)).toArray := by
                rcases hw with ⟨hm, hw⟩ | ⟨k2, hk2, hw⟩
                · have hnn : news = [] := List.eq_nil_of_length_eq_zero (by rw [n1, hm]; simp)
                  subst hnn
                  simp only [List.append_nil, List.length_nil, Nat.add_zero, List.take_append_drop, Array.toArray_toList]
                  rw [setRow_self w k cur _ _ q2]; exact hw
                · simp at hk2; subst hk2; exact hw
              have hsz' : (cur.toList.take (n * i.size) ++ news ++ cur.toList.drop (n * i.size + news.length)).toArray.size = cur.size := by simp; omega
              have hcells : CellsAt g w (cur.toList.take (n * i.size) ++ news ++ cur.toList.drop (n * i.size + news.length)).toArray (rowsN ++ new).flatten 0 := by
                refine CellsAt_of_RL hcat hone2 fun j hj => ?_
                simp only [Nat.zero_add, List.getElem?_toArray]
                simp only [List.length_append] at hj
                rw [List.append_assoc]
                by_cases hjo : j < olds.length
                · grind
                · grind
              obtain ⟨s1, s2⟩ := hi.grow (k' := k) (rows' := rowsN ++ new) hrow q5 (setRow_heap w k cur _ E' (0, 0) q2) (.inl ⟨rfl, hsz', rfl, hk, q2⟩) (fun j _ hj => setRow_other w k j _ hj) (by rw [setRow_size]; exact Nat.le_refl _) rfl ⟨rfl, Nat.le_of_eq rfl⟩ rfl (RowsAt_flat.2 ⟨hlens, hcells⟩)
                (by rw [hsz', ← hcs, List.length_append, hlen]; exact Nat.mul_le_mul_right _ hle)
              refine ⟨_, _, _, .inl (hexec (by rw [evs, ev, hr])), by rw [apply_one, hw']; exact s1, ?_, by rw [apply_one, hw']; exact s2⟩
              simp only [R]
              refine .inr ⟨k, scap, E', cur.size, by simp [Gh.born], by simp, ?_, by simpa using hcs, by omega, hmax⟩
              rw [hw']
              have := setRow_heap w k cur (cur.toList.take (n * i.size) ++ news ++ cur.toList.drop (n * i.size + news.length)).toArray E' (0, 0) q2
              simp only [World.shape?, this, hsz']
            · -- elsewhere
              have hsz' : (olds.toArray ++ news.toArray ++ Builtin.zeroCells z.cells (nc - (n + new.length))).size = nc * i.size := by
                simp only [Array.size_append, size_zeroCells, hzs, List.size_toArray, n1, ol, ← Nat.add_mul]
                congr 1; omega
              have hcells : CellsAt g w (olds.toArray ++ news.toArray ++ Builtin.zeroCells z.cells (nc - (n + new.length))) (rowsN ++ new).flatten 0 := by
                refine CellsAt_of_RL hcat hone2 fun j hj => ?_
                simp only [List.length_append] at hj
                rw [Nat.zero_add, Array.getElem?_append_left (by simp; omega)]
                simp
              obtain ⟨s1, s2⟩ := hi.grow (w' := w.drew.alloc (.cells (olds.toArray ++ news.toArray ++ Builtin.zeroCells z.cells (nc - (n + new.length))) e)) (k' := w.heap.size) (rows' := rowsN ++ new) (k := k) (c := cur) (e := E') hrow q5 (alloc_get (w := w.drew)) (.inr (Nat.le_refl _)) (fun j hj _ => RowKit.Below.heap_alloc w.drew _ j hj) (by simp) rfl ⟨rfl, Nat.le_succ _⟩ rfl (RowsAt_flat.2 ⟨hlens, hcells⟩)
                (by rw [hsz', List.length_append, hlen]; exact Nat.mul_le_mul_right _ c1)
              refine ⟨_, _, _, .inl (hexec (by rw [evs, ev]; exact c3)), by rw [apply_one]; exact s1, ?_, by rw [apply_one]; exact s2⟩
              simp only [R]
              exact .inr ⟨w.heap.size, nc, e, nc * i.size, by simp [Gh.born], by simp, by have := shape?_of_alloc w.drew (olds.toArray ++ news.toArray ++ Builtin.zeroCells z.cells (nc - (n + new.length))) e; rw [hsz'] at this; exact this, by simp, c1, c2⟩
          · simp [Rd.run] at h
        · -- a literal: no room is left
          rename_i rows es
          split at h
          · rename_i hc
            obtain ⟨hm, hroom, hall, hzf⟩ := hc
            simp [Rd.run] at h; subst h
            have hall := all_len hall
            have hallr : ∀ r ∈ rows, r.length = i.size := fun r hr => hall r (List.mem_append.2 (.inl hr))
            have halln : ∀ r ∈ new, r.length = i.size := fun r hr => hall r (List.mem_append.2 (.inr hr))
            obtain ⟨ad, cap, news, ev, n1, n2, n3, n4⟩ := elems_R hi hX hnew halln
            obtain ⟨z, hz, hzs⟩ := zeroFits_some hzf
            obtain ⟨rm1, rm2⟩ := roomy_some hroom
            rw [es] at hS
            obtain ⟨ad2, cap2, olds, ev2, ol, o3, o2, o4⟩ := elems_R (rows := rows) hi hS (by simp [elems, Rd.run]) hallr
            simp only [R] at hS
            obtain ⟨k, szk, ek, hrr⟩ := hS
            rw [ek] at ev2
            simp only [Value.slice.injEq, true_and] at ev2
            obtain ⟨rfl, rfl⟩ := ev2
            obtain ⟨nc, c1, c2, c3⟩ := run_append_new (P := P) (w := w) (ty := o.type) (base := some ⟨k, 0, none⟩) (n := rows.length) (cap := rows.length) (m := new.length) (c := cap) (olds := olds) h0 h1 hus ⟨e', hux⟩ hinfo hz ol o4 n1 n4 (by omega) (by omega) (by omega)
            have hcat : RL g w (rows ++ new).flatten (olds ++ news) := by rw [List.flatten_append]; exact RL_append o3 n2
            have hone2 : ∀ y ∈ olds ++ news, y.oneCell' = true := by
              intro y hy
              rcases List.mem_append.1 hy with h | h
              · exact o2 y h
              · exact n3 y h
            have hsz' : (olds.toArray ++ news.toArray ++ Builtin.zeroCells z.cells (nc - (rows.length + new.length))).size = nc * i.size := by
              simp only [Array.size_append, size_zeroCells, hzs, List.size_toArray, n1, ol, ← Nat.add_mul]
              congr 1; omega
            have hcells : CellsAt g w.drew (olds.toArray ++ news.toArray ++ Builtin.zeroCells z.cells (nc - (rows.length + new.length))) (rows ++ new).flatten 0 := by
              refine CellsAt_of_RL (RL_mono (Ext.draw g w) _ _ hcat) hone2 fun j hj => ?_
              simp only [List.length_append] at hj
              rw [Nat.zero_add, Array.getElem?_append_left (by simp; omega)]
              simp
            obtain ⟨a1, a2, a3⟩ := hi.draw.alloc (e := e) (c := olds.toArray ++ news.toArray ++ Builtin.zeroCells z.cells (nc - (rows.length + new.length))) (rows := rows ++ new) (sz := i.size) hn (by omega) (RowsAt_flat.2 ⟨hall, hcells⟩) (by rw [hsz', List.length_append]; exact Nat.mul_le_mul_right _ c1)
            refine ⟨_, _, _, .inl (hexec (by rw [ek, ev]; exact c3)), by rw [apply_one]; exact a1, ?_, by rw [apply_one]; exact a2.draw⟩
            simp only [R]
            refine .inr ⟨_, nc, e, nc * i.size, a3, by simp, ?_, by simp, c1, c2⟩
            have := shape?_of_alloc w.drew (olds.toArray ++ news.toArray ++ Builtin.zeroCells z.cells (nc - (rows.length + new.length))) e
            rw [hsz'] at this
            exact this
          · simp [Rd.run] at h
        · simp [Rd.run] at h
    · simp [Rd.run] at h
  · simp [Rd.run] at h

end
end Go.AM
