/- An append to a whole row of ours, of which another slice may read on: in its place, or elsewhere. No program. -/
import Derived.Test.YtbfglcegmhgjdaaGreatDoorAmGc
namespace Go.AM
section
set_option linter.unusedSectionVars false
variable [Globs] {P : Program} {a : Act} {o : Oper} {g : Gh} {H : List ABlk} {w : World} {rho : Operand → AVal}

theorem growT_some {ST XT : TypeId} {sz bytes : Nat} (h : growT P ST XT = some (sz, bytes)) : ∃ e e' i, P.underlying ST = some (.slice e) ∧ P.underlying XT = some (.slice e') ∧ P.info? e = some i ∧ i.size = sz ∧ i.bytes = bytes ∧ 0 < sz ∧ zeroFits i = true := by
  grind [growT]

theorem run_grow {nid ST XT : Nat} {args : Array Operand} {ats : Array TypeId} {s x : Operand} {b ver sz bytes : Nat} {rows new : List (List AVal)} (hi : Inv g H w) (hρ : ∀ x, R g w (rho x) (a.eval x)) (hn : H[nid]? = some .unborn)
    (ho : o.op = .call { callee := .builtin .append, args := args, argTypes := ats }) (h0 : ats[0]? = some ST) (h1 : ats[1]? = some XT) (hs0 : args[0]? = some s) (hx0 : args[1]? = some x) (hsz : args.size = 2)
    (hT : growT P ST XT = some (sz, bytes)) (es : rho s = .sl b ver sz 0 rows.length) (hrow : H[b]? = some (.row ver sz rows)) (hnew : (elems (rho x)).run H = some new) (hall : (new.all fun r => r.length == sz) = true) (hpos : new.length ≠ 0)
    (hroom : roomy (rows.length + new.length) bytes = true) :
    ∃ v w', (execOp a.eval o).run P w = .ok (.value v) w' ∧
      ((R g w' (.sl b ver sz 0 (rows.length + new.length)) v ∧ Inv g (H.set b (.row ver sz (rows ++ new))) w' ∧ Later g H w g (H.set b (.row ver sz (rows ++ new))) w') ∨
       ∃ g', R g' w' (.sl nid 0 sz 0 (rows.length + new.length)) v ∧ Inv g' (H.set nid (.row 0 sz (rows ++ new))) w' ∧ Later g H w g' (H.set nid (.row 0 sz (rows ++ new))) w') := by
  have hargs : args = #[s, x] := by
    obtain ⟨l⟩ := args
    match l, hsz with
    | [p, q], _ => simp at hs0 hx0; simp [hs0, hx0]
  have hexec : ∀ {v w'}, (Builtin.append_ ats o.type #[a.eval s, a.eval x]).run P w = .ok v w' → (execOp a.eval o).run P w = .ok (.value v) w' := by
    intro v w' hr
    simp [execOp, ho, resolve, invoke, builtin, hargs, hr]
  have hS := hρ s
  have hX := hρ x
  obtain ⟨e, e', i, hus, hux, hinfo, rfl, rfl, hpz, hzf⟩ := growT_some hT
  have hall := all_len hall
  obtain ⟨ad, cap, news, ev, n1, n2, n3, n4⟩ := elems_R hi hX hnew hall
  obtain ⟨z, hz, hzs⟩ := zeroFits_some hzf
  obtain ⟨rm1, rm2⟩ := roomy_some hroom
  rw [es] at hS; simp only [R] at hS
  rcases hS with ⟨hl0, evs⟩ | ⟨k, scap, E', s', hk, evs, hsh, hcs, hns, hmax⟩
  · have hr0 : rows = [] := List.eq_nil_of_length_eq_zero hl0
    subst hr0
    simp only [List.length_nil, Nat.zero_add, List.nil_append] at rm1 rm2 ⊢
    rcases run_append (P := P) (w := w) (ty := o.type) (base := none) (n := 0) (cap := 0) (olds := []) (E := e) (cur := #[]) (c := cap) h0 h1 hus ⟨e', hux⟩ hinfo hz (by simp) (.inl rfl) n1 n4 n3 (by rw [Nat.zero_add]; omega) (by omega) (.inl ⟨rfl, rfl⟩) with ⟨hle, _⟩ | ⟨_, nc, c1, c2, c3⟩
    · omega
    · simp only [Nat.zero_add] at c1 c3
      have hcells : CellsAt g w.drew (#[] ++ news.toArray ++ Builtin.zeroCells z.cells (nc - new.length)) new.flatten 0 := by
        refine CellsAt_of_RL (RL_mono (Ext.draw g w) _ _ n2) n3 fun j hj => ?_
        simp [Array.getElem?_append]
        omega
      obtain ⟨a1, a2, a3⟩ := hi.draw.alloc (e := e) (c := #[] ++ news.toArray ++ Builtin.zeroCells z.cells (nc - new.length)) (rows := new) (sz := i.size) hn (by omega) (RowsAt_flat.2 ⟨hall, hcells⟩) (by simp [n1])
      refine ⟨_, _, hexec (by rw [evs, ev]; exact c3), .inr ⟨_, ?_, a1, a2.draw⟩⟩
      simp only [R]
      refine .inr ⟨_, nc, e, (#[] ++ news.toArray ++ Builtin.zeroCells z.cells (nc - new.length)).size, a3, by simp, shape?_of_alloc _ _ _, ?_, c1, c2⟩
      have e5 : (#[] ++ news.toArray ++ Builtin.zeroCells z.cells (nc - new.length) : Array Value).size = new.length * i.size + (nc - new.length) * i.size := by simp [size_zeroCells, hzs, n1]
      rw [e5, ← Nat.add_mul]
      congr 1; omega
  obtain ⟨k', cur, E, q1, q2, q3, q4, q5, q6⟩ := hi.row b ver _ _ hrow hk
  rw [hk] at q1; simp at q1; obtain rfl := q1
  have hs' : s' = cur.size ∧ E' = E := by
    simp only [World.shape?, q2] at hsh
    simp at hsh; exact ⟨hsh.2.symm, hsh.1.symm⟩
  obtain ⟨rfl, rfl⟩ := hs'
  simp only [Nat.zero_mul, Nat.zero_add] at evs hcs
  obtain ⟨fl1, fl2⟩ := RowsAt_flat.1 q3
  obtain ⟨olds, o1, o2, o3, o4⟩ := RL_of_CellsAt fl2
  generalize hnn : rows.length = n at *
  have ol : olds.length = n * i.size := by rw [o1, flatten_len fl1, hnn]
  have hcat : RL g w (rows ++ new).flatten (olds ++ news) := by rw [List.flatten_append]; exact RL_append o3 n2
  have hone2 : ∀ y ∈ olds ++ news, y.oneCell' = true := by
    intro y hy
    rcases List.mem_append.1 hy with h | h
    · exact o2 y h
    · exact n3 y h
  have hlens : ∀ r ∈ rows ++ new, r.length = i.size := by
    intro r hr
    rcases List.mem_append.1 hr with h | h
    · exact fl1 r h
    · exact hall r h
  have ocur : ∀ j, j < olds.length → cur[j]? = olds[j]? := fun j hj => by simpa using o4 j hj
  rcases run_append (P := P) (w := w) (ty := o.type) (base := some ⟨k, 0, none⟩) (n := n) (cap := scap) (olds := olds) (E := E') (cur := cur) (c := cap) h0 h1 hus ⟨e', hux⟩ hinfo hz ol
      (.inr ⟨_, rfl, fun j u hu => by
        grind [add_addr, cell?_cells]⟩) n1 n4 n3 (by omega) (by omega) (.inr ⟨k, rfl, q2, hcs⟩) with ⟨hle, w', hr, hw⟩ | ⟨hlt, nc, c1, c2, c3⟩
  · have hcsz : n * i.size + news.length ≤ cur.size := by rw [n1, ← Nat.add_mul, ← hcs]; exact Nat.mul_le_mul_right _ hle
    have hw' : w' = w.setRow k (cur.toList.take (n * i.size) ++ news ++ cur.toList.drop (n * i.size + news.length)).toArray := by
      rcases hw with ⟨hm, hw⟩ | ⟨k2, hk2, hw⟩
      · omega
      · simp at hk2; subst hk2; exact hw
    have hsz' : (cur.toList.take (n * i.size) ++ news ++ cur.toList.drop (n * i.size + news.length)).toArray.size = cur.size := by simp; omega
    have hcells : CellsAt g w (cur.toList.take (n * i.size) ++ news ++ cur.toList.drop (n * i.size + news.length)).toArray (rows ++ new).flatten 0 := by
      refine CellsAt_of_RL hcat hone2 fun j hj => ?_
      simp only [Nat.zero_add, List.getElem?_toArray]
      simp only [List.length_append] at hj
      rw [List.append_assoc]
      by_cases hjo : j < olds.length
      · grind
      · grind
    obtain ⟨s1, s2⟩ := hi.store (w' := w') (rows' := rows ++ new) hrow hk q2 (by rw [hw']; exact setRow_heap w k cur _ E' (0, 0) q2) hsz' (fun j hj => by rw [hw']; exact setRow_other w k j _ hj) (by rw [hw', setRow_size]) (by rw [hw']; rfl) (by simp_all) (by rw [hw']; rfl) (RowsAt_flat.2 ⟨hlens, hcells⟩)
      (by rw [hsz', ← hcs, List.length_append, hnn]; exact Nat.mul_le_mul_right _ hle)
    refine ⟨_, _, hexec (by rw [evs, ev, hr]), .inl ⟨?_, s1, s2⟩⟩
    simp only [R]
    refine .inr ⟨k, scap, E', cur.size, hk, by simp, ?_, by simpa using hcs, by omega, hmax⟩
    rw [hw']
    have := setRow_heap w k cur (cur.toList.take (n * i.size) ++ news ++ cur.toList.drop (n * i.size + news.length)).toArray E' (0, 0) q2
    simp only [World.shape?, this, hsz']
  · have hsz' : (olds.toArray ++ news.toArray ++ Builtin.zeroCells z.cells (nc - (n + new.length))).size = nc * i.size := by
      simp only [Array.size_append, size_zeroCells, hzs, List.size_toArray, n1, ol, ← Nat.add_mul]
      congr 1; omega
    have hcells : CellsAt g w.drew (olds.toArray ++ news.toArray ++ Builtin.zeroCells z.cells (nc - (n + new.length))) (rows ++ new).flatten 0 := by
      refine CellsAt_of_RL (RL_mono (Ext.draw g w) _ _ hcat) hone2 fun j hj => ?_
      simp only [List.length_append] at hj
      rw [Nat.zero_add, Array.getElem?_append_left (by simp; omega)]
      simp
    obtain ⟨a1, a2, a3⟩ := hi.draw.alloc (e := e) (c := olds.toArray ++ news.toArray ++ Builtin.zeroCells z.cells (nc - (n + new.length))) (rows := rows ++ new) (sz := i.size) hn (by omega) (RowsAt_flat.2 ⟨hlens, hcells⟩)
      (by rw [hsz', List.length_append, hnn]; exact Nat.mul_le_mul_right _ c1)
    refine ⟨_, _, hexec (by rw [evs, ev]; exact c3), .inr ⟨_, ?_, a1, a2.draw⟩⟩
    simp only [R]
    exact .inr ⟨w.heap.size, nc, e, nc * i.size, a3, by simp, by have := shape?_of_alloc w.drew (olds.toArray ++ news.toArray ++ Builtin.zeroCells z.cells (nc - (n + new.length))) e; rw [hsz'] at this; exact this, by simp, c1, c2⟩
end
end Go.AM
