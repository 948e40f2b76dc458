/- Each operation of the machine does what the abstract machine's does (calls of functions apart). No program. -/
import Derived.Test.YtbfglcegmhgjdaaGreatDoorAmC
import Derived.Laws.CopyRow
namespace Go.AM

def Eff.apply (e : Eff) (H : List ABlk) : List ABlk := e.upd.foldl (fun H p => H.set p.1 p.2) H ++ e.news

/-- The operation ran, as ours did. -/
def Ran [Globs] (P : Program) (a : Act) (o : Oper) (g : Gh) (H : List ABlk) (w : World) (eff : Eff) : Prop :=
  ∃ v w' g', ((execOp a.eval o).run P w = .ok (.value v) w' ∨ ((execOp a.eval o).run P w = .ok .skip w' ∧ v = undef)) ∧
    Inv g' (eff.apply H) w' ∧ R g' w' eff.val v ∧ Later g H w g' (eff.apply H) w'

section
set_option linter.unusedSectionVars false
variable [Globs] {P : Program} {a : Act} {o : Oper} {g : Gh} {H : List ABlk} {w : World}

/-- Memory in which nothing of ours, and nothing that was there, has been touched. -/
theorem Inv.frame {g : Gh} {H : List ABlk} {w w1 : World} (hi : Inv g H w) (hk : ∀ k, k < w.heap.size → w1.heap[k]? = w.heap[k]?) (hs : w.heap.size ≤ w1.heap.size) (hos : w1.os = w.os) (htp : w1.tape = w.tape ∧ w.drawn ≤ w1.drawn) (hout : w1.output = w.output) :
    Inv g H w1 ∧ Later g H w g H w1 := by
  have hshape : ∀ j x, w.shape? j = some x → w1.shape? j = some x := by
    intro j x hx
    have hj : j < w.heap.size := by
      apply Decidable.byContradiction; intro hn
      simp [World.shape?, Array.getElem?_eq_none (Nat.le_of_not_lt hn)] at hx
    simpa [World.shape?, hk j hj] using hx
  have hext : Ext g w g w1 := ⟨fun _ _ _ h => h, fun _ _ h => h, fun k o h => cell?_of_heap (hk k (hi.stold k o h)) o, hshape⟩
  refine ⟨⟨fun b x hb => Good_mono hext (hi.good b x hb) (fun v k z h1 h2 => hk k (hi.lies hb h1 h2)) (fun _ _ h => h), hi.inj, hi.fresh, hi.next, hi.free, fun k o h => Nat.lt_of_lt_of_le (hi.stold k o h) hs, hi.globs.mono hext⟩, ?_⟩
  exact ⟨hext, hs, fun k h _ => hk k h, fun k _ h => h, Nat.le_refl _, hos, htp, hout, fun _ _ _ h => .inl h, fun _ h => ⟨h, fun _ => rfl⟩, fun _ ver _ z h => .inl ⟨ver, z, h⟩⟩

theorem Ran.pure {v : Value} {x : AVal} (hi : Inv g H w) (h : (execOp a.eval o).run P w = .ok (.value v) w) (hr : R g w x v) : Ran P a o g H w { val := x } :=
  ⟨v, w, g, .inl h, by simpa [Eff.apply] using hi, hr, by simpa [Eff.apply] using Later.refl g H w⟩

theorem yields_some {H : List ABlk} {v : Option AVal} {e : Eff} (h : (yields v).run H = some e) : ∃ x, v = some x ∧ e = { val := x } := by
  cases v with
  | none => simp [yields, Rd.run] at h
  | some x => grind [yields, Rd.run]

theorem optEff_some {H : List ABlk} {v : Option Eff} {e : Eff} (h : (optEff v).run H = some e) : v = some e := by
  cases v with
  | none => simp [optEff, Rd.run] at h
  | some x => simpa [optEff, Rd.run] using h

theorem bind_some {α β : Type} {H : List ABlk} : ∀ {m : Rd α} {f : α → Rd β} {x : β}, (m.bind f).run H = some x → ∃ y, m.run H = some y ∧ (f y).run H = some x
  | .fail, _, _, h => by simp [Rd.bind, Rd.run] at h
  | .done a, f, x, h => ⟨a, rfl, h⟩
  | .get b k, f, x, h => by
    simp only [Rd.bind, Rd.run] at h ⊢
    split at h
    · exact bind_some h
    · cases h

theorem rowOf_some {H : List ABlk} {b ver : Nat} {x : Nat × List (List AVal)} (h : (rowOf b ver).run H = some x) : H[b]? = some (.row ver x.1 x.2) := by
  grind [rowOf, Rd.run]

/-! ### Types -/

theorem sizeT_some {T n : Nat} (h : sizeT P T = some n) : (sizeOf T).run P w = .ok n w := by
  unfold sizeT at h
  cases hi : P.info? T with
  | none => simp [hi] at h
  | some i => simp [hi] at h; simp [sizeOf, typeInfo, hi, h]

theorem aggT_run {T : Nat} (hu : (P.underlying T).isSome) : (isAgg T).run P w = .ok (aggT P T) w := by
  obtain ⟨d, hd⟩ := Option.isSome_iff_exists.1 hu
  unfold isAgg aggT
  simp only [hd, Sem.run_bind, run_underlying hd, Result.andThen_ok]
  cases d <;> rfl

theorem loadIn_under {T o : Nat} {cs : List AVal} {x : AVal} (h : loadIn P T cs o = some x) : (P.underlying T).isSome := by
  grind [loadIn, aggT]

/-! ### What a value of ours tells of the machine's -/

theorem R_cellsOk {v : AVal} {x : Value} {cs : List AVal} (h : R g w v x) (hc : v.cellsOk = some cs) : x.cells.size = cs.length ∧ (∀ y ∈ x.cells.toList, y.oneCell' = true) ∧ RL g w cs x.cells.toList := by
  have single : ∀ (v : AVal) (x : Value), R g w v x → v.storable = true → x.oneCell' = true := by
    intro v x h hs
    cases v <;> simp only [AVal.storable, R] at h hs
    case sc v => subst h; exact hs
    case agg => cases hs
    case tup => cases hs
    case junk => cases hs
    case ptr => obtain ⟨_, _, _, rfl⟩ := h; rfl
    case cptr => obtain ⟨_, _, rfl, _⟩ := h; rfl
    case sl => rcases h with ⟨_, rfl⟩ | ⟨_, _, _, _, _, rfl, _⟩ <;> rfl
    case lst => obtain ⟨_, _, rfl, _⟩ := h; rfl
    case fn => obtain ⟨_, _, rfl, _⟩ := h; rfl
    case ifc => obtain ⟨_, rfl, _⟩ := h; rfl
    case mp => obtain ⟨_, _, _, rfl⟩ := h; rfl
    case yld => obtain ⟨_, _, _, rfl⟩ := h; rfl
    case sa => obtain ⟨_, _, _, _, rfl, _⟩ := h; rfl
    case glob => subst h; rfl
    case emp => obtain ⟨_, rfl⟩ := h; rfl
    case nz => obtain ⟨_, _, rfl, _⟩ := h; rfl
    case tls => obtain ⟨_, _, rfl, _⟩ := h; rfl
  by_cases ha : ∃ ds, v = .agg ds
  · obtain ⟨ds, rfl⟩ := ha
    simp [AVal.cellsOk] at hc; subst hc
    simp only [R] at h
    obtain ⟨vs, rfl, h1, h2⟩ := h
    obtain ⟨h3, _⟩ := RL_get _ _ h2
    exact ⟨by simp [Value.cells, h3], by simpa [Value.cells] using h1, by simpa [Value.cells] using h2⟩
  · have hs : v.storable = true ∧ cs = [v] := by
      cases v <;> simp only [AVal.cellsOk] at hc <;> first | (exact absurd ⟨_, rfl⟩ ha) | skip
      all_goals
        grind
    obtain ⟨hs, rfl⟩ := hs
    have h1 := single v x h hs
    have hcx : x.cells = #[x] := by cases x <;> simp [Value.oneCell', Value.cells] at h1 ⊢
    grind [RL]

/-- Cells of the machine's behind cells of ours. -/
theorem CellsAt_of_RL {c : Array Value} {o : Nat} {cs : List AVal} {vs : List Value} (h : RL g w cs vs) (h1 : ∀ y ∈ vs, y.oneCell' = true) (hc : ∀ j, j < vs.length → c[o + j]? = vs[j]?) : CellsAt g w c cs o := by
  grind [RL_get, CellsAt_of]

theorem RL_of_CellsAt {c : Array Value} {o : Nat} {cs : List AVal} (h : CellsAt g w c cs o) : ∃ vs : List Value, vs.length = cs.length ∧ (∀ y ∈ vs, y.oneCell' = true) ∧ RL g w cs vs ∧ ∀ j, j < vs.length → c[o + j]? = vs[j]? := by
  induction cs generalizing o with
  | nil => exact ⟨[], rfl, by simp, by simp [RL], by simp⟩
  | cons a as ih =>
    obtain ⟨⟨y, h1, h2, h3⟩, h4⟩ := h
    obtain ⟨vs, q1, q2, q3, q4⟩ := ih h4
    refine ⟨y :: vs, by simp [q1], by simpa using ⟨h2, q2⟩, by grind [RL], fun j hj => ?_⟩
    grind

theorem RL_of_RC {k o : Nat} {cs : List AVal} (h : RC g w cs k o) : ∃ vs : List Value, vs.length = cs.length ∧ (∀ y ∈ vs, y.oneCell' = true) ∧ RL g w cs vs ∧ ∀ j, j < vs.length → w.cell? ⟨k, o + j, none⟩ = vs[j]? := by
  induction cs generalizing o with
  | nil => exact ⟨[], rfl, by simp, by simp [RL], by simp⟩
  | cons a as ih =>
    simp only [RC] at h
    obtain ⟨⟨_, y, h1, h2, h3⟩, h4⟩ := h
    obtain ⟨vs, q1, q2, q3, q4⟩ := ih h4
    refine ⟨y :: vs, by simp [q1], by simpa using ⟨h2, q2⟩, by grind [RL], fun j hj => ?_⟩
    grind

theorem RL_sub {cs : List AVal} {vs : List Value} (h : RL g w cs vs) (o n : Nat) : RL g w ((cs.drop o).take n) ((vs.drop o).take n) := by
  grind [RL_get, RL_of]

theorem add_addr (k o n : Nat) : (⟨k, o, none⟩ : Addr).add n = ⟨k, o + n, none⟩ := by
  unfold Addr.add; split <;> simp_all

/-- A variable loaded, from cells that are known. -/
theorem run_loadVar {T k o p : Nat} {cs : List AVal} {vs : List Value} {x : AVal} (hl : loadIn P T cs o = some x) (hv : RL g w cs vs) (h1 : ∀ y ∈ vs, y.oneCell' = true)
    (hc : ∀ j, j < vs.length → w.cell? ⟨k, p + j, none⟩ = vs[j]?) : ∃ v, (loadVar T ⟨k, p + o, none⟩).run P w = .ok v w ∧ R g w x v := by
  obtain ⟨hlen, hg⟩ := RL_get _ _ hv
  have hu := loadIn_under hl
  unfold loadIn at hl
  unfold loadVar
  simp only [Sem.run_bind, aggT_run hu, Result.andThen_ok]
  by_cases hagg : aggT P T = true
  · simp only [hagg, if_true] at hl ⊢
    cases hs : sizeT P T with
    | none => simp [hs] at hl
    | some n =>
      simp only [hs] at hl
      split at hl
      · rename_i hle
        simp at hl; subst hl
        have hlen' : ((vs.drop o).take n).length = n := by simp; omega
        have hrun := run_loadCells_list (P := P) w ⟨k, p + o, none⟩ ((vs.drop o).take n) (fun j v hj => by
          grind [add_addr])
        rw [hlen'] at hrun
        refine ⟨.agg ((vs.drop o).take n).toArray, ?_, ?_⟩
        · simp [sizeT_some hs, hrun]
        grind [R, RL_sub]
      · cases hl
  · simp only [hagg, hu, if_true] at hl ⊢
    obtain ⟨y, hy, hr⟩ := hg o x hl
    have hlt : o < vs.length := (List.getElem?_eq_some_iff.1 hy).1
    simp_all

theorem run_part {T o : Nat} {cs : List AVal} {vs : List Value} {x : AVal} (hl : loadIn P T cs o = some x) (hv : RL g w cs vs) (h1 : ∀ y ∈ vs, y.oneCell' = true) :
    ∃ v, (part T vs.toArray o).run P w = .ok v w ∧ R g w x v := by
  obtain ⟨hlen, hg⟩ := RL_get _ _ hv
  have hu := loadIn_under hl
  unfold loadIn at hl
  unfold part
  simp only [Sem.run_bind, aggT_run hu, Result.andThen_ok]
  by_cases hagg : aggT P T = true
  · simp only [hagg, if_true] at hl ⊢
    cases hs : sizeT P T with
    | none => simp [hs] at hl
    | some n =>
      simp only [hs] at hl
      split at hl
      · rename_i hle
        simp at hl; subst hl
        refine ⟨.agg ((vs.drop o).take n).toArray, ?_, ?_⟩
        · simp [sizeT_some hs, List.take_drop]
        grind [R, RL_sub]
      · cases hl
  · simp only [hagg, hu, if_true] at hl ⊢
    obtain ⟨y, hy, hr⟩ := hg o x hl
    exact ⟨y, by simp [hy], hr⟩


/-! ### The operations -/

theorem ran_move {x : Operand} {rho : Operand → AVal} (hi : Inv g H w) (hρ : ∀ x, R g w (rho x) (a.eval x)) (ho : o.op = .move x ∨ o.op = .assign x) : Ran P a o g H w { val := rho x } := by
  refine Ran.pure hi ?_ (hρ x)
  rcases ho with ho | ho <;> simp [execOp, ho]

theorem ran_pick {c x y : Operand} {t : Bool} {rho : Operand → AVal} (hi : Inv g H w) (hρ : ∀ x, R g w (rho x) (a.eval x)) (ho : o.op = .pick c x y) (hc : rho c = .sc (.bool t)) :
    Ran P a o g H w { val := if t then rho x else rho y } := by
  have hb := hρ c
  rw [hc] at hb; simp only [R] at hb
  cases t <;> exact Ran.pure hi (by simp [execOp, ho, hb, asBool]) (hρ _)

theorem apply_one (H : List ABlk) (v : AVal) (b : Nat) (x : ABlk) : ({ val := v, upd := [(b, x)] } : Eff).apply H = H.set b x := by simp [Eff.apply]

/-- A new variable of one row. -/
theorem ran_box {nid : Nat} {cs : List AVal} {vs : List Value} {e : TypeId} {eff : Eff} (hi : Inv g H w) (hn : H[nid]? = some .unborn) (hl : RL g w cs vs) (h1 : ∀ y ∈ vs, y.oneCell' = true) (hb : boxA nid cs = some eff)
    (hr : (execOp a.eval o).run P w = .ok (.value (.pointer (some ⟨w.heap.size, 0, none⟩))) (w.alloc (.cells vs.toArray e))) : Ran P a o g H w eff := by
  unfold boxA at hb
  split at hb
  · rename_i hp
    simp at hb; subst hb
    obtain ⟨hlen, _⟩ := RL_get _ _ hl
    have hc : CellsAt g w vs.toArray cs 0 := CellsAt_of_RL hl h1 (fun j _ => by simp)
    obtain ⟨h2, h3, h4⟩ := hi.alloc (c := vs.toArray) (e := e) (rows := [cs]) (sz := cs.length) hn hp ⟨⟨rfl, hc⟩, trivial⟩ (by simp [hlen])
    refine ⟨_, _, _, .inl hr, by rw [apply_one]; exact h2, ?_, by rw [apply_one]; exact h3⟩
    grind [R]
  · cases hb

theorem zeroCellsA_some {T : Nat} {cs : List AVal} (h : zeroCellsA P T = some cs) : ∃ i z, P.info? T = some i ∧ i.zero = some z ∧ cs = z.cells.toList.map .sc ∧ ∀ y ∈ z.cells.toList, y.oneCell' = true := by
  grind [zeroCellsA]

theorem ran_alloc {nid T : Nat} {eff : Eff} (hi : Inv g H w) (hn : H[nid]? = some .unborn) (ho : o.op = .alloc T) (h : (zeroCellsA P T).bind (boxA nid) = some eff) : Ran P a o g H w eff := by
  obtain ⟨cs, hz, hb⟩ := Option.bind_eq_some_iff.1 h
  obtain ⟨i, z, h1, h2, rfl, h4⟩ := zeroCellsA_some hz
  refine ran_box (e := T) (vs := z.cells.toList) hi hn (RL_sc _) h4 hb ?_
  simp [execOp, ho, Instr.alloc, zeroValue, typeInfo, h1, h2, newVar, newRow]

/-- A variable without cells. -/
theorem ran_alloc0 {T : Nat} (hi : Inv g H w) (ho : o.op = .alloc T) (h : zeroCellsA P T = some []) : Ran P a o g H w { val := .cptr [] 0 } := by
  obtain ⟨i, z, h1, h2, h3, h4⟩ := zeroCellsA_some h
  obtain ⟨f1, f2⟩ := hi.frame (w1 := w.alloc (.cells z.cells T)) (fun k hk => RowKit.Below.heap_alloc w _ k hk) (by simp) rfl ⟨rfl, Nat.le_refl _⟩ rfl
  refine ⟨.pointer (some ⟨w.heap.size, 0, none⟩), w.alloc (.cells z.cells T), g, .inl ?_, by simpa [Eff.apply] using f1, ?_, by simpa [Eff.apply] using f2⟩
  · simp [execOp, ho, Instr.alloc, zeroValue, typeInfo, h1, h2, newVar, newRow]
  · simp only [R]
    exact ⟨w.heap.size, 0, rfl, rfl, by simp [RC]⟩

theorem ran_boxOp {nid T : Nat} {x : Operand} {eff : Eff} {rho : Operand → AVal} (hi : Inv g H w) (hρ : ∀ x, R g w (rho x) (a.eval x)) (hn : H[nid]? = some .unborn) (ho : o.op = .box T x) (h : (rho x).cellsOk.bind (boxA nid) = some eff) : Ran P a o g H w eff := by
  obtain ⟨cs, hz, hb⟩ := Option.bind_eq_some_iff.1 h
  obtain ⟨_, h2, h3⟩ := R_cellsOk (hρ x) hz
  refine ran_box (e := T) (vs := (a.eval x).cells.toList) hi hn h3 h2 hb ?_
  simp [execOp, ho, Instr.box, newVar, newRow]

theorem ran_load {T : Nat} {x : Operand} {eff : Eff} {rho : Operand → AVal} (hi : Inv g H w) (hρ : ∀ x, R g w (rho x) (a.eval x)) (ho : o.op = .load T x) (h : (loadA P T (rho x)).run H = some eff) : Ran P a o g H w eff := by
  have hx := hρ x
  unfold loadA at h
  split at h
  · rename_i b off hb
    rw [hb] at hx; simp only [R] at hx
    obtain ⟨y, hy, rfl⟩ := yields_some h
    obtain ⟨cs, hcs, hl⟩ := Option.bind_eq_some_iff.1 hy
    obtain ⟨vs, v1, v2, v3, v4⟩ := RL_of_RC (hi.globs _ _ hcs).2
    obtain ⟨v, r1, r2⟩ := run_loadVar (P := P) (k := b) (p := 0) hl v3 v2 v4
    refine Ran.pure hi ?_ r2
    simp only [Nat.zero_add] at r1
    simp [execOp, ho, hx, Instr.loadAt, Instr.sureAddr, r1]
  · rename_i b ver i off hb
    rw [hb] at hx; simp only [R] at hx
    obtain ⟨k, sz, hk, hv⟩ := hx
    obtain ⟨⟨sz', rows⟩, h1, h2⟩ := bind_some h
    have hrow := rowOf_some h1
    obtain ⟨y, hy, rfl⟩ := yields_some h2
    obtain ⟨cs, hcs, hl⟩ := Option.bind_eq_some_iff.1 hy
    obtain ⟨k', c, e, q1, q2, q3, _⟩ := hi.row b ver _ _ hrow hk
    rw [hk] at q1; simp at q1; obtain ⟨rfl, rfl⟩ := q1
    obtain ⟨_, q4⟩ := RowsAt_get _ _ _ _ q3 hcs
    obtain ⟨vs, v1, v2, v3, v4⟩ := RL_of_CellsAt q4
    obtain ⟨v, r1, r2⟩ := run_loadVar (P := P) (k := k) (p := 0 + i * sz) hl v3 v2 (fun j hj => by rw [cell?_cells q2]; exact v4 j hj)
    refine Ran.pure hi ?_ r2
    simp at r1
    simp [execOp, ho, hv, Instr.loadAt, Instr.sureAddr, r1]
  · rename_i cs off hb
    rw [hb] at hx; simp only [R] at hx
    obtain ⟨k, p, hv, _, hc⟩ := hx
    obtain ⟨y, hy, rfl⟩ := yields_some h
    obtain ⟨vs, v1, v2, v3, v4⟩ := RL_of_RC hc
    obtain ⟨v, r1, r2⟩ := run_loadVar (P := P) (k := k) (p := p) hy v3 v2 v4
    refine Ran.pure hi ?_ r2
    simp [execOp, ho, hv, Instr.loadAt, Instr.sureAddr, r1]
  · simp [Rd.run] at h

theorem putAt_length (cs : List AVal) (o : Nat) (vs : List AVal) : (putAt cs o vs).length = cs.length := by
  induction vs generalizing cs o with
  | nil => rfl
  | cons v vs ih => simp [putAt, ih]

theorem putAt_get (cs : List AVal) (o : Nat) (vs : List AVal) (h : o + vs.length ≤ cs.length) (j : Nat) : (putAt cs o vs)[j]? = if o ≤ j ∧ j < o + vs.length then vs[j - o]? else cs[j]? := by
  induction vs generalizing cs o with
  | nil => simp [putAt]; omega
  | cons v vs ih =>
    grind [putAt]

theorem RL_put {cs vs : List AVal} {o : Nat} {xs ys : List Value} (h : RL g w cs xs) (h' : RL g w vs ys) (hl : o + vs.length ≤ cs.length) : RL g w (putAt cs o vs) (xs.take o ++ ys ++ xs.drop (o + ys.length)) := by
  obtain ⟨l1, g1⟩ := RL_get _ _ h
  obtain ⟨l2, g2⟩ := RL_get _ _ h'
  refine RL_of _ _ (by simp [putAt_length]; omega) fun j x y hx hy => ?_
  rw [putAt_get _ _ _ hl] at hx
  split at hx
  · grind
  · rename_i hj
    obtain ⟨z, hz, hr⟩ := g1 _ _ hx
    grind

theorem setRow_size (w : World) (k : Nat) (c : Array Value) : (w.setRow k c).heap.size = w.heap.size := by simp [World.setRow]

theorem setRow_other (w : World) (k j : Nat) (c : Array Value) (h : j ≠ k) : (w.setRow k c).heap[j]? = w.heap[j]? := by
  simp only [World.setRow, Array.getElem?_modify]
  rw [if_neg (by omega)]

/-- Cells laid into a row of a block. -/
theorem store_cells {b ver sz i off k : Nat} {rows : List (List AVal)} {cs ds : List AVal} {ys : List Value} {c : Array Value} {e : TypeId} (hi : Inv g H w) (hrow : H[b]? = some (.row ver sz rows)) (hcs : rows[i]? = some cs) (hle : off + ds.length ≤ cs.length)
    (hk : g.rho b ver = some (k, sz)) (q2 : w.heap[k]? = some (.cells c e (0, 0))) (y2 : ∀ y ∈ ys, y.oneCell' = true) (y3 : RL g w ds ys) :
    i * sz + off + ys.length ≤ c.size ∧ Inv g (H.set b (.row ver sz (rows.set i (putAt cs off ds)))) (w.setRow k (c.toList.take (i * sz + off) ++ ys ++ c.toList.drop (i * sz + off + ys.length)).toArray) ∧
    Later g H w g (H.set b (.row ver sz (rows.set i (putAt cs off ds)))) (w.setRow k (c.toList.take (i * sz + off) ++ ys ++ c.toList.drop (i * sz + off + ys.length)).toArray) := by
  obtain ⟨k', c', e', p1, p2, q3, q4, q5, q6⟩ := hi.row b ver _ _ hrow hk
  rw [hk] at p1; simp at p1; subst p1
  rw [q2] at p2; simp at p2; obtain ⟨rfl, -⟩ := p2
  obtain ⟨qlen, qc⟩ := RowsAt_get _ _ _ _ q3 hcs
  obtain ⟨us, u1, u2, u3, u4⟩ := RL_of_CellsAt qc
  have hilt : i < rows.length := (List.getElem?_eq_some_iff.1 hcs).1
  have hrm : i * sz + sz ≤ c.size := by
    have : (i + 1) * sz ≤ rows.length * sz := Nat.mul_le_mul_right sz hilt
    rw [Nat.add_mul, Nat.one_mul] at this
    omega
  have hlen : ys.length = ds.length := (RL_get _ _ y3).1
  have hrl := RL_put (o := off) u3 y3 hle
  -- the new row
  have hnewrow : CellsAt g w (c.toList.take (i * sz + off) ++ ys ++ c.toList.drop (i * sz + off + ys.length)).toArray (putAt cs off ds) (0 + i * sz) := by
    refine CellsAt_of_RL hrl ?_ ?_
    · grind
    · intro j hj
      have hul : us.length = cs.length := u1
      have hcu : ∀ j, j < cs.length → c[i * sz + j]? = us[j]? := fun j hj => by
        grind
      simp only [List.length_append, List.length_take, List.length_drop] at hj
      simp only [Nat.zero_add, List.getElem?_toArray]
      by_cases hj1 : j < off
      · grind
      · by_cases hj2 : j < off + ds.length
        · rw [List.append_assoc, List.getElem?_append_right (by simp; omega), List.getElem?_append_left (by simp; omega), List.append_assoc, List.getElem?_append_right (by simp; omega), List.getElem?_append_left (by simp; omega)]
          congr 1
          simp; omega
        · rw [List.getElem?_append_right (by simp; omega), List.getElem?_append_right (by simp; omega), List.getElem?_drop, List.getElem?_drop]
          have e1 : i * sz + off + ys.length + (i * sz + j - (List.take (i * sz + off) c.toList ++ ys).length) = i * sz + j := by simp; omega
          have e2 : off + ys.length + (j - (List.take off us ++ ys).length) = j := by simp; omega
          rw [e1, e2, ← hcu j (by omega)]; simp
  have hc'size : (c.toList.take (i * sz + off) ++ ys ++ c.toList.drop (i * sz + off + ys.length)).toArray.size = c.size := by simp; omega
  have hother : ∀ p, (p < i * sz ∨ i * sz + sz ≤ p) → (c.toList.take (i * sz + off) ++ ys ++ c.toList.drop (i * sz + off + ys.length)).toArray[p]? = c[p]? := by
    intro p hp
    simp only [List.getElem?_toArray]
    rcases hp with hp | hp
    · grind
    · rw [List.getElem?_append_right (by simp; omega), List.getElem?_drop]
      grind
  have hrows : RowsAt g w (c.toList.take (i * sz + off) ++ ys ++ c.toList.drop (i * sz + off + ys.length)).toArray sz (rows.set i (putAt cs off ds)) 0 := by
    refine RowsAt_of _ _ fun j r hr => ?_
    rw [List.getElem?_set] at hr
    split at hr
    · grind [putAt_length]
    · rename_i hij
      obtain ⟨r1, r2⟩ := RowsAt_get _ _ _ _ q3 hr
      refine ⟨r1, CellsAt_congr _ _ _ (fun p hp => ?_) r2⟩
      apply hother
      rw [r1] at hp
      rcases Nat.lt_or_ge j i with hji | hji
      · left
        have : (j + 1) * sz ≤ i * sz := Nat.mul_le_mul_right sz hji
        grind
      · right
        have : (i + 1) * sz ≤ j * sz := Nat.mul_le_mul_right sz (by omega)
        grind
  obtain ⟨s1, s2⟩ := hi.store (rows' := rows.set i (putAt cs off ds)) hrow hk q2 (setRow_heap w k c _ e (0, 0) q2) hc'size (fun j hj => setRow_other w k j _ hj) (setRow_size w k _) rfl ⟨rfl, Nat.le_of_eq rfl⟩ rfl hrows (by rw [hc'size]; simpa using q4)
  exact ⟨by omega, s1, s2⟩

theorem ran_store {T : Nat} {x y : Operand} {eff : Eff} {rho : Operand → AVal} (hi : Inv g H w) (hρ : ∀ x, R g w (rho x) (a.eval x)) (ho : o.op = .store T x y) (h : (storeA P T (rho y) (rho x)).run H = some eff) : Ran P a o g H w eff := by
  have hx := hρ x
  unfold storeA at h
  split at h
  · rename_i b ver i off hb
    rw [hb] at hx; simp only [R] at hx
    obtain ⟨k, sz, hk, hv⟩ := hx
    obtain ⟨⟨sz', rows⟩, h1, h2⟩ := bind_some h
    have hrow := rowOf_some h1
    simp only at hrow h2
    split at h2
    · rename_i cs vs hcs hvs
      split at h2
      · rename_i cs' hst
        simp [Rd.run] at h2; subst h2
        unfold storeIn at hst
        split at hst
        · rename_i hle
          simp at hst; subst hst
          obtain ⟨k', c, e, q1, q2, q3, q4, q5, q6⟩ := hi.row b ver _ _ hrow hk
          rw [hk] at q1; simp at q1; obtain ⟨rfl, rfl⟩ := q1
          obtain ⟨qlen, qc⟩ := RowsAt_get _ _ _ _ q3 hcs
          unfold cellsFor at hvs
          split at hvs
          · rename_i ds hds
            split at hvs
            · rename_i hsz
              simp at hvs; subst hvs
              obtain ⟨y1, y2, y3⟩ := R_cellsOk (hρ y) hds
              obtain ⟨us, u1, u2, u3, u4⟩ := RL_of_CellsAt qc
              have hilt : i < rows.length := (List.getElem?_eq_some_iff.1 hcs).1
              have hrm : i * sz + sz ≤ c.size := by
                have : (i + 1) * sz ≤ rows.length * sz := Nat.mul_le_mul_right sz hilt
                rw [Nat.add_mul, Nat.one_mul] at this
                omega
              have hrun := run_storeCells_at P k (i * sz + off) e (a.eval y).cells.toList 0 c w q2 (by simp [y1]; omega) y2
              have hev : (execOp a.eval o).run P w = .ok .skip (w.setRow k (c.toList.take (i * sz + off) ++ (a.eval y).cells.toList ++ c.toList.drop (i * sz + off + (a.eval y).cells.toList.length)).toArray) := by
                simp only [execOp, ho]
                simp [hv, Instr.storeAt, Instr.sureAddr, storeVar, sizeT_some hsz, y1]
                simpa [y1] using congrArg (fun r => r.andThen fun _ w' => Result.ok Next.skip w') hrun
              have hlen : (a.eval y).cells.toList.length = ds.length := by simpa using y1
              have hrl := RL_put (o := off) u3 y3 hle
              -- the new row
              have hnewrow : CellsAt g w (c.toList.take (i * sz + off) ++ (a.eval y).cells.toList ++ c.toList.drop (i * sz + off + (a.eval y).cells.toList.length)).toArray (putAt cs off ds) (0 + i * sz) := by
                refine CellsAt_of_RL hrl ?_ ?_
                · grind
                · intro j hj
                  have hul : us.length = cs.length := u1
                  have hcu : ∀ j, j < cs.length → c[i * sz + j]? = us[j]? := fun j hj => by
                    grind
                  simp only [List.length_append, List.length_take, List.length_drop] at hj
                  simp only [Nat.zero_add, List.getElem?_toArray]
                  by_cases hj1 : j < off
                  · grind
                  · by_cases hj2 : j < off + ds.length
                    · rw [List.append_assoc, List.getElem?_append_right (by simp; omega), List.getElem?_append_left (by simp; omega), List.append_assoc, List.getElem?_append_right (by simp; omega), List.getElem?_append_left (by simp; omega)]
                      grind
                    · rw [List.getElem?_append_right (by simp; omega), List.getElem?_append_right (by simp; omega), List.getElem?_drop, List.getElem?_drop]
                      grind
              have hc'size : (c.toList.take (i * sz + off) ++ (a.eval y).cells.toList ++ c.toList.drop (i * sz + off + (a.eval y).cells.toList.length)).toArray.size = c.size := by simp; omega
              have hother : ∀ p, (p < i * sz ∨ i * sz + sz ≤ p) → (c.toList.take (i * sz + off) ++ (a.eval y).cells.toList ++ c.toList.drop (i * sz + off + (a.eval y).cells.toList.length)).toArray[p]? = c[p]? := by
                intro p hp
                simp only [List.getElem?_toArray]
                rcases hp with hp | hp
                · grind
                · rw [List.getElem?_append_right (by simp; omega), List.getElem?_drop]
                  have e1 : i * sz + off + (a.eval y).cells.toList.length + (p - (List.take (i * sz + off) c.toList ++ (a.eval y).cells.toList).length) = p := by simp; omega
                  rw [e1]; simp
              have hrows : RowsAt g w (c.toList.take (i * sz + off) ++ (a.eval y).cells.toList ++ c.toList.drop (i * sz + off + (a.eval y).cells.toList.length)).toArray sz (rows.set i (putAt cs off ds)) 0 := by
                refine RowsAt_of _ _ fun j r hr => ?_
                rw [List.getElem?_set] at hr
                split at hr
                · grind [putAt_length]
                · rename_i hij
                  obtain ⟨r1, r2⟩ := RowsAt_get _ _ _ _ q3 hr
                  refine ⟨r1, CellsAt_congr _ _ _ (fun p hp => ?_) r2⟩
                  apply hother
                  rw [r1] at hp
                  rcases Nat.lt_or_ge j i with hji | hji
                  · left
                    have : (j + 1) * sz ≤ i * sz := Nat.mul_le_mul_right sz hji
                    grind
                  · right
                    have : (i + 1) * sz ≤ j * sz := Nat.mul_le_mul_right sz (by omega)
                    grind
              obtain ⟨s1, s2⟩ := hi.store (rows' := rows.set i (putAt cs off ds)) hrow hk q2 (setRow_heap w k c _ e (0, 0) q2) hc'size (fun j hj => setRow_other w k j _ hj) (setRow_size w k _) rfl ⟨rfl, Nat.le_of_eq rfl⟩ rfl hrows (by rw [hc'size]; simpa using q4)
              exact ⟨undef, _, g, .inr ⟨hev, rfl⟩, by rw [apply_one]; exact s1, by simp [nothing, R, undef], by rw [apply_one]; exact s2⟩
            · cases hvs
          · cases hvs
        · cases hst
      · simp [Rd.run] at h2
    · simp [Rd.run] at h2
  · -- no cells
    rename_i cs off hb
    rw [hb] at hx; simp only [R] at hx
    obtain ⟨k, of0, hv, _⟩ := hx
    split at h
    · rename_i hvs
      simp [Rd.run] at h; subst h
      unfold cellsFor at hvs
      split at hvs
      · rename_i ds hds
        split at hvs
        · rename_i hsz
          simp at hvs; subst hvs
          obtain ⟨y1, y2, y3⟩ := R_cellsOk (hρ y) hds
          have hnil : (a.eval y).cells.toList = [] := List.eq_nil_of_length_eq_zero (by simpa using y1)
          have hsize : (a.eval y).cells.size = 0 := by simpa using y1
          have hev : (execOp a.eval o).run P w = .ok .skip w := by
            simp only [execOp, ho]
            simp [hv, Instr.storeAt, Instr.sureAddr, storeVar, sizeT_some hsz, hnil, hsize, storeCells]
          exact ⟨undef, w, g, .inr ⟨hev, rfl⟩, by simpa [Eff.apply] using hi, by simp [nothing, R, undef], by simpa [Eff.apply] using Later.refl g H w⟩
        · cases hvs
      · cases hvs
    · simp [Rd.run] at h
  · simp [Rd.run] at h

end
end Go.AM
