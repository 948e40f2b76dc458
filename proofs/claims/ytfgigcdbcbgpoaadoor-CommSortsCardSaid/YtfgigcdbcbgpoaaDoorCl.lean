/- Sort of communities returns the same set in strictly ascending order: CommSorts returns true for every input; the card, tied to the text of the program. No conditions. -/
import Derived.Test.YtfgigcdbcbgpoaaDoorWs
import Derived.Test.YtfgigcdbcbgpoaaDoorSs
import Derived.Sort.Walk0
import Derived.Laws.Strings
import Derived.Test.YtfgigcdbcbgpoaaDoorAmPl
import Derived.Test.YtfgigcdbcbgpoaaDoorRe
import Derived.Test.YtfgigcdbcbgpoaaDoorAmDr
import Derived.Test.YtfgigcdbcbgpoaaDoorRows
import Derived.Test.YtfgigcdbcbgpoaaDoorCards
import Derived.Test.YtfgigcdbcbgpoaaDoorTie
import Derived.Deep.DeepHandedRow
import Derived.Lib.LaidTab
/- The plain law of CommSorts. No conditions. -/
namespace Go.L
open Go.AM Go.Sort Go.Proofs
set_option maxRecDepth 100000
set_option linter.unusedSimpArgs false
set_option linter.unusedVariables false

theorem hasC_run (M : Nat) (l : List (V8 Int)) (x : V8 Int) (hl : l.length < 100000) (hN : l.length + 1 < M) : c_kit_Has_Comm.S M (l, x) = some (decide (x ∈ l)) := by
  show (g_kit_Has_Comm l x).run M = _
  simp only [g_kit_Has_Comm, G.run, tsOk, if_true, lenO_bind, idxO_bind, eqV8]
  refine bind_ex (I := fun s => ∃ i : Nat, s = (i : Int) ∧ i ≤ l.length ∧ ∀ j, j < i → l[j]? ≠ some x) (m := fun s => l.length - s.toNat) (Q := fun t => (t = .inl () ∧ x ∈ l) ∨ (t = .inr () ∧ x ∉ l)) ⟨0, rfl, Nat.zero_le _, fun j hj => absurd hj (Nat.not_lt_zero _)⟩ (by simp; omega) (fun s hs => ?_) (fun t ht => ?_)
  · obtain ⟨i, rfl, hi, hno⟩ := hs
    by_cases he : i = l.length
    · left
      subst he
      rw [if_neg (by simp)]
      refine ⟨_, rfl, .inr ⟨rfl, fun h => ?_⟩⟩
      obtain ⟨j, h1, h2⟩ := List.getElem_of_mem h
      exact hno j h1 (by rw [List.getElem?_eq_getElem h1, h2])
    · have hil : i < l.length := by omega
      have e1 : at? l (i : Int) = some l[i] := by rw [at?_nat]; exact List.getElem?_eq_getElem hil
      rw [if_pos (by simp; omega), e1]
      simp only [Option.bind_some, W_eq (x := (i : Int) + 1) (n := i + 1) (by omega) (by omega)]
      by_cases hx : l[i] = x
      · left
        rw [if_pos (by simpa using hx)]
        exact ⟨_, rfl, .inl ⟨rfl, by rw [← hx]; exact List.getElem_mem hil⟩⟩
      · right
        rw [if_neg (by simpa using hx)]
        refine ⟨_, rfl, ⟨i + 1, rfl, by omega, fun j hj => ?_⟩, by simp only [Int.toNat_natCast]; omega⟩
        by_cases hji : j = i
        · subst hji; rw [List.getElem?_eq_getElem hil]; simpa using hx
        · exact hno j (by omega)
  · rcases ht with ⟨rfl, h⟩ | ⟨rfl, h⟩
    · rw [decide_eq_true h]; rfl
    · rw [decide_eq_false h]; rfl
theorem hasC_b {M : Nat} (l : List (V8 Int)) (x : V8 Int) (hl : l.length < 100000) (hN : l.length + 1 < M) {β : Type} (k : c_kit_Has_Comm.sh.El → Option β) : (c_kit_Has_Comm.S M (l, x)).bind k = k (decide (x ∈ l)) := by
  rw [hasC_run M l x hl hN]; rfl

theorem sameC_run (M : Nat) (a b : List (V8 Int)) (hl : a.length < 100000) (hN : a.length + 1 < M) : c_kit_Same_Comm.S M (a, b) = some (decide (a = b)) := by
  show (g_kit_Same_Comm a b).run M = _
  simp only [g_kit_Same_Comm, G.run, tsOk, if_true, lenO_bind, idxO_bind, eqV8]
  by_cases hlen : a.length = b.length
  · rw [if_neg (by simp; omega)]
    refine bind_ex (I := fun s => ∃ i : Nat, s = (i : Int) ∧ i ≤ a.length ∧ ∀ j, j < i → a[j]? = b[j]?) (m := fun s => a.length - s.toNat) (Q := fun t => (t = .inl () ∧ a ≠ b) ∨ (t = .inr () ∧ a = b)) ⟨0, rfl, Nat.zero_le _, fun j hj => absurd hj (Nat.not_lt_zero _)⟩ (by simp; omega) (fun s hs => ?_) (fun t ht => ?_)
    · obtain ⟨i, rfl, hi, hno⟩ := hs
      by_cases he : i = a.length
      · left
        subst he
        rw [if_neg (by simp)]
        refine ⟨_, rfl, .inr ⟨rfl, ?_⟩⟩
        apply List.ext_getElem?
        intro j
        by_cases hj : j < a.length
        · exact hno j hj
        · rw [List.getElem?_eq_none (by omega), List.getElem?_eq_none (by omega)]
      · have hil : i < a.length := by omega
        have hib : i < b.length := by omega
        have e1 : at? a (i : Int) = some a[i] := by rw [at?_nat]; exact List.getElem?_eq_getElem hil
        have e2 : at? b (i : Int) = some b[i] := by rw [at?_nat]; exact List.getElem?_eq_getElem hib
        rw [if_pos (by simp; omega), e1, e2]
        simp only [Option.bind_some, W_eq (x := (i : Int) + 1) (n := i + 1) (by omega) (by omega)]
        by_cases hx : a[i] = b[i]
        · right
          rw [if_neg (by simpa using hx)]
          refine ⟨_, rfl, ⟨i + 1, rfl, by omega, fun j hj => ?_⟩, by simp only [Int.toNat_natCast]; omega⟩
          by_cases hji : j = i
          · subst hji; rw [List.getElem?_eq_getElem hil, List.getElem?_eq_getElem hib, hx]
          · exact hno j (by omega)
        · left
          rw [if_pos (by simpa using hx)]
          exact ⟨_, rfl, .inl ⟨rfl, fun e => hx (by subst e; rfl)⟩⟩
    · rcases ht with ⟨rfl, h⟩ | ⟨rfl, h⟩
      · rw [decide_eq_false h]; rfl
      · rw [decide_eq_true h]; rfl
  · rw [if_pos (by simp; omega), decide_eq_false (fun e => hlen (by rw [e]))]
    rfl
theorem sameC_b {M : Nat} (a b : List (V8 Int)) (hl : a.length < 100000) (hN : a.length + 1 < M) {β : Type} (k : c_kit_Same_Comm.sh.El → Option β) : (c_kit_Same_Comm.S M (a, b)).bind k = k (decide (a = b)) := by
  rw [sameC_run M a b hl hN]; rfl

theorem less_str (x y : V8 Int) : Go.Op.bytesLess (ByteArray.toList (strOfBytes [x.a0, x.a1, x.a2, x.a3, x.a4, x.a5, x.a6, x.a7])) (ByteArray.toList (strOfBytes [y.a0, y.a1, y.a2, y.a3, y.a4, y.a5, y.a6, y.a7])) = decide (byV8 x < byV8 y) := by
  rw [strOfBytes, strOfBytes, ByteArray.toList_mk, ByteArray.toList_mk, bytesLess_eq]
  rfl
theorem lives03_bb {β : Type} {n : Nat} (k : c_law03_lives.sh.El → Option β) : (c_law03_lives.S n ()).bind k = k true := rfl

theorem by_inlC {σ τ : Type} {X o : Option (σ ⊕ τ)} {B : σ → Prop} (h : X = o) (h2 : ∃ s', o = some (.inl s') ∧ B s') : ∃ s', X = some (.inl s') ∧ B s' := h ▸ h2
theorem commSorts_run (M : Nat) (hM : 500 ≤ M) (a b : List (V8 Int)) (ha : ∀ x ∈ a, okC x) (hb : ∀ x ∈ b, okC x) : c_law03_CommSorts.S M (a, b) = some true := by
  show (g_law03_CommSorts a b).run M = _
  simp only [g_law03_CommSorts, G.run, tsOk, if_true, lives03_bb, lenO_bind, Bool.not_true, Bool.false_eq_true, if_false, idxO_bind, appO_bind, less_str, Bool.and_true, fzRow, List.length_map, decide_true, true_and]
  by_cases h60 : a.length > 60
  · rw [if_pos (by simp; omega)]; rfl
  rw [if_neg (by simp; omega)]
  by_cases h61 : b.length > 60
  · rw [if_pos (by simp; omega)]; rfl
  rw [if_neg (by simp; omega)]
  have hA : a.length ≤ 60 := by omega
  have hB : b.length ≤ 60 := by omega
  simp only [List.nil_append, List.length_nil]
  have ok1 : ∀ x ∈ a ++ b, okC x := fun x hx => by rcases List.mem_append.1 hx with h | h; exact ha x h; exact hb x h
  have ok2 : ∀ x ∈ b ++ a ++ b, okC x := fun x hx => by
    rcases List.mem_append.1 hx with h | h
    · rcases List.mem_append.1 h with h | h; exact hb x h; exact ha x h
    · exact hb x h
  have e21 : sortU (b ++ a ++ b) = sortU (a ++ b) := sortU_ext _ ok1 (sortU_strict _ ok2) fun x => by
    rw [sortU_mem]; simp only [List.mem_append]; constructor
    · rintro ((h | h) | h); exact .inr h; exact .inl h; exact .inr h
    · rintro (h | h); exact .inl (.inr h); exact .inr h
  have ok3 : ∀ x ∈ sortU (a ++ b), okC x := fun x hx => ok1 x ((sortU_mem _ x).1 hx)
  have e3 : sortU (sortU (a ++ b)) = sortU (a ++ b) := (sortU_ext _ ok3 (sortU_strict _ ok1) fun x => Iff.rfl).symm
  have hlen := sortU_len (a ++ b)
  have hst := sortU_strict (a ++ b) ok1
  have hmem := sortU_mem (a ++ b)
  simp only [List.length_append] at hlen
  rw [if_pos ⟨trivial, by simp [roomy]; omega⟩, if_pos (by simp [roomy]; omega)]
  refine (commSort_b M (a ++ b) (by simp; omega) (by simp; omega) _).trans ?_
  rw [if_pos ⟨trivial, by simp [roomy]; omega⟩, if_pos (by simp [roomy]; omega), if_pos (by simp [roomy]; omega)]
  refine (commSort_b M (b ++ a ++ b) (by simp; omega) (by simp; omega) _).trans ?_
  rw [e21]
  refine (sameC_b _ _ (by omega) (by omega) _).trans ?_
  rw [decide_eq_true rfl, if_neg (by simp)]
  refine (commSort_b M _ (by omega) (by omega) _).trans ?_
  rw [e3]
  refine (sameC_b _ _ (by omega) (by omega) _).trans ?_
  rw [decide_eq_true rfl, if_neg (by simp)]
  generalize sortU (a ++ b) = r at *
  refine bind_ex (I := fun s => ∃ i : Nat, s = (i : Int) ∧ i ≤ r.length) (m := fun s => r.length - s.toNat) (Q := fun t => t = .inr ()) ⟨0, rfl, Nat.zero_le _⟩ (by simp; omega) (fun s hs => ?_) (fun t ht => ?_)
  · obtain ⟨i, rfl, hi⟩ := hs
    simp only [lenO_bind]
    by_cases he : i = r.length
    · left
      subst he
      rw [if_neg (by simp)]
      exact ⟨_, rfl, rfl⟩
    · right
      have hil : i < r.length := by omega
      have e1 : at? r (i : Int) = some r[i] := by rw [at?_nat]; exact List.getElem?_eq_getElem hil
      have hm : r[i] ∈ a ∨ r[i] ∈ b := List.mem_append.1 ((hmem r[i]).1 (List.getElem_mem hil))
      have fin : ∃ s' : Int, (some (Sum.inl (Go.IntKind.wrap .i64 ((i : Int) + 1))) : Option (Int ⊕ (Unit ⊕ Unit))) = some (Sum.inl s') ∧ (∃ i : Nat, s' = (i : Int) ∧ i ≤ r.length) ∧ r.length - s'.toNat < r.length - ((i : Int)).toNat := by
        rw [W_eq (x := (i : Int) + 1) (n := i + 1) (by omega) (by omega)]
        exact ⟨_, rfl, ⟨i + 1, rfl, by omega⟩, by simp only [Int.toNat_natCast]; omega⟩
      have tail : ∃ s' : Int, ((c_kit_Has_Comm.S M (a, r[i])).bind fun (r_5 : Bool) => if (!r_5) = true then (some r[i]).bind fun x => (c_kit_Has_Comm.S M (b, x)).bind fun (r : Bool) => if (!r) = true then some (Sum.inr (Sum.inl ())) else some (Sum.inl (Go.IntKind.wrap .i64 ((i : Int) + 1)))
          else some (Sum.inl (Go.IntKind.wrap .i64 ((i : Int) + 1))) : Option (Int ⊕ (Unit ⊕ Unit))) = some (Sum.inl s') ∧ (∃ i : Nat, s' = (i : Int) ∧ i ≤ r.length) ∧ r.length - s'.toNat < r.length - ((i : Int)).toNat := by
        refine by_inlC (hasC_b _ _ (by omega) (by omega) _) ?_
        by_cases h1 : r[i] ∈ a
        · rw [if_neg (by simpa using h1)]; exact fin
        · rw [if_pos (by simpa using h1), Option.bind_some]
          refine by_inlC (hasC_b _ _ (by omega) (by omega) _) ?_
          rw [if_neg (by simpa using hm.resolve_left h1)]; exact fin
      rw [if_pos (by simp; omega)]
      by_cases h0 : 0 < i
      · have hi1 : i - 1 < r.length := by omega
        have e2 : at? r ((i - 1 : Nat) : Int) = some r[i - 1] := by rw [at?_nat]; exact List.getElem?_eq_getElem hi1
        rw [if_pos (by simp; omega), W_eq (x := (i : Int) - 1) (n := i - 1) (by omega) (by omega)]
        simp only [idxO_bind, e1, e2, Option.bind_some]
        rw [if_neg (by
          have := List.pairwise_iff_getElem.1 hst (i - 1) i hi1 hil (by omega)
          simpa using this)]
        exact tail
      · rw [if_neg (by simp; omega)]
        simp only [idxO_bind, e1, Option.bind_some]
        exact tail
  · subst ht
    simp only [Sum.elim, G.run, tsOk, if_true, lenO_bind, idxO_bind]
    refine bind_ex (I := fun s => ∃ i : Nat, s = (i : Int) ∧ i ≤ a.length) (m := fun s => a.length - s.toNat) (Q := fun t => t = .inr ()) ⟨0, rfl, Nat.zero_le _⟩ (by simp; omega) (fun s hs => ?_) (fun t ht => ?_)
    · obtain ⟨i, rfl, hi⟩ := hs
      by_cases he : i = a.length
      · left
        subst he
        rw [if_neg (by simp)]
        exact ⟨_, rfl, rfl⟩
      · right
        have hil : i < a.length := by omega
        have e1 : at? a (i : Int) = some a[i] := by rw [at?_nat]; exact List.getElem?_eq_getElem hil
        rw [if_pos (by simp; omega), e1]
        simp only [Option.bind_some]
        refine by_inlC (hasC_b _ _ (by omega) (by omega) _) ?_
        rw [if_neg (by simpa using (hmem a[i]).2 (List.mem_append_left _ (List.getElem_mem hil))), W_eq (x := (i : Int) + 1) (n := i + 1) (by omega) (by omega)]
        exact ⟨_, rfl, ⟨i + 1, rfl, by omega⟩, by simp only [Int.toNat_natCast]; omega⟩
    · subst ht
      rfl
end Go.L
/- Sort of communities returns the same set in strictly ascending order: CommSorts returns true for every input; the card, tied to the program's text. No conditions. -/
namespace Go.L
open Go.AM
set_option linter.unusedVariables false
theorem wf_u8 {n : Int} (h : (Go.Lit.int .u8 n).wf = true) : 0 ≤ n ∧ n < 256 := by
  simp [Go.Lit.wf] at h
  have e1 : Go.IntKind.min .u8 = 0 := rfl
  have e2 : Go.IntKind.max .u8 = 255 := rfl
  omega
def wfV8 (x : V8 Int) : Prop := (Go.Lit.int .u8 x.a0).wf = true ∧ (Go.Lit.int .u8 x.a1).wf = true ∧ (Go.Lit.int .u8 x.a2).wf = true ∧ (Go.Lit.int .u8 x.a3).wf = true ∧ (Go.Lit.int .u8 x.a4).wf = true ∧ (Go.Lit.int .u8 x.a5).wf = true ∧ (Go.Lit.int .u8 x.a6).wf = true ∧ (Go.Lit.int .u8 x.a7).wf = true
theorem okC_wf {x : V8 Int} (h : wfV8 x) : okC x := ⟨wf_u8 h.1, wf_u8 h.2.1, wf_u8 h.2.2.1, wf_u8 h.2.2.2.1, wf_u8 h.2.2.2.2.1, wf_u8 h.2.2.2.2.2.1, wf_u8 h.2.2.2.2.2.2.1, wf_u8 h.2.2.2.2.2.2.2⟩
theorem law_commSorts (a b : List (V8 Int)) (h0 : ∀ x ∈ a, wfV8 x) (h1 : ∀ x ∈ b, wfV8 x) :
    FnVal prog 6 [.lst (a.map (eV8 (cI .u8))), .lst (b.map (eV8 (cI .u8)))] (.ret (.sc (.bool true))) :=
  c_law03_CommSorts.ok 500 (a, b) true (commSorts_run 500 (by decide) a b (fun x hx => okC_wf (h0 x hx)) fun x hx => okC_wf (h1 x hx))
end Go.L
namespace Go.Proofs.YtfgigcdbcbgpoaaDoor.commSorts
open Go.ChangeShapes Go.WideShapes Go.ChangeAt Go.RowKit Go.AM Go.L
set_option linter.unusedVariables false

def kv : List Value := [(1, 0, 2), (2, 3, 12), (3, 6, 0), (4, 6, 1), (5, 6, 2), (6, 6, 3), (7, 6, 6)].flatMap fun (p : Int × Int × Int) => [.int .i64 p.1, .int .u8 p.2.1, .int .u8 p.2.2]
def kk : List Kd := (List.replicate 7 [.int .i64, .int .u8, .int .u8]).flatten
theorem globsOk {W : World} (h : laidMet Tryd.prog Rows.commSortsRow.laid W) : GlobsOk (Gh.bare W) W := by
  refine globs_one (P := Tryd.prog) (name := "leafmesh/comm.kinds") (g := 0) (vs := kv) (by kernel_rfl) (laid_cells (g := 0) (t := 104) (ks := kk) (by kernel_rfl) (by kernel_rfl) (by kernel_rfl) (by kernel_rfl) h) (by kernel_rfl) fun i cs hi => ?_
  match i, hi with
  | 0, hi => exact ⟨rfl, (Option.some.inj hi).symm⟩
theorem own : ownKnob Tryd.prog.godebug = none := by kernel_rfl
theorem slices : ((List.range Tryd.prog.types.size).all fun t => match Tryd.prog.underlying t with | some (.slice e) => decide (0 < Tryd.prog.cellsOf e) | _ => true) = true := by kernel_rfl
theorem maps : mapsRowed Tryd.prog = true := by kernel_rfl
theorem inTable : (Tryd.f6.params.toList.all fun t => Nat.ble (t + 1) Tryd.prog.types.size) = true := by kernel_rfl
set_option maxRecDepth 100000 in
theorem contract (H : Type) (enc : TypeId × Value → H) (W : World) (base : Nat) (args : Array Value) (ds gs : List (DataW H)) (before : List MemPlace)
    (hval : ∀ (j : Nat) t v, Tryd.f6.params[j]? = some t → args[j]? = some v → Value.okWide Tryd.prog W .any base t v)
    (hW : DataW.Whole enc Tryd.prog Tryd.f6.params.toList Rows.commSortsSpec.vars false W args.toList ds gs before) (hL : laidMetH Tryd.prog Rows.commSortsRow.laid W) :
    Calls Tryd.prog 6 args W fun e W' => ∃ v, e = .returned v ∧ Rows.commSortsSpec.post enc Tryd.prog Tryd.f6 false true false false W args v W' := by
  have hW' := hW
  have hlt := hW.lt
  obtain ⟨p, q, hA0, hV, rfl, hfz, hnd⟩ := hW
  have hA : DataW.TrodAll enc Tryd.prog W 0 (fun _ => true) true Tryd.f6.params.toList args.toList ds p := hA0
  clear hA0
  have hAll := hA
  rw [Tryd.params6] at hA hval
  obtain ⟨v0, r0, d0, e0, p0, q0, hv0, hd0, hp0, t0, hA⟩ := trodAll_cons hA
  obtain ⟨v1, r1, d1, e1, p1, q1, hv1, hd1, hp1, t1, hA⟩ := trodAll_cons hA
  obtain ⟨hr, hd, hq⟩ := trodAll_nil hA
  obtain rfl : args = #[v0, v1] := by apply Array.ext'; simp only [hv0, hv1, hr]
  obtain rfl : ds = [d0, d1] := by simp only [hd0, hd1, hd]
  obtain ⟨rfl, rfl⟩ := trodVars_none hV
  simp only [List.append_nil] at hW' hlt
  obtain ⟨a0, ok0, ra0⟩ := Rdb.cell (c := (cL (eV8 (cI .u8)))) (Rdb.slice Tryd.underlying25 (by kernel_rfl) (by kernel_rfl) (Rdb.array8 (c := cI .u8) Tryd.underlying29 (by kernel_rfl) (by kernel_rfl) (Rdb.int Tryd.underlying5 (by kernel_rfl)))) (by kernel_rfl) (hval 0 _ _ rfl rfl) t0
  obtain ⟨a1, ok1, ra1⟩ := Rdb.cell (c := (cL (eV8 (cI .u8)))) (Rdb.slice Tryd.underlying25 (by kernel_rfl) (by kernel_rfl) (Rdb.array8 (c := cI .u8) Tryd.underlying29 (by kernel_rfl) (by kernel_rfl) (Rdb.int Tryd.underlying5 (by kernel_rfl)))) (by kernel_rfl) (hval 1 _ _ rfl rfl) t1
  refine (law_top (law_commSorts a0 a1 ok0 ok1) W (globsOk hL) _ ⟨_, _, rfl, ra0, ⟨_, _, rfl, ra1, rfl⟩⟩).mono fun e W' ⟨he, hg⟩ => ?_
  subst he
  exact ⟨_, rfl, post_of_below (pa := p) (pv := []) hW' (fun _ _ _ => (trodAll_cons_mk (shut_bool Tryd.underlying4 _) trodAll_mk0))
    (fun sp hsp => trodAll_kept laid maps (slices_full_of _ slices) hg (fun t ht => Nat.le_of_ble_eq_true (List.all_eq_true.1 inTable t ht)) hAll hlt hsp) (fun _ _ => rfl) (by simp)
    hg (ok_one (by kernel_rfl) rfl (okWide_bool_mk Tryd.underlying4 _))⟩

/-- A world for the witness: the settled one, the variable holding what its initialiser lays. -/
noncomputable def laidWorld (os : Os) : World :=
  { World.holding Tryd.prog os ⟨#[], #[.slice none 0 0, .slice none 0 0], []⟩ with heap := (World.holding Tryd.prog os ⟨#[], #[.slice none 0 0, .slice none 0 0], []⟩).heap.modify 0 fun
      | .cells _ t frozen => .cells kv.toArray t frozen
      | o => o }
theorem laid_met (os : Os) : laidMet Tryd.prog Rows.commSortsRow.laid ((laidWorld os).forCall (fun _ _ => 0) ⟨#[], #[.slice none 0 0, .slice none 0 0], []⟩).memory :=
  laidMet_of_run' 8 (by kernel_rfl) (by kernel_rfl)
theorem reads (os : Os) {H : Type} (enc : TypeId × Value → H) : ∃ x, DataW.whole enc Tryd.prog ((laidWorld os).forCall (fun _ _ => 0) ⟨#[], #[.slice none 0 0, .slice none 0 0], []⟩).memory Tryd.f6.params.toList Rows.commSortsSpec.vars false (#[.slice none 0 0, .slice none 0 0] : Array Value).toList 8 = some x := by
  have h : (DataW.whole enc Tryd.prog ((laidWorld os).forCall (fun _ _ => 0) ⟨#[], #[.slice none 0 0, .slice none 0 0], []⟩).memory Tryd.f6.params.toList Rows.commSortsSpec.vars false (#[.slice none 0 0, .slice none 0 0] : Array Value).toList 8).isSome = true := by kernel_rfl
  exact Option.isSome_iff_exists.1 h

set_option maxRecDepth 100000 in
theorem lifted (os : Os) (started : os.Started) (H : Type) (enc : TypeId × Value → H) (F : Stop.Interp) :
    ReturnsInHanded {} Tryd.checked os 6 .any ((OpenSpec.ofChange Rows.commSortsSpec).preRow enc Tryd.prog Tryd.f6 Rows.commSortsRow.domain false Rows.commSortsRow.laid) (((OpenSpec.ofChange Rows.commSortsSpec).at F).post enc Tryd.prog Tryd.f6 false true false false) := by
  obtain ⟨x, hx⟩ := reads os enc
  refine returnsInHanded_of_row (C := Tryd.checked) (s := OpenSpec.ofChange Rows.commSortsSpec) own started (by kernel_rfl) Tryd.func6
    (witness_row_at (enc := enc) (C := Tryd.checked) false (laidWorld os) #[.slice none 0 0, .slice none 0 0] rfl (by kernel_rfl) (by kernel_rfl) (by kernel_rfl)
      (OpenSpec.preRow_of_cond 8 hx (by kernel_rfl) (fun k hk => by cases hk) (by kernel_rfl) (laid_met os))) ?_
  intro W base args ds gs before hval hW _ _ _ hL _ _
  exact contract H enc W base args ds gs before hval hW hL

theorem said : Rows.CommSortsSaid :=
  OpenClaim.holds_of_cond 6 Tryd.f6 rfl rfl rfl rfl rfl rfl rfl ⟨rfl, rfl, rfl, rfl, rfl⟩ rfl rfl rfl rfl rfl (by kernel_rfl) Tryd.func6 (by kernel_rfl)
    (of_decide_eq_true (by kernel_rfl)) (by unfold Func.isWrapper; first | (rw [if_pos (by decide +kernel)]; kernel_rfl) | (rw [if_neg (by decide +kernel)]; exact ⟨rfl, rfl⟩))
    (fun os started H enc _ F => by rw [OpenClaim.pre_eq_preRow]; exact lifted os started H enc F)

theorem noStand : (Tryd.f6.params.toList.all fun t => !Tryd.prog.wantsStandIn t) = true := by kernel_rfl
theorem plain (f : FuncId) (fn : Func) (hf : Tryd.pinned.checked.prog.funcNamed Rows.commSortsRow.func = some f) (hfn : Tryd.pinned.checked.prog.funcs[f]? = some fn) :
    false = Tryd.pinned.checked.prog.looks [] ∧ ∀ (j : Nat) t, fn.params[j]? = some t → Tryd.pinned.checked.prog.wantsStandIn t = false := by
  obtain rfl : f = 6 := Option.some.inj ((show Tryd.prog.funcNamed Rows.commSortsRow.func = some 6 by kernel_rfl).symm.trans hf) |>.symm
  obtain rfl : fn = Tryd.f6 := (Option.some.inj (Tryd.func6.symm.trans hfn)).symm
  refine ⟨by kernel_rfl, fun j t ht => ?_⟩
  have := List.all_eq_true.1 noStand t (Array.mem_toList_iff.2 (Array.mem_of_getElem? ht))
  have h2 : Tryd.prog.wantsStandIn t = false := by simpa using this
  exact h2

theorem card : Rows.CommSortsCardSaid :=
  Claim7.holds_tied_plain_at .later [] _ _ _ _ said (fun _ h => by cases h) (by kernel_rfl) (fun _ h => by cases h) commSorts_row_tie rfl ⟨rfl, rfl⟩ (by kernel_rfl) rfl plain (by kernel_rfl)
end Go.Proofs.YtfgigcdbcbgpoaaDoor.commSorts
