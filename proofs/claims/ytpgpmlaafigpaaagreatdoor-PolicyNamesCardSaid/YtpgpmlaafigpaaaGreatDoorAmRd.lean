/- Arguments read as data are plain data of ours; what is asked behind a call that writes nothing old. No program. -/
import Derived.Test.YtpgpmlaafigpaaaGreatDoorAmY
import Derived.Test.YtpgpmlaafigpaaaGreatDoorAmGd
import Derived.ReadAgain
import Derived.Carry
import Derived.OpenShut
namespace Go.AM
open Go.ChangeShapes Go.WideShapes Go.ChangeAt Go.RowKit

/-- What reads as a type's data is plain data of ours. -/
structure Rdb (P : Program) (T : TypeId) {α : Type} (enc : α → List AVal) (ok : α → Prop) : Prop where
  read : ∀ {H : Type} {encH : TypeId × Value → H} {w : World} {fuel : Nat} {cs : List Value} {x : DataW H × List MemPlace}, DataW.trod encH P w 0 (fun _ => true) true fuel T cs = some x →
    ∃ a, ok a ∧ RL (Gh.bare w) w (enc a) cs ∧ ∀ y ∈ cs, y.oneCell' = true
  pure : ∀ a, AVal.pureL (enc a) = true
  len : ∀ a, (enc a).length = P.cellsOf T

section
set_option linter.unusedSectionVars false
variable {P : Program} {T : TypeId} [Globs]

theorem Rdb.bool (ht : P.underlying T = some .bool) (hc : P.cellsOf T = 1) : Rdb P T eB (fun _ => True) where
  read h := by
    rename_i fuel cs x
    cases fuel with
    | zero => simp [DataW.trod] at h
    | succ n =>
      unfold DataW.trod at h
      rw [ht] at h
      split at h <;> simp_all
      simp [eB, RL, R, Value.oneCell']
  pure _ := rfl
  len _ := by simp [eB, hc]

theorem Rdb.int {k : IntKind} (ht : P.underlying T = some (.int k)) (hc : P.cellsOf T = 1) : Rdb P T (eI k) (fun n => (Lit.int k n).wf = true) where
  read h := by
    rename_i fuel cs x
    cases fuel with
    | zero => simp [DataW.trod] at h
    | succ n =>
      unfold DataW.trod at h
      rw [ht] at h
      split at h <;> simp_all
      obtain ⟨⟨rfl, hw⟩, _⟩ := h
      exact ⟨_, hw, by simp [eI, RL, R], rfl⟩
  pure _ := rfl
  len _ := by simp [eI, hc]

theorem Rdb.str (ht : P.underlying T = some .string) (hc : P.cellsOf T = 1) : Rdb P T eS (fun _ => True) where
  read h := by
    rename_i fuel cs x
    cases fuel with
    | zero => simp [DataW.trod] at h
    | succ n =>
      unfold DataW.trod at h
      rw [ht] at h
      split at h <;> simp_all
      simp [eS, RL, R, Value.oneCell']
  pure _ := rfl
  len _ := by simp [eS, hc]

theorem cells?_some {w : World} {a : Addr} {n : Nat} {cs : List Value} (h : w.cells? 0 a n = some cs) : cs.length = n ∧ ∀ i, i < n → w.cell? (a.add i) = cs[i]? := by
  unfold World.cells? at h
  simp only [Nat.zero_le, if_true] at h
  exact ⟨by simpa using mapM_some_length h, fun i hi => mapM_some_get h i i (by simp [hi])⟩

theorem bare_lt {w : World} {k o : Nat} {y : Value} (h : w.cell? ⟨k, o, none⟩ = some y) : k < w.heap.size := by
  unfold World.cell? at h
  split at h
  · rename_i he; exact (Array.getElem?_eq_some_iff.1 he).1
  · cases h


/-- Choice along a list. -/
theorem choose_list {α : Type} {n : Nat} {p : Nat → α → Prop} (h : ∀ i, i < n → ∃ a, p i a) : ∃ l : List α, l.length = n ∧ ∀ i a, l[i]? = some a → p i a := by
  induction n with
  | zero => exact ⟨[], rfl, fun i a h => by simp at h⟩
  | succ n ih =>
    obtain ⟨l, h1, h2⟩ := ih fun i hi => h i (by omega)
    obtain ⟨a, ha⟩ := h n (by omega)
    refine ⟨l ++ [a], by simp [h1], fun i b hb => ?_⟩
    by_cases hi : i < l.length
    · rw [List.getElem?_append_left hi] at hb; exact h2 i b hb
    · rw [List.getElem?_append_right (by omega)] at hb
      have : i = n := by
        have := (List.getElem?_eq_some_iff.1 hb).1
        simp at this; omega
      subst this
      simp [h1] at hb
      subst hb; exact ha

theorem Rdb.slice {E : TypeId} {α : Type} {enc : α → List AVal} {ok : α → Prop} (ht : P.underlying T = some (.slice E)) (hc : P.cellsOf T = 1) (hz0 : Nat.ble 1 (P.cellsOf E) = true) (he : Rdb P E enc ok) :
    Rdb P T (eL enc) (fun l => ∀ a ∈ l, ok a) where
  read h := by
    have hz := Nat.le_of_ble_eq_true hz0
    rename_i H encH w fuel cs x
    rcases DataW.trod_slice ht h with ⟨rfl, _⟩ | ⟨a, len, cap, elems, rest, n, rfl, rfl, _, _, hl, _, hlen, hel, _⟩
    · exact ⟨[], by simp, by simp [eL, RL, R], by simp [Value.oneCell']⟩
    · have hget : ∀ i, i < len → ∃ c, w.cells? 0 (a.add (i * P.cellsOf E)) (P.cellsOf E) = some c ∧ ∃ b, ok b ∧ RL (Gh.bare w) w (enc b) c ∧ ∀ y ∈ c, y.oneCell' = true := by
        intro i hi
        have h1 := hel i hi
        obtain ⟨y, hy⟩ : ∃ y, elems[i]? = some y := ⟨_, List.getElem?_eq_getElem (by omega)⟩
        rw [hy] at h1
        obtain ⟨c, hc1, hc2⟩ := Option.bind_eq_some_iff.1 h1
        obtain ⟨b, hb⟩ := he.read hc2
        exact ⟨c, hc1, b, hb⟩
      obtain ⟨l, hll, hp⟩ := choose_list (n := len) (p := fun i b => ∃ c, w.cells? 0 (a.add (i * P.cellsOf E)) (P.cellsOf E) = some c ∧ ok b ∧ RL (Gh.bare w) w (enc b) c ∧ ∀ y ∈ c, y.oneCell' = true)
        fun i hi => let ⟨c, h1, b, h2⟩ := hget i hi; ⟨b, c, h1, h2⟩
      refine ⟨l, fun b hb => ?_, ?_, by simp [Value.oneCell']⟩
      · obtain ⟨i, hi⟩ := List.getElem?_of_mem hb
        obtain ⟨c, _, h2, _⟩ := hp i b hi
        exact h2
      · simp only [eL, RL, R]
        refine ⟨_, [], rfl, ⟨some a, cap, by simp [hll], by simp [hll, hl], ?_⟩, rfl⟩
        by_cases h0 : l.length = 0
        · left; simp [h0]
        · right
          obtain ⟨k, o, sp⟩ := a
          have hsp : sp = none := by
            obtain ⟨c, h1, _⟩ := hget 0 (by omega)
            obtain ⟨h2, h3⟩ := cells?_some h1
            have h4 := h3 0 hz
            obtain ⟨y, hy⟩ : ∃ y, c[0]? = some y := ⟨_, List.getElem?_eq_getElem (by omega)⟩
            rw [hy] at h4
            simpa [Addr.add] using World.cell?_spot h4
          subst hsp
          refine ⟨k, o, P.cellsOf E, rfl, RR_of fun i r hr => ?_⟩
          obtain ⟨b, hb, rfl⟩ : ∃ b, l[i]? = some b ∧ enc b = r := by simpa using hr
          refine ⟨he.len b, he.pure b, RC_of fun j v hv => ?_⟩
          obtain ⟨c, h1, _, h2, h3⟩ := hp i b hb
          obtain ⟨h4, h5⟩ := cells?_some h1
          obtain ⟨h6, h7⟩ := RL_get _ _ h2
          obtain ⟨y, hy, hr⟩ := h7 j v hv
          have hj : j < P.cellsOf E := by rw [← he.len b]; exact (List.getElem?_eq_some_iff.1 hv).1
          have hcell := h5 j hj
          rw [hy] at hcell
          simp only [Go.WideShapes.add_plain] at hcell
          exact ⟨bare_lt hcell, y, hcell, h3 y (List.mem_of_getElem? hy), hr⟩
  pure _ := rfl
  len _ := by simp [eL, hc]

/-- The fields of a struct. -/
inductive Flds (P : Program) : List Field → (α : Type) → (α → List AVal) → (α → Prop) → Prop
  | nil : Flds P [] Unit (fun _ => []) (fun _ => True)
  | cons {f : Field} {fs : List Field} {α β : Type} {enc : α → List AVal} {ok : α → Prop} {encs : β → List AVal} {oks : β → Prop} (h : Rdb P f.type enc ok) (hs : Flds P fs β encs oks) :
      Flds P (f :: fs) (α × β) (fun x => enc x.1 ++ encs x.2) (fun x => ok x.1 ∧ oks x.2)

theorem Flds.pure {fs : List Field} {α : Type} {enc : α → List AVal} {ok : α → Prop} (h : Flds P fs α enc ok) : ∀ a, AVal.pureL (enc a) = true := by
  have happ : ∀ (a b : List AVal), AVal.pureL a = true → AVal.pureL b = true → AVal.pureL (a ++ b) = true := by
    intro a b h1 h2
    induction a with
    | nil => exact h2
    | cons x xs ih => simp only [AVal.pureL, Bool.and_eq_true, List.cons_append] at h1 ⊢; exact ⟨h1.1, ih h1.2⟩
  induction h with
  | nil => exact fun _ => rfl
  | cons h _ ih => exact fun a => happ _ _ (h.pure a.1) (ih a.2)

theorem Flds.len {fs : List Field} {α : Type} {enc : α → List AVal} {ok : α → Prop} (h : Flds P fs α enc ok) : ∀ a, (enc a).length = (fs.map fun f => P.cellsOf f.type).sum := by
  induction h with
  | nil => exact fun _ => rfl
  | cons h _ ih => exact fun a => by simp [h.len a.1, ih a.2]

theorem Flds.read {H : Type} {encH : TypeId × Value → H} {w : World} {n : Nat} {fs : List Field} {α : Type} {enc : α → List AVal} {ok : α → Prop} (h : Flds P fs α enc ok) : ∀ (cs : List Value), cs.length = (fs.map fun f => P.cellsOf f.type).sum →
    (∀ i f, fs[i]? = some f → ∃ x, DataW.trod encH P w 0 (fun _ => true) true n f.type ((cs.drop ((fs.take i).map fun f => P.cellsOf f.type).sum).take (P.cellsOf f.type)) = some x) →
    ∃ a, ok a ∧ RL (Gh.bare w) w (enc a) cs ∧ ∀ y ∈ cs, y.oneCell' = true := by
  induction h with
  | nil => intro cs hl _; have : cs = [] := by simpa using hl
           subst this; exact ⟨(), trivial, rfl, by simp⟩
  | @cons f fs α β enc ok encs oks h hs ih =>
    intro cs hl hf
    simp only [List.map_cons, List.sum_cons] at hl
    obtain ⟨x, hx⟩ := hf 0 f rfl
    simp only [List.take_zero, List.map_nil, List.sum_nil, List.drop_zero] at hx
    obtain ⟨a, h1, h2, h3⟩ := h.read hx
    obtain ⟨b, h4, h5, h6⟩ := ih (cs.drop (P.cellsOf f.type)) (by simp; omega) fun i f' hi => by
      obtain ⟨x, hx⟩ := hf (i + 1) f' (by simpa using hi)
      refine ⟨x, ?_⟩
      simp only [List.take_succ_cons, List.map_cons, List.sum_cons] at hx
      rw [List.drop_drop]
      exact hx
    refine ⟨(a, b), ⟨h1, h4⟩, ?_, fun y hy => ?_⟩
    · have := RL_append h2 h5
      rwa [List.take_append_drop] at this
    · rw [← List.take_append_drop (P.cellsOf f.type) cs] at hy
      rcases List.mem_append.1 hy with hy | hy
      · exact h3 y hy
      · exact h6 y hy

theorem Rdb.struct (hl : laidOutB P = true) (hT0 : Nat.ble (T + 1) P.types.size = true) {fs : Array Field} (ht : P.underlying T = some (.struct fs)) {β S : Type} {encs : β → List AVal} {oks : β → Prop} (h : Flds P fs.toList β encs oks) {enc : S → List AVal} {ok : S → Prop} (conv : β → S) (back : S → β)
    (hconv : ∀ b, enc (conv b) = encs b) (hback : ∀ s, conv (back s) = s) (hok : ∀ b, oks b → ok (conv b)) : Rdb P T enc ok where
  read hx := by
    have hT : T < P.types.size := Nat.le_of_ble_eq_true hT0
    obtain ⟨xs, n, rfl, _, hlen, hxl, hf⟩ := DataW.trod_struct ht hx
    obtain ⟨_, h2, h3⟩ := kid_struct hl hT ht
    obtain ⟨b, k1, k2, k3⟩ := h.read (n := n) _ (by rw [hlen, h2]) fun i f hi => by
      have := hf i f (by simpa using hi)
      rw [h3 i f hi] at this
      obtain ⟨y, hy⟩ : ∃ y, xs[i]? = some y := ⟨_, List.getElem?_eq_getElem (by
        have := (List.getElem?_eq_some_iff.1 hi).1
        simp at this; omega)⟩
      exact ⟨y, by rw [this, hy]⟩
    exact ⟨conv b, hok b k1, by rw [hconv]; exact k2, k3⟩
  pure a := by rw [← hback a, hconv]; exact h.pure _
  len a := by
    have hT : T < P.types.size := Nat.le_of_ble_eq_true hT0
    obtain ⟨_, h2, _⟩ := kid_struct hl hT ht
    rw [← hback a, hconv, h.len, h2]

/-- Arrays, as lists of cells' data. -/
theorem Rdb.arrayL {n : Nat} {e : TypeId} {α : Type} {c : α → AVal} {ok : α → Prop} (ht : P.underlying T = some (.array n e)) (hc : P.cellsOf e = 1) (hT : P.cellsOf T = n) (he : Rdb P e (fun a => [c a]) ok) {H : Type} {encH : TypeId × Value → H} {w : World} {fuel : Nat} {cs : List Value} {x : DataW H × List MemPlace}
    (hx : DataW.trod encH P w 0 (fun _ => true) true fuel T cs = some x) : ∃ l : List α, l.length = n ∧ (∀ a ∈ l, ok a) ∧ RL (Gh.bare w) w (l.map c) cs ∧ ∀ y ∈ cs, y.oneCell' = true := by
  obtain ⟨xs, m, rfl, _, hlen, hxl, hf⟩ := DataW.trod_array ht hx
  rw [hT] at hlen
  have key : ∀ (k : Nat) (ds : List Value), ds.length = k → (∀ i, i < k → ∃ y, DataW.trod encH P w 0 (fun _ => true) true m e ((ds.drop i).take 1) = some y) →
      ∃ l : List α, l.length = k ∧ (∀ a ∈ l, ok a) ∧ RL (Gh.bare w) w (l.map c) ds ∧ ∀ y ∈ ds, y.oneCell' = true := by
    intro k
    induction k with
    | zero => intro ds hd _; have : ds = [] := by simpa using hd
              subst this; exact ⟨[], rfl, by simp, rfl, by simp⟩
    | succ k ih =>
      intro ds hd hr
      obtain ⟨d, ds, rfl⟩ : ∃ d ds', ds = d :: ds' := by cases ds with | nil => simp at hd | cons d ds => exact ⟨d, ds, rfl⟩
      obtain ⟨y, hy⟩ := hr 0 (by omega)
      simp only [List.drop_zero, List.take_succ_cons, List.take_zero] at hy
      obtain ⟨a, h1, h2, h3⟩ := he.read hy
      obtain ⟨l, q1, q2, q3, q4⟩ := ih ds (by simpa using hd) fun i hi => by
        obtain ⟨y, hy⟩ := hr (i + 1) (by omega)
        exact ⟨y, by simpa using hy⟩
      refine ⟨a :: l, by simp [q1], fun b hb => ?_, ?_, fun z hz => ?_⟩
      · rcases List.mem_cons.1 hb with rfl | hb
        · exact h1
        · exact q2 b hb
      · simp only [RL] at h2
        obtain ⟨x1, xs1, e1, e2, e3⟩ := h2
        simp only [List.cons.injEq] at e1
        obtain ⟨rfl, _⟩ := e1
        simp only [List.map_cons, RL]
        exact ⟨_, _, rfl, e2, q3⟩
      · rcases List.mem_cons.1 hz with rfl | hz
        · exact h3 _ (by simp)
        · exact q4 z hz
  refine key n cs hlen fun i hi => ?_
  have := hf i hi
  rw [hc, Nat.mul_one] at this
  obtain ⟨y, hy⟩ : ∃ y, xs[i]? = some y := ⟨_, List.getElem?_eq_getElem (by omega)⟩
  exact ⟨y, by rw [this, hy]⟩

theorem Rdb.array10 {e : TypeId} {α : Type} {c : α → AVal} {ok : α → Prop} (ht : P.underlying T = some (.array 10 e)) (hc : P.cellsOf e = 1) (hT : P.cellsOf T = 10) (he : Rdb P e (fun a => [c a]) ok) :
    Rdb P T (eV10 c) (fun x => ok x.a0 ∧ ok x.a1 ∧ ok x.a2 ∧ ok x.a3 ∧ ok x.a4 ∧ ok x.a5 ∧ ok x.a6 ∧ ok x.a7 ∧ ok x.a8 ∧ ok x.a9) where
  read hx := by
    obtain ⟨l, h1, h2, h3, h4⟩ := Rdb.arrayL ht hc hT he hx
    match l, h1, h2, h3 with
    | [b0, b1, b2, b3, b4, b5, b6, b7, b8, b9], _, h2, h3 =>
      simp only [List.mem_cons, List.not_mem_nil, or_false, forall_eq_or_imp, forall_eq] at h2
      exact ⟨⟨b0, b1, b2, b3, b4, b5, b6, b7, b8, b9⟩, h2, h3, h4⟩
  pure a := by
    have : ∀ x, (c x).pure = true := fun x => by have := he.pure x; simpa [AVal.pureL] using this
    simp [eV10, AVal.pureL, this]
  len a := by simp [eV10, hT]

theorem Rdb.array8 {e : TypeId} {α : Type} {c : α → AVal} {ok : α → Prop} (ht : P.underlying T = some (.array 8 e)) (hc : P.cellsOf e = 1) (hT : P.cellsOf T = 8) (he : Rdb P e (fun a => [c a]) ok) :
    Rdb P T (eV8 c) (fun x => ok x.a0 ∧ ok x.a1 ∧ ok x.a2 ∧ ok x.a3 ∧ ok x.a4 ∧ ok x.a5 ∧ ok x.a6 ∧ ok x.a7) where
  read hx := by
    obtain ⟨l, h1, h2, h3, h4⟩ := Rdb.arrayL ht hc hT he hx
    match l, h1, h2, h3 with
    | [b0, b1, b2, b3, b4, b5, b6, b7], _, h2, h3 =>
      simp only [List.mem_cons, List.not_mem_nil, or_false, forall_eq_or_imp, forall_eq] at h2
      exact ⟨⟨b0, b1, b2, b3, b4, b5, b6, b7⟩, h2, h3, h4⟩
  pure a := by
    have : ∀ x, (c x).pure = true := fun x => by have := he.pure x; simpa [AVal.pureL] using this
    simp [eV8, AVal.pureL, this]
  len a := by simp [eV8, hT]

end

/-- A value of one cell, or of several. -/
theorem Rdb.one {P : Program} {T : TypeId} {α : Type} {enc : α → List AVal} {ok : α → Prop} (h : Rdb P T enc ok) {H : Type} {encH : TypeId × Value → H} {w : World} {v : Value} {d : DataW H} {ps : List MemPlace}
    (hv : DataW.Trod encH P w 0 (fun _ => true) true T v d ps) : ∃ a, ok a ∧ RL (Gh.bare w) w (enc a) v.cells.toList ∧ ∀ y ∈ v.cells.toList, y.oneCell' = true := by
  obtain ⟨fuel, hf⟩ := hv
  exact h.read hf

section
set_option linter.unusedSectionVars false
variable {P : Program} {T : TypeId} [Globs] {α : Type} {enc : α → List AVal} {ok : α → Prop} {H : Type} {encH : TypeId × Value → H} {w : World} {v : Value} {d : DataW H} {ps : List MemPlace} {r : Reach} {base : Nat}

theorem Rdb.agg (h : Rdb P T enc ok) {fs : Array Field} (ht : P.underlying T = some (.struct fs)) (hval : Value.okWide P w r base T v) (hv : DataW.Trod encH P w 0 (fun _ => true) true T v d ps) : ∃ a, ok a ∧ R (Gh.bare w) w (.agg (enc a)) v := by
  obtain ⟨a, h1, h2, h3⟩ := h.one hv
  unfold Value.okWide at hval
  rw [ht] at hval
  obtain ⟨cs, rfl, _⟩ := hval
  exact ⟨a, h1, by simp only [R]; exact ⟨cs.toList, by simp, by simpa [Value.cells] using h3, by simpa [Value.cells] using h2⟩⟩

theorem Rdb.arr (h : Rdb P T enc ok) {n : Nat} {e : TypeId} (ht : P.underlying T = some (.array n e)) (hval : Value.okWide P w r base T v) (hv : DataW.Trod encH P w 0 (fun _ => true) true T v d ps) : ∃ a, ok a ∧ R (Gh.bare w) w (.agg (enc a)) v := by
  obtain ⟨a, h1, h2, h3⟩ := h.one hv
  unfold Value.okWide at hval
  rw [ht] at hval
  obtain ⟨cs, rfl, _⟩ := hval
  exact ⟨a, h1, by simp only [R]; exact ⟨cs.toList, by simp, by simpa [Value.cells] using h3, by simpa [Value.cells] using h2⟩⟩

/-- Which types' values are one cell. -/
def oneT (P : Program) (T : TypeId) : Bool := match P.underlying T with
  | some .bool => true
  | some (.int _) => true
  | some .string => true
  | some (.slice _) => true
  | _ => false

theorem Rdb.cell {c : α → AVal} (h : Rdb P T (fun a => [c a]) ok) (ht : oneT P T = true) (hval : Value.okWide P w r base T v) (hv : DataW.Trod encH P w 0 (fun _ => true) true T v d ps) : ∃ a, ok a ∧ R (Gh.bare w) w (c a) v := by
  obtain ⟨a, h1, h2, _⟩ := h.one hv
  refine ⟨a, h1, ?_⟩
  have hc : v.cells.toList = [v] := by
    unfold oneT at ht
    unfold Value.okWide at hval
    split at ht
    case h_5 => cases ht
    all_goals
      rename_i hu
      rw [hu] at hval
      simp only at hval
      unfold Cell.okWide at hval
      rw [hu] at hval
      cases v <;> simp_all [Cell.ok, Value.cells]
  rw [hc] at h2
  simp only [RL] at h2
  obtain ⟨x, xs, hx, hr, hn⟩ := h2
  simp only [List.cons.injEq] at hx
  rw [hx.1]; exact hr

theorem trodAll_kept {w' : World} {sp : Nat → Bool} (hl : laidOutB P = true) (hm : mapsRowed P = true) (hz : ∀ t e, t < P.types.size → P.underlying t = some (.slice e) → 0 < P.cellsOf e) (hb : Below w.heap.size w w') :
    ∀ {ts : List TypeId} {vs : List Value} {ds : List (DataW H)} {ps : List MemPlace}, (∀ t ∈ ts, t < P.types.size) → DataW.TrodAll encH P w 0 (fun _ => true) true ts vs ds ps → (∀ p ∈ ps, p.block < w.heap.size) → (∀ p ∈ ps, sp p.block = true) →
      DataW.TrodAll encH P w' 0 sp true ts vs ds ps := by
  intro ts vs ds ps hT h hlt hs
  replace h := h.respare (kids_rows hl hm) hz hT hs
  clear hs hz
  revert hlt h
  induction ts generalizing vs ds ps with
  | nil => intro hlt h; cases vs <;> cases ds <;> simp_all [DataW.TrodAll]
  | cons t ts ih =>
    intro hlt h
    cases vs with
    | nil => cases ds <;> simp [DataW.TrodAll] at h
    | cons v vs =>
      cases ds with
      | nil => simp [DataW.TrodAll] at h
      | cons d ds =>
        obtain ⟨p, q, ⟨n, h1⟩, h2, rfl⟩ := h
        refine ⟨p, q, ⟨n, DataW.trod_carry _ _ _ _ h1 fun x hx => hb.same (hlt x (List.mem_append_left _ hx))⟩, ih (fun t ht => hT t (List.mem_cons_of_mem _ ht)) (fun x hx => hlt x (List.mem_append_right _ hx)) h2, rfl⟩

theorem law_top {f : FuncId} {args : List AVal} {v : Value} (h : FnVal P f args (.ret (.sc v))) (w : World) (hg : GlobsOk (Gh.bare w) w) (vs : Array Value) (hl : RL (Gh.bare w) w args vs.toList) :
    Calls P f vs w fun e w' => e = .returned v ∧ Below w.heap.size w w' := by
  refine (h.2 (Gh.bare w) w vs (Gh.bare_inv w hg) hl).mono ?_
  rintro e w' ⟨g', _, hla, x, rfl, hr⟩
  simp only [R] at hr
  subst hr
  exact ⟨rfl, later_below hla⟩
end

end Go.AM
