/- HorizonEgress: on which segments a leaf delivers a frame from a tunnel is what the reference says, by any fabric and any tables. No conditions. -/
import Derived.Test.YtomlhceogkfnlaaGreatWh
import Derived.Test.YtomlhceogkfnlaaGreatLb
import Derived.Test.YtomlhceogkfnlaaGreatRd
import Derived.Test.YtomlhceogkfnlaaGreatAmPl
import Derived.Test.YtomlhceogkfnlaaGreatRows
import Derived.Deep.DeepHandedRow
namespace Go.L
open Go.AM
set_option maxRecDepth 100000
set_option linter.unusedSimpArgs false
set_option linter.unusedVariables false
set_option linter.unusedSectionVars false

/-! ### What a valid fabric is -/

theorem firstErr_ne {α : Type} {E : Nat → α → Int} : ∀ (l : List α) (i : Nat) (e : Int) (j : Nat), firstErr E i l = some (e, j) → e ≠ 0
  | [], _, _, _, h => by simp [firstErr] at h
  | x :: xs, i, e, j, h => by
    simp only [firstErr] at h
    split at h
    · rename_i hne
      simp only [Option.some.injEq, Prod.mk.injEq] at h
      obtain ⟨rfl, _⟩ := h
      exact hne
    · exact firstErr_ne xs (i + 1) e j h

theorem outcome_ne {α : Type} {E : Nat → α → Int} {p : ByteArray} {m : Int} {b : Bool} {l : List α} {i : Nat} {t : Int × ByteArray × Int} (h : outcome p m b (firstErr E i l) = .inr t) : t.1 ≠ 0 := by
  unfold outcome at h
  split at h
  · simp only [Sum.inr.injEq] at h; subst h; simp
  · split at h
    · cases h
    · rename_i e j he
      simp only [Sum.inr.injEq] at h
      subst h
      exact firstErr_ne _ _ _ _ he

theorem thenR_ok {a : Res} {b : Int × ByteArray × Int} (ha : ∀ t, a = .inr t → t.1 ≠ 0) (h : (thenR a b).1 = 0) : a = .inl () ∧ b.1 = 0 := by
  cases a with
  | inl u => exact ⟨rfl, h⟩
  | inr t => exact absurd h (ha t rfl)

def okF (f : Fabric) : Bool := (checkS f).1 == 0

structure Parts (f : Fabric) : Prop where
  fabric : oFabric f = .inl ()
  timers : oTimers f = .inl ()
  links : oLinks f = .inl ()
  tenants : oTenants f = .inl ()
  domains : oDomains f = .inl ()
  segments : oSegments f = .inl ()
  hosts : oHosts f = .inl ()
  leaks : oLeaks f = .inl ()

theorem ok_parts {f : Fabric} (h : okF f = true) : Parts f := by
  simp only [okF, beq_iff_eq, checkS] at h
  have n1 : ∀ t, oFabric f = .inr t → t.1 ≠ 0 := by
    intro t ht; unfold oFabric at ht; split at ht
    · simp only [Sum.inr.injEq] at ht; subst ht; simp
    · cases ht
  have n2 : ∀ t, oTimers f = .inr t → t.1 ≠ 0 := by
    intro t ht; unfold oTimers at ht; split at ht
    · simp only [Sum.inr.injEq] at ht; subst ht; simp
    · cases ht
  obtain ⟨p1, h⟩ := thenR_ok n1 h
  obtain ⟨p2, h⟩ := thenR_ok n2 h
  obtain ⟨p3, h⟩ := thenR_ok (fun t ht => outcome_ne ht) h
  obtain ⟨p4, h⟩ := thenR_ok (fun t ht => outcome_ne ht) h
  obtain ⟨p5, h⟩ := thenR_ok (fun t ht => outcome_ne ht) h
  obtain ⟨p6, h⟩ := thenR_ok (fun t ht => outcome_ne ht) h
  obtain ⟨p7, h⟩ := thenR_ok (fun t ht => outcome_ne ht) h
  obtain ⟨p8, h⟩ := thenR_ok (fun t ht => outcome_ne ht) h
  exact ⟨p1, p2, p3, p4, p5, p6, p7, p8⟩

structure Sizes (f : Fabric) : Prop where
  l1 : 1 ≤ f.Leaves
  l2 : f.Leaves ≤ 32
  s1 : 0 ≤ f.Spines
  s2 : f.Spines ≤ 32
  ls : f.Leaves + f.Spines ≤ 32
  tenants : f.Tenants.length ≤ 16
  bds : f.BDs.length ≤ 32
  segments : f.Segments.length ≤ 64
  leaves : ∀ s ∈ f.Segments, ∀ x ∈ s.Leaves, 0 ≤ x ∧ x < f.Leaves
  horizon : 0 ≤ f.Horizon ∧ f.Horizon ≤ 1

theorem ok_sizes {f : Fabric} (h : okF f = true) : Sizes f := by
  have p := ok_parts h
  have hf := p.fabric
  unfold oFabric at hf
  split at hf
  · cases hf
  · rename_i hb
    simp only [badFabric, out, Bool.not_eq_true, Bool.or_eq_false_iff, decide_eq_false_iff_not] at hb
    have hw : Go.IntKind.wrap .i64 (f.Leaves + f.Spines) = f.Leaves + f.Spines := wrap_i64 (by omega) (by omega)
    rw [hw] at hb
    have t := (outcome_ok p.tenants).1
    have d := (outcome_ok p.domains).1
    have s := (outcome_ok p.segments).1
    simp only [decide_eq_false_iff_not] at t d s
    refine ⟨by omega, by omega, by omega, by omega, by omega, by omega, by omega, by omega, fun x hx y hy => ?_, by omega⟩
    have e := (outcome_ok p.segments).2
    rw [firstErr_none] at e
    obtain ⟨i, hi⟩ := List.getElem?_of_mem hx
    have := e i x hi
    simp only [Nat.zero_add] at this
    cases ha : (x.Leaves.any fun n => !(decide (0 ≤ n) && decide (n < f.Leaves))) with
    | true =>
      unfold segE at this
      rw [ha] at this
      simp only [if_true] at this
      repeat' split at this
      all_goals cases this
    | false =>
      rw [List.any_eq_false] at ha
      have := ha y hy
      simpa using this

section
variable {β : Type} {n : Nat} (hn : 5000 ≤ n) {f : Fabric} (hs : Small f)
include hn hs
theorem tenant_valid (k : c_tenant_valid.sh.El → Option β) : (c_tenant_valid.S n f).bind k = k (okF f) := by
  have : c_tenant_valid.S n f = some (okF f) := by
    show (g_tenant_valid f).run n = _
    simp only [g_tenant_valid, G.run, tsOk, tenant_Check n hn f hs, if_true]; rfl
  rw [this]; rfl
theorem ref_valid22 (hr : Ranged f) (k : c_ref22_valid.sh.El → Option β) : (c_ref22_valid.S n f).bind k = k (okF f) := by
  have : c_ref22_valid.S n f = some (okF f) := by
    show (g_ref22_valid f).run n = _
    simp only [g_ref22_valid, G.run, tsOk, ref_Check n hn f hs hr, if_true]; rfl
  rw [this]; rfl
end

def withinB (x m : Int) : Bool := decide (0 ≤ x) && decide (x < m)

/-! ### Loopback -/

def lbS (x : Int) : Int := if x < 0 then 0 else if x ≥ 32 then 0 else Go.IntKind.wrap .u32 ((Go.IntKind.wrap .u32 ((184483840 : Int) + (Go.IntKind.wrap .u32 x))) + (1 : Int))
def lbE (x : Int) : Int := if x < 0 then 2 else if x ≥ 32 then 2 else 0

section
variable {β : Type} {n : Nat}
theorem addr_Loopback (x : Int) (k : c_addr_Loopback.sh.El → Option β) : (c_addr_Loopback.S n x).bind k = k (lbS x, lbE x) := by
  have : c_addr_Loopback.S n x = some (lbS x, lbE x) := by
    show (g_addr_Loopback x).run n = _
    simp only [g_addr_Loopback, G.run, tsOk, lbS, lbE, decide_eq_true_eq, if_true]
    split
    · rfl
    · split <;> rfl
  rw [this]; rfl
theorem ref_Loopback01 (x : Int) (k : c_ref01_Loopback.sh.El → Option β) : (c_ref01_Loopback.S n x).bind k = k (lbS x, lbE x) := by
  have e : c_ref01_Loopback.S n x = c_addr_Loopback.S n x := rfl
  exact (congrArg (fun o => Option.bind o k) e).trans (addr_Loopback x k)
theorem tenant_loopback (x : Int) (k : c_tenant_loopback.sh.El → Option β) : (c_tenant_loopback.S n x).bind k = k (lbS x) := by
  have : c_tenant_loopback.S n x = some (lbS x) := by
    show (g_tenant_loopback x).run n = _
    simp only [g_tenant_loopback, G.run, tsOk, addr_Loopback, if_true]; rfl
  rw [this]; rfl
end

def LoopbackS (f : Fabric) (x : Int) : Int := if okF f = true then if withinB x (f.Leaves + f.Spines) = true then lbS x else 0 else 0

theorem wrap_ls {f : Fabric} (h : okF f = true) : Go.IntKind.wrap .i64 (f.Leaves + f.Spines) = f.Leaves + f.Spines := by
  have z := ok_sizes h
  exact wrap_i64 (by have := z.l1; have := z.s1; omega) (by have := z.ls; omega)

section
variable {β : Type} {n : Nat} (hn : 5000 ≤ n) {f : Fabric} (hs : Small f)
include hn hs
theorem tenant_Loopback (x : Int) (k : c_tenant_Loopback.sh.El → Option β) : (c_tenant_Loopback.S n (f, x)).bind k = k (LoopbackS f x) := by
  have : c_tenant_Loopback.S n (f, x) = some (LoopbackS f x) := by
    show (g_tenant_Loopback f x).run n = _
    simp only [g_tenant_Loopback, G.run, tsOk, tenant_valid hn hs, tenant_within, tenant_loopback, LoopbackS, if_true]
    by_cases h : okF f = true
    · rw [wrap_ls h]
      simp only [h, Bool.not_true, Bool.false_eq_true, if_false, if_true]
      show (if (!withinB x (f.Leaves + f.Spines)) = true then some 0 else some (lbS x)) = _
      cases withinB x (f.Leaves + f.Spines) <;> rfl
    · simp only [Bool.not_eq_true] at h
      simp only [h, Bool.not_false, if_true, Bool.false_eq_true, if_false]; rfl
  rw [this]; rfl
theorem ref_Loopback (hr : Ranged f) (x : Int) (k : c_ref22_Loopback.sh.El → Option β) : (c_ref22_Loopback.S n (f, x)).bind k = k (LoopbackS f x) := by
  have : c_ref22_Loopback.S n (f, x) = some (LoopbackS f x) := by
    show (g_ref22_Loopback f x).run n = _
    simp only [g_ref22_Loopback, G.run, tsOk, ref_valid22 hn hs hr, ref_within, ref_Loopback01, LoopbackS, if_true]
    by_cases h : okF f = true
    · have z := ok_sizes h
      rw [wrap_ls h, out_lt x _ (by have := z.l1; have := z.s1; omega) (by have := z.ls; omega)]
      simp only [h, Bool.not_true, Bool.false_eq_true, if_false, if_true, Bool.not_not]
      show (if (!withinB x (f.Leaves + f.Spines)) = true then some 0 else some (lbS x)) = _
      cases withinB x (f.Leaves + f.Spines) <;> rfl
    · simp only [Bool.not_eq_true] at h
      simp only [h, Bool.not_false, if_true, Bool.false_eq_true, if_false]; rfl
  rw [this]; rfl
end

/-! ### Multihomed, ESI, Label -/

def multiS (f : Fabric) (s : Int) : Bool := withinB s (f.Segments.length : Int) && ((at? f.Segments s).map fun x => decide ((1 : Int) < (x.Leaves.length : Int))).getD false
def MultiS (f : Fabric) (s : Int) : Bool := okF f && multiS f s

theorem at?_within {α : Type} (l : List α) (s : Int) (h : withinB s (l.length : Int) = true) : ∃ i : Nat, ∃ x, s = (i : Int) ∧ i < l.length ∧ l[i]? = some x ∧ at? l s = some x := by
  simp only [withinB, Bool.and_eq_true, decide_eq_true_eq] at h
  obtain ⟨i, rfl⟩ : ∃ i : Nat, s = (i : Int) := ⟨s.toNat, by omega⟩
  have hi : i < l.length := by omega
  exact ⟨i, l[i], rfl, hi, List.getElem?_eq_getElem hi, by rw [at?_nat]; exact List.getElem?_eq_getElem hi⟩

section
variable {β : Type} {n : Nat}
variable (hn : 5000 ≤ n) {f : Fabric} (hs : Small f)
include hn hs
theorem ref_Multihomed (hr : Ranged f) (s : Int) (k : c_ref22_Multihomed.sh.El → Option β) : (c_ref22_Multihomed.S n (f, s)).bind k = k (MultiS f s) := by
  have : c_ref22_Multihomed.S n (f, s) = some (MultiS f s) := by
    show (g_ref22_Multihomed f s).run n = _
    simp only [g_ref22_Multihomed, G.run, tsOk, ref_valid22 hn hs hr, ref_within, lenO_bind, idxO_bind, MultiS, if_true]
    by_cases h : okF f = true
    · have z := ok_sizes h
      rw [out_lt s _ (by omega) (by have := z.segments; omega)]
      simp only [h, if_true, Bool.not_not, Bool.true_and, multiS]
      show (if withinB s (f.Segments.length : Int) = true then _ else _) = _
      by_cases h : withinB s (f.Segments.length : Int) = true
      · obtain ⟨i, x, rfl, hi, hx, ha⟩ := at?_within _ _ h
        simp only [h, if_true, ha, Option.bind_some, Option.map_some, Option.getD_some, Bool.true_and, gt_iff_lt]; rfl
      · simp only [Bool.not_eq_true] at h
        simp only [h, Bool.false_eq_true, if_false, Bool.false_and]; rfl
    · simp only [Bool.not_eq_true] at h
      simp only [h, Bool.false_eq_true, if_false, Bool.false_and]; rfl
  rw [this]; rfl
end

theorem multi_range {f : Fabric} {s : Int} (h : MultiS f s = true) : 0 ≤ s ∧ s < 64 ∧ s < (f.Segments.length : Int) := by
  simp only [MultiS, multiS, withinB, Bool.and_eq_true, decide_eq_true_eq] at h
  have := (ok_sizes h.1).segments
  omega

def zESI : V10 Int := @Go.AM.V10.mk Int (0 : Int) (0 : Int) (0 : Int) (0 : Int) (0 : Int) (0 : Int) (0 : Int) (0 : Int) (0 : Int) (0 : Int)
def esiS (s : Int) : V10 Int := if s < 0 then zESI else if s ≥ 64 then zESI else @Go.AM.V10.mk Int (3 : Int) (0 : Int) (0 : Int) (0 : Int) (0 : Int) (0 : Int) (0 : Int) (0 : Int) (0 : Int) (Go.IntKind.wrap .u8 (Go.IntKind.wrap .i64 (s + (1 : Int))))
def esiE (s : Int) : Int := if s < 0 then 2 else if s ≥ 64 then 2 else 0
def ESIS (f : Fabric) (s : Int) : V10 Int := if MultiS f s = true then esiS s else zESI
def LabelS (f : Fabric) (s : Int) : Int := if MultiS f s = true then s + 1 else 0

theorem wrap_u32_id {x : Int} (h0 : 0 ≤ x) (h1 : x < 4294967296) : Go.IntKind.wrap .u32 x = x := by rw [wrap_u32]; omega

section
variable {β : Type} {n : Nat}
theorem addr_SegmentESI (s : Int) (k : c_addr_SegmentESI.sh.El → Option β) : (c_addr_SegmentESI.S n s).bind k = k (esiS s, esiE s) := by
  have : c_addr_SegmentESI.S n s = some (esiS s, esiE s) := by
    show (g_addr_SegmentESI s).run n = _
    simp only [g_addr_SegmentESI, G.run, tsOk, esiS, esiE, decide_eq_true_eq, if_true]
    split
    · rfl
    · split <;> rfl
  rw [this]; rfl
theorem ref_SegmentESI (s : Int) (k : c_ref01_SegmentESI.sh.El → Option β) : (c_ref01_SegmentESI.S n s).bind k = k (esiS s, esiE s) := by
  have e : c_ref01_SegmentESI.S n s = c_addr_SegmentESI.S n s := rfl
  exact (congrArg (fun o => Option.bind o k) e).trans (addr_SegmentESI s k)
variable (hn : 5000 ≤ n) {f : Fabric} (hs : Small f)
include hn hs
theorem ref_ESI (hr : Ranged f) (s : Int) (k : c_ref22_ESI.sh.El → Option β) : (c_ref22_ESI.S n (f, s)).bind k = k (ESIS f s) := by
  have : c_ref22_ESI.S n (f, s) = some (ESIS f s) := by
    show (g_ref22_ESI f s).run n = _
    simp only [g_ref22_ESI, G.run, tsOk, ref_Multihomed hn hs hr, ref_SegmentESI, ESIS, if_true]
    cases MultiS f s <;> rfl
  rw [this]; rfl
theorem ref_Label (hr : Ranged f) (s : Int) (k : c_ref22_Label.sh.El → Option β) : (c_ref22_Label.S n (f, s)).bind k = k (LabelS f s) := by
  have : c_ref22_Label.S n (f, s) = some (LabelS f s) := by
    show (g_ref22_Label f s).run n = _
    simp only [g_ref22_Label, G.run, tsOk, ref_Multihomed hn hs hr, LabelS, if_true]
    by_cases h : MultiS f s = true
    · have hr := multi_range h
      simp only [h, Bool.not_true, Bool.false_eq_true, if_false, if_true]
      rw [wrap_i64 (by omega) (by omega), wrap_u32_id (by omega) (by omega)]; rfl
    · simp only [Bool.not_eq_true] at h
      simp only [h, Bool.not_false, if_true, Bool.false_eq_true, if_false]; rfl
  rw [this]; rfl
end

/-! ### At -/

/-- The places of the elements that are so. -/
def posOf {α : Type} (p : α → Bool) : Nat → List α → List Int
  | _, [] => []
  | i, x :: xs => if p x = true then (i : Int) :: posOf p (i + 1) xs else posOf p (i + 1) xs

theorem posOf_snoc {α : Type} (p : α → Bool) : ∀ (l : List α) (i : Nat) (x : α), posOf p i (l ++ [x]) = posOf p i l ++ if p x = true then [((i + l.length : Nat) : Int)] else []
  | [], i, x => by simp [posOf]
  | y :: ys, i, x => by
    simp only [List.cons_append, posOf, posOf_snoc p ys (i + 1) x, List.length_cons]
    have e : i + 1 + ys.length = i + (ys.length + 1) := by omega
    rw [e]
    split <;> simp

theorem posOf_len {α : Type} (p : α → Bool) : ∀ (l : List α) (i : Nat), (posOf p i l).length ≤ l.length
  | [], _ => by simp [posOf]
  | y :: ys, i => by
    simp only [posOf]
    have := posOf_len p ys (i + 1)
    split <;> simp <;> omega

theorem posOf_none {α : Type} (p : α → Bool) : ∀ (l : List α) (i : Nat), (∀ x ∈ l, p x = false) → posOf p i l = []
  | [], _, _ => rfl
  | y :: ys, i, h => by
    simp only [posOf, h y (by simp), Bool.false_eq_true, if_false]
    exact posOf_none p ys (i + 1) fun x hx => h x (by simp [hx])

theorem bind_pos {α γ : Type} {n : Nat} (p : α → Bool) (l : List α) {f : Int × List Int → Option ((Int × List Int) ⊕ List Int)} {k : List Int → Option γ} (hn : l.length < n)
    (hf : ∀ (j : Nat) x, l[j]? = some x → ∀ acc : List Int, acc.length ≤ j → f ((j : Int), acc) = some (.inl (((j + 1 : Nat) : Int), acc ++ if p x = true then [(j : Int)] else [])))
    (he : ∀ acc : List Int, acc.length ≤ l.length → f ((l.length : Int), acc) = some (.inr acc)) : (iterO f n (0, [])).bind k = k (posOf p 0 l) := by
  have : iterO f n (0, []) = some (posOf p 0 l) := iterO_list (fun j (s : List Int) => ((j : Int), s)) l (fun j => posOf p 0 (l.take j)) (posOf p 0 l)
    (fun j x hx => by
      have hj := (List.getElem?_eq_some_iff.1 hx).1
      rw [hf j x hx _ (by have := posOf_len p (l.take j) 0; simp only [List.length_take] at this; omega)]
      have ht : l.take (j + 1) = l.take j ++ [x] := by rw [List.take_add_one, hx]; rfl
      rw [ht, posOf_snoc]
      have e : (0 + (l.take j).length : Nat) = j := by simp; omega
      rw [e])
    (by rw [List.take_length]; exact he _ (posOf_len p l 0)) n hn
  rw [this]; rfl

def AtS (f : Fabric) (x : Int) : List Int := if okF f = true then posOf (fun s : Segment => s.Leaves.any fun y => x == y) 0 f.Segments else []

theorem any_comm (l : List Int) (x : Int) : (l.any fun y => y == x) = l.any fun y => x == y := by
  congr 1; funext y; exact Bool.beq_comm

theorem at_none {f : Fabric} (h : okF f = true) {x : Int} (hx : withinB x f.Leaves = false) : posOf (fun s : Segment => s.Leaves.any fun y => x == y) 0 f.Segments = [] := by
  refine posOf_none _ _ _ fun s hs' => ?_
  rw [List.any_eq_false]
  intro y hy he
  have := (ok_sizes h).leaves s hs' y hy
  simp only [beq_iff_eq] at he
  subst he
  simp only [withinB, Bool.and_eq_false_iff, decide_eq_false_iff_not] at hx
  omega

section
variable {β : Type} {n : Nat} (hn : 5000 ≤ n) {f : Fabric} (hs : Small f)
include hn hs
theorem ref_At (hr : Ranged f) (x : Int) (k : c_ref22_At.sh.El → Option β) : (c_ref22_At.S n (f, x)).bind k = k (AtS f x) := by
  have : c_ref22_At.S n (f, x) = some (AtS f x) := by
    show (g_ref22_At f x).run n = _
    simp only [g_ref22_At, G.run, tsOk, ref_valid22 hn hs hr, lenO_bind, idxO_bind, appO_bind, AtS, if_true]
    by_cases h : okF f = true
    · simp only [h, Bool.not_true, Bool.false_eq_true, if_false, if_true]
      have hz := hs.segments
      refine Eq.trans (bind_pos (fun s : Segment => s.Leaves.any fun y => x == y) f.Segments (by omega) (fun j y hj acc ha => ?_) (fun acc ha => ?_)) ?_
      · have hjl := (List.getElem?_eq_some_iff.1 hj).1
        have hlt : (j : Int) < (f.Segments.length : Int) := by omega
        have hl := (hs.seg y (List.mem_of_getElem? hj)).1
        simp only [hlt, decide_true, if_true, at?_nat, hj, Option.bind_some, ref_has n y.Leaves x (by omega) hl, any_comm, wrap_nat (show j < 9223372036854775807 by omega)]
        cases (y.Leaves.any fun y => x == y) with
        | true =>
          simp only [if_true]
          have : roomy (acc.length + [(j : Int)].length) 8 = true := by simp [roomy]; omega
          rw [if_pos ⟨trivial, this⟩]; rfl
        | false => simp; rfl
      · simp; rfl
      · simp [fzRow]; rfl
    · simp only [Bool.not_eq_true] at h
      simp only [h, Bool.not_false, if_true, Bool.false_eq_true, if_false]; rfl
  rw [this]; rfl
end
theorem bind_same {α γ : Type} {n : Nat} (l : List α) {f : Bool × Int → Option ((Bool × Int) ⊕ Bool)} {k : Bool → Option γ} (hn : l.length < n) (hf : ∀ (j : Nat) x, l[j]? = some x → f (true, (j : Int)) = some (.inl (true, ((j + 1 : Nat) : Int)))) (he : f (true, (l.length : Int)) = some (.inr true)) :
    (iterO f n (true, 0)).bind k = k true := by
  have : iterO f n (true, 0) = some true := iterO_list (fun j (_ : Unit) => (true, (j : Int))) l (fun _ => ()) true (fun j x hx => hf j x hx) he n hn
  rw [this]; rfl

theorem same_ints {β : Type} (n : Nat) (l : List Int) (hn : l.length < n) (hs : l.length ≤ 4000) (k : c_kit_SameInts.sh.El → Option β) : (c_kit_SameInts.S n (l, l)).bind k = k true := by
  have : c_kit_SameInts.S n (l, l) = some true := by
    show (g_kit_SameInts l l).run n = _
    simp only [g_kit_SameInts, G.run, tsOk, lenO_bind, idxO_bind, beq_self_eq_true]
    refine Eq.trans (bind_same l hn (fun j x hx => ?_) ?_) rfl
    · have hj := (List.getElem?_eq_some_iff.1 hx).1
      have hlt : (j : Int) < (l.length : Int) := by omega
      simp only [hlt, decide_true, if_true, at?_nat, hx, Option.bind_some, wrap_nat (show j < 9223372036854775807 by omega), beq_self_eq_true]; rfl
    · simp; rfl
  rw [this]; rfl


theorem vast_small (n : Nat) (f : Fabric) (hn : 5000 ≤ n) : ∃ b, c_kit_Vast.S n f = some b ∧ (b = false → Small f) := by
  have key : ∀ o : Option Bool, (o = some true ∨ (o = some false ∧ Small f)) → ∃ b, o = some b ∧ (b = false → Small f) := by
    intro o h
    rcases h with h | ⟨h, hs⟩
    · exact ⟨true, h, by intro h; cases h⟩
    · exact ⟨false, h, fun _ => hs⟩
  apply key
  show (g_kit_Vast f).run n = some true ∨ ((g_kit_Vast f).run n = some false ∧ Small f)
  simp only [g_kit_Vast, G.run, tsOk, lenO_bind, idxO_bind, gt_iff_lt]
  by_cases h1 : decide ((40 : Int) < (f.Links.length : Int)) = true
  · left; rw [if_pos h1]; rfl
  by_cases h2 : decide ((40 : Int) < (f.Tenants.length : Int)) = true
  · left; rw [if_neg h1, if_pos h2]; rfl
  by_cases h3 : decide ((40 : Int) < (f.BDs.length : Int)) = true
  · left; rw [if_neg h1, if_neg h2, if_pos h3]; rfl
  by_cases h4 : decide ((40 : Int) < (f.Segments.length : Int)) = true
  · left; rw [if_neg h1, if_neg h2, if_neg h3, if_pos h4]; rfl
  by_cases h5 : decide ((40 : Int) < (f.Hosts.length : Int)) = true
  · left; rw [if_neg h1, if_neg h2, if_neg h3, if_neg h4, if_pos h5]; rfl
  by_cases h6 : decide ((40 : Int) < (f.Leaks.length : Int)) = true
  · left; rw [if_neg h1, if_neg h2, if_neg h3, if_neg h4, if_neg h5, if_pos h6]; rfl
  rw [if_neg h1, if_neg h2, if_neg h3, if_neg h4, if_neg h5, if_neg h6]
  simp only [decide_eq_true_eq] at h1 h2 h3 h4 h5 h6
  have hl := bind_any (γ := Bool) (n := n) (k := fun t => G.run n (Sum.elim (fun (_ : Unit) => (.done [] true : G prog (Sh.El (.one Bool)))) (fun _ => .skip 1 <| .done [] false) t)) f.Segments f.Segments.length (fun s => decide ((20 : Int) < (s.Leaves.length : Int)) || decide ((20 : Int) < (s.BDs.length : Int))) (f := fun a8 => if decide (a8 < (f.Segments.length : Int)) = true then (at? f.Segments a8).bind fun x => if decide ((20 : Int) < (x.Leaves.length : Int)) = true then if True then some (.inr (.inl ())) else none else (at? f.Segments a8).bind fun x => if decide ((20 : Int) < (x.BDs.length : Int)) = true then if True then some (.inr (.inl ())) else none else if True then some (.inl (Go.IntKind.wrap .i64 (a8 + 1))) else none else if True then some (.inr (.inr ())) else none) (by omega) (by omega) (fun j y hj hy => ?_) ?_
  · have hb : ∀ o : Option Bool, o = (if ((f.Segments.take f.Segments.length).any fun s => decide ((20 : Int) < (s.Leaves.length : Int)) || decide ((20 : Int) < (s.BDs.length : Int))) = true then some true else some false) → o = some true ∨ (o = some false ∧ Small f) := by
      intro o ho
      rw [List.take_length] at ho
      cases hany : (f.Segments.any fun s => decide ((20 : Int) < (s.Leaves.length : Int)) || decide ((20 : Int) < (s.BDs.length : Int)))
      · right
        rw [hany] at ho
        refine ⟨ho, ⟨by omega, by omega, by omega, by omega, by omega, by omega, fun s hs => ?_⟩⟩
        rw [List.any_eq_false] at hany
        have := hany s hs
        simp only [Bool.or_eq_true, decide_eq_true_eq, not_or] at this
        omega
      · left
        rw [hany] at ho
        exact ho
    exact hb _ hl
  · have hlt : (j : Int) < (f.Segments.length : Int) := by omega
    simp only [hlt, decide_true, if_true, at?_nat, hy, Option.bind_some, wrap_nat (show j < 9223372036854775807 by omega)]
    cases decide ((20 : Int) < (y.Leaves.length : Int)) <;> cases decide ((20 : Int) < (y.BDs.length : Int)) <;> rfl
  · simp

end Go.L
namespace Go.L
open Go.AM
set_option maxRecDepth 100000
set_option linter.unusedSimpArgs false
set_option linter.unusedVariables false
set_option linter.unusedSectionVars false

/-! ### Forwarders and members -/

def esiEq (a b : V10 Int) : Bool := ((a.a0 == b.a0) && ((a.a1 == b.a1) && ((a.a2 == b.a2) && ((a.a3 == b.a3) && ((a.a4 == b.a4) && ((a.a5 == b.a5) && ((a.a6 == b.a6) && ((a.a7 == b.a7) && ((a.a8 == b.a8) && ((a.a9 == b.a9) && true))))))))))
def fwdP (e : V10 Int) (bd : Int) (x : Forwarder) : Bool := esiEq x.ESI e && x.BD == bd
def memP (e : V10 Int) (x : Sharing) : Bool := esiEq x.ESI e
def fwdS (own : Int) (e : V10 Int) (bd : Int) (l : List Forwarder) : Bool := ((l.find? (fwdP e bd)).map fun x => x.IP == own).getD false
def memS (e : V10 Int) (l : List Sharing) (ip : Int) : Bool := ((l.find? (memP e)).map fun x => x.Members.any fun y => ip == y).getD false
def multiP (x : Segment) : Bool := decide ((1 : Int) < (x.Leaves.length : Int))
def mini (l : List Sharing) : Prop := l.length ≤ 4000 ∧ ∀ x ∈ l, x.Members.length ≤ 4000

theorem find_idx {α : Type} (p : α → Bool) : ∀ (l : List α), (l.findIdx? p).bind (fun i => l[i]?) = l.find? p
  | [] => rfl
  | x :: xs => by
    rw [List.findIdx?_cons, List.find?_cons]
    cases p x with
    | true => rfl
    | false =>
      rw [← find_idx p xs]
      simp only [Bool.false_eq_true, if_false]
      cases xs.findIdx? p <;> rfl

theorem idx_find {α β : Type} (p : α → Bool) (l : List α) (g : α → Option β) (d : Option β) :
    (if decide (idxOf p l ≥ 0) = true then (at? l (idxOf p l)).bind g else d) = (match l.find? p with | some x => g x | none => d) := by
  have h := find_idx p l
  unfold idxOf
  cases hi : l.findIdx? p with
  | none => rw [hi] at h; rw [← h]; simp
  | some i =>
    rw [hi] at h
    simp only [Option.bind_some] at h
    rw [← h]
    have hlt : i < l.length := by
      by_cases hc : i < l.length
      · exact hc
      · exfalso
        have hn : l[i]? = none := List.getElem?_eq_none (by omega)
        rw [hn] at h
        have := List.findIdx?_eq_none_iff.2 (fun x hx => by
          have := List.find?_eq_none.1 h.symm x hx
          simpa using this)
        rw [this] at hi; cases hi
    have h0 : decide ((i : Int) ≥ 0) = true := by simp
    simp only [h0, if_true, at?_nat, List.getElem?_eq_getElem hlt, Option.bind_some]

section
variable {β : Type} {n : Nat}
theorem index_ip (l : List Int) (v : Int) (hn : l.length < n) (hs : l.length ≤ 4000) (k : c_slices_Contains_IP_IP.sh.El → Option β) : (c_slices_Contains_IP_IP.S n (l, v)).bind k = k (l.any fun x => v == x) := by
  have e1 : c_slices_Index_IP_IP.S n (l, v) = some (idxOf (fun x : Int => v == x) l) := by
    show (g_slices_Index_IP_IP l v).run n = _
    simp only [g_slices_Index_IP_IP, G.run, tsOk, lenO_bind, idxO_bind, if_true]
    refine bind_index l (fun x : Int => v == x) hn (fun i x hx => ?_) ?_ ?_
    · have hi := (List.getElem?_eq_some_iff.1 hx).1
      have hlt : (i : Int) < l.length := by omega
      simp only [at?_nat, hx, Option.bind_some, hlt, decide_true, if_true, wrap_nat (show i < 9223372036854775807 by omega)]
      split <;> rfl
    · simp only [Int.lt_irrefl, decide_false, Bool.false_eq_true, if_false] <;> rfl
    · unfold idxOf; cases l.findIdx? (fun x : Int => v == x) <;> rfl
  have : c_slices_Contains_IP_IP.S n (l, v) = some (l.any fun x => v == x) := by
    show (g_slices_Contains_IP_IP l v).run n = _
    have e1b : ∀ {γ : Type} (k : c_slices_Index_IP_IP.sh.El → Option γ), (c_slices_Index_IP_IP.S n (l, v)).bind k = k (idxOf (fun x : Int => v == x) l) := fun k => by rw [e1]; rfl
    simp only [g_slices_Contains_IP_IP, G.run, tsOk, e1b, idxOf_any, if_true]; rfl
  rw [this]; rfl

theorem fwd1 (x : Forwarder) (e : V10 Int) (bd : Int) (k : c_horizon_view_forwards_1.sh.El → Option β) : (c_horizon_view_forwards_1.S n (x, e.a0, e.a1, e.a2, e.a3, e.a4, e.a5, e.a6, e.a7, e.a8, e.a9, bd)).bind k = k (fwdP e bd x) := by
  have : c_horizon_view_forwards_1.S n (x, e.a0, e.a1, e.a2, e.a3, e.a4, e.a5, e.a6, e.a7, e.a8, e.a9, bd) = some (fwdP e bd x) := by
    show (g_horizon_view_forwards_1 x e.a0 e.a1 e.a2 e.a3 e.a4 e.a5 e.a6 e.a7 e.a8 e.a9 bd).run n = _
    simp only [g_horizon_view_forwards_1, G.run, tsOk, if_true]
    show (if esiEq x.ESI e = true then some (x.BD == bd) else some false) = some (fwdP e bd x)
    unfold fwdP
    cases esiEq x.ESI e <;> rfl
  rw [this]; rfl
theorem mem1 (x : Sharing) (e : V10 Int) (k : c_horizon_view_member_1.sh.El → Option β) : (c_horizon_view_member_1.S n (x, e.a0, e.a1, e.a2, e.a3, e.a4, e.a5, e.a6, e.a7, e.a8, e.a9)).bind k = k (memP e x) := rfl

theorem index_fwd (l : List Forwarder) (e : V10 Int) (bd : Int) (hn : l.length < n) (hs : l.length ≤ 4000) (k : c_slices_IndexFunc_Forwarder_Forwarder.sh.El → Option β) :
    (c_slices_IndexFunc_Forwarder_Forwarder.S n (l, e.a0, e.a1, e.a2, e.a3, e.a4, e.a5, e.a6, e.a7, e.a8, e.a9, bd)).bind k = k (idxOf (fwdP e bd) l) := by
  have : c_slices_IndexFunc_Forwarder_Forwarder.S n (l, e.a0, e.a1, e.a2, e.a3, e.a4, e.a5, e.a6, e.a7, e.a8, e.a9, bd) = some (idxOf (fwdP e bd) l) := by
    show (g_slices_IndexFunc_Forwarder_Forwarder l e.a0 e.a1 e.a2 e.a3 e.a4 e.a5 e.a6 e.a7 e.a8 e.a9 bd).run n = _
    simp only [g_slices_IndexFunc_Forwarder_Forwarder, G.run, tsOk, lenO_bind, idxO_bind, fwd1, if_true]
    refine bind_index l (fwdP e bd) hn (fun i x hx => ?_) ?_ ?_
    · have hi := (List.getElem?_eq_some_iff.1 hx).1
      have hlt : (i : Int) < l.length := by omega
      simp only [at?_nat, hx, Option.bind_some, hlt, decide_true, if_true, wrap_nat (show i < 9223372036854775807 by omega)]
      split <;> rfl
    · simp only [Int.lt_irrefl, decide_false, Bool.false_eq_true, if_false] <;> rfl
    · unfold idxOf; cases l.findIdx? (fwdP e bd) <;> rfl
  rw [this]; rfl
theorem index_mem (l : List Sharing) (e : V10 Int) (hn : l.length < n) (hs : l.length ≤ 4000) (k : c_slices_IndexFunc_Sharing_Sharing.sh.El → Option β) :
    (c_slices_IndexFunc_Sharing_Sharing.S n (l, e.a0, e.a1, e.a2, e.a3, e.a4, e.a5, e.a6, e.a7, e.a8, e.a9)).bind k = k (idxOf (memP e) l) := by
  have : c_slices_IndexFunc_Sharing_Sharing.S n (l, e.a0, e.a1, e.a2, e.a3, e.a4, e.a5, e.a6, e.a7, e.a8, e.a9) = some (idxOf (memP e) l) := by
    show (g_slices_IndexFunc_Sharing_Sharing l e.a0 e.a1 e.a2 e.a3 e.a4 e.a5 e.a6 e.a7 e.a8 e.a9).run n = _
    simp only [g_slices_IndexFunc_Sharing_Sharing, G.run, tsOk, lenO_bind, idxO_bind, mem1, if_true]
    refine bind_index l (memP e) hn (fun i x hx => ?_) ?_ ?_
    · have hi := (List.getElem?_eq_some_iff.1 hx).1
      have hlt : (i : Int) < l.length := by omega
      simp only [at?_nat, hx, Option.bind_some, hlt, decide_true, if_true, wrap_nat (show i < 9223372036854775807 by omega)]
      split <;> rfl
    · simp only [Int.lt_irrefl, decide_false, Bool.false_eq_true, if_false] <;> rfl
    · unfold idxOf; cases l.findIdx? (memP e) <;> rfl
  rw [this]; rfl

/-! ### The view's own answers -/
theorem view_esi (v : horizon_view) (s : Int) (k : c_horizon_view_esi.sh.El → Option β) : (c_horizon_view_esi.S n (v, s)).bind k = k (esiS s) := by
  have : c_horizon_view_esi.S n (v, s) = some (esiS s) := by
    show (g_horizon_view_esi v s).run n = _
    simp only [g_horizon_view_esi, G.run, tsOk, addr_SegmentESI, if_true]; rfl
  rw [this]; rfl
theorem view_multi (v : horizon_view) (j : Nat) (x : Segment) (hx : v.Fabric.Segments[j]? = some x) (k : c_horizon_view_multihomed.sh.El → Option β) : (c_horizon_view_multihomed.S n (v, (j : Int))).bind k = k (multiP x) := by
  have : c_horizon_view_multihomed.S n (v, (j : Int)) = some (multiP x) := by
    show (g_horizon_view_multihomed v (j : Int)).run n = _
    simp only [g_horizon_view_multihomed, G.run, tsOk, lenO_bind, idxO_bind, at?_nat, hx, Option.bind_some, if_true, gt_iff_lt]; rfl
  rw [this]; rfl
theorem view_forwards (v : horizon_view) (bd : Int) (j : Nat) (x : Segment) (hx : v.Fabric.Segments[j]? = some x) (hl : x.Leaves.length ≤ 4000) (hw : v.forwarders.length ≤ 4000) (hn : 5000 ≤ n) (k : c_horizon_view_forwards.sh.El → Option β) :
    (c_horizon_view_forwards.S n (v, bd, (j : Int))).bind k = k ((x.Leaves.any fun y => v.leaf == y) && (!multiP x || fwdS v.own (esiS (j : Int)) bd v.forwarders)) := by
  have : c_horizon_view_forwards.S n (v, bd, (j : Int)) = some ((x.Leaves.any fun y => v.leaf == y) && (!multiP x || fwdS v.own (esiS (j : Int)) bd v.forwarders)) := by
    show (g_horizon_view_forwards v bd (j : Int)).run n = _
    simp only [g_horizon_view_forwards, G.run, tsOk, lenO_bind, idxO_bind, at?_nat, hx, Option.bind_some, contains_int n x.Leaves v.leaf (by omega) hl, view_multi v j x hx, view_esi, index_fwd (n := n) v.forwarders (esiS (j : Int)) bd (by omega) hw, idx_find, if_true]
    cases (x.Leaves.any fun y => v.leaf == y) with
    | false => rfl
    | true =>
      simp only [Bool.not_true, Bool.false_eq_true, if_false, Bool.true_and]
      cases multiP x with
      | false => rfl
      | true =>
        simp only [Bool.not_true, Bool.false_eq_true, if_false, Bool.false_or, fwdS]
        cases v.forwarders.find? (fwdP (esiS (j : Int)) bd) <;> rfl
  rw [this]; rfl
theorem view_member (v : horizon_view) (ip : Int) (j : Nat) (x : Segment) (hx : v.Fabric.Segments[j]? = some x) (hm : mini v.sharing) (hn : 5000 ≤ n) (k : c_horizon_view_member.sh.El → Option β) :
    (c_horizon_view_member.S n (v, (j : Int), ip)).bind k = k (multiP x && memS (esiS (j : Int)) v.sharing ip) := by
  have hm1 := hm.1
  have : c_horizon_view_member.S n (v, (j : Int), ip) = some (multiP x && memS (esiS (j : Int)) v.sharing ip) := by
    show (g_horizon_view_member v (j : Int) ip).run n = _
    simp only [g_horizon_view_member, G.run, tsOk, lenO_bind, idxO_bind, view_multi v j x hx, view_esi, index_mem (n := n) v.sharing (esiS (j : Int)) (by omega) hm1, idx_find, if_true]
    cases multiP x with
    | false => rfl
    | true =>
      simp only [Bool.not_true, Bool.false_eq_true, if_false, Bool.true_and, memS]
      cases hf : v.sharing.find? (memP (esiS (j : Int))) with
      | none => rfl
      | some y =>
        have hy := hm.2 y (List.mem_of_find?_eq_some hf)
        exact index_ip (n := n) y.Members ip (by omega) hy _
  rw [this]; rfl

def localS (v : horizon_view) (bd src : Int) (j : Int) (x : Segment) : Bool :=
  ((x.Leaves.any fun y => v.leaf == y) && (!multiP x || fwdS v.own (esiS j) bd v.forwarders)) && !(multiP x && memS (esiS j) v.sharing src)
def labelS (v : horizon_view) (bd mark : Int) (j : Int) (x : Segment) : Bool :=
  !(multiP x && (j + 1 == mark)) && ((x.Leaves.any fun y => v.leaf == y) && (!multiP x || fwdS v.own (esiS j) bd v.forwarders))

theorem leaving_local (l : horizon_leaving) (j : Nat) (x : Segment) (hx : l.view.Fabric.Segments[j]? = some x) (hl : x.Leaves.length ≤ 4000) (hw : l.view.forwarders.length ≤ 4000) (hm : mini l.view.sharing) (hn : 5000 ≤ n) (k : c_horizon_leaving_local.sh.El → Option β) :
    (c_horizon_leaving_local.S n (l, (j : Int))).bind k = k (localS l.view l.bd l.source (j : Int) x) := by
  have : c_horizon_leaving_local.S n (l, (j : Int)) = some (localS l.view l.bd l.source (j : Int) x) := by
    show (g_horizon_leaving_local l (j : Int)).run n = _
    simp only [g_horizon_leaving_local, G.run, tsOk, view_forwards l.view l.bd j x hx hl hw hn, view_member l.view l.source j x hx hm hn, if_true, localS]
    generalize ((x.Leaves.any fun y => l.view.leaf == y) && (!multiP x || fwdS l.view.own (esiS (j : Int)) l.bd l.view.forwarders)) = b
    cases b <;> rfl
  rw [this]; rfl
theorem leaving_label (l : horizon_leaving) (j : Nat) (x : Segment) (hx : l.view.Fabric.Segments[j]? = some x) (hj : j < 4000) (hl : x.Leaves.length ≤ 4000) (hw : l.view.forwarders.length ≤ 4000) (hn : 5000 ≤ n) (k : c_horizon_leaving_label.sh.El → Option β) :
    (c_horizon_leaving_label.S n (l, (j : Int))).bind k = k (labelS l.view l.bd l.mark (j : Int) x) := by
  have : c_horizon_leaving_label.S n (l, (j : Int)) = some (labelS l.view l.bd l.mark (j : Int) x) := by
    show (g_horizon_leaving_label l (j : Int)).run n = _
    have e : Go.IntKind.wrap .u32 (Go.IntKind.wrap .u32 (j : Int) + 1) = (j : Int) + 1 := by rw [wrap_u32_id (x := (j : Int)) (by omega) (by omega), wrap_u32_id (by omega) (by omega)]
    simp only [g_horizon_leaving_label, G.run, tsOk, view_multi l.view j x hx, view_forwards l.view l.bd j x hx hl hw hn, if_true, labelS, e]
    generalize ((x.Leaves.any fun y => l.view.leaf == y) && (!multiP x || fwdS l.view.own (esiS (j : Int)) l.bd l.view.forwarders)) = b
    cases multiP x with
    | false => cases b <;> rfl
    | true =>
      cases ((j : Int) + 1 == l.mark) <;> cases b <;> rfl
  rw [this]; rfl
end
end Go.L
namespace Go.L
open Go.AM
set_option maxRecDepth 100000
set_option linter.unusedSimpArgs false
set_option linter.unusedVariables false
set_option linter.unusedSectionVars false

theorem bind_find {α τ γ ST : Type} {f : ST → Option (ST ⊕ τ)} (mk : Nat → ST) (l : List α) (p : α → Bool) (hit : α → τ) (fin : τ) {k : τ → Option γ} {n : Nat} (hn : l.length < n)
    (hs : ∀ (j : Nat) x, l[j]? = some x → f (mk j) = some (if p x = true then .inr (hit x) else .inl (mk (j + 1)))) (he : f (mk l.length) = some (.inr fin)) :
    (iterO f n (mk 0)).bind k = k (match l.find? p with | some x => hit x | none => fin) := by
  rw [iterO_scan (σ := Unit) (fun j _ => mk j) (fun _ x _ => if p x = true then .inr (hit x) else .inl ()) (fun _ => fin) l (fun i x _ hx => by rw [hs i x hx]; cases p x <;> rfl) (fun _ => he) n () hn]
  have : ∀ (l : List α) (i : Nat), scan (fun _ x (_ : Unit) => if p x = true then (.inr (hit x) : Unit ⊕ τ) else .inl ()) i l () = (match l.find? p with | some x => .inr (hit x) | none => .inl ()) := by
    intro l
    induction l with
    | nil => intro i; rfl
    | cons x xs ih =>
      intro i
      simp only [scan, List.find?_cons]
      cases p x with
      | true => rfl
      | false => exact ih (i + 1)
  rw [Option.bind_some, this l 0]
  cases l.find? p <;> rfl

/-! ### The reference's answers -/

theorem posOf_ge {α : Type} (p : α → Bool) : ∀ (l : List α) (i : Nat) (y : Int), y ∈ posOf p i l → (i : Int) ≤ y
  | [], _, _, h => by simp [posOf] at h
  | x :: xs, i, y, h => by
    simp only [posOf] at h
    split at h
    · rcases List.mem_cons.1 h with rfl | h
      · exact Int.le_refl _
      · have := posOf_ge p xs (i + 1) y h; omega
    · have := posOf_ge p xs (i + 1) y h; omega
theorem posOf_any {α : Type} (p : α → Bool) : ∀ (l : List α) (i j : Nat) (x : α), l[j]? = some x → (posOf p i l).any (fun y => y == ((i + j : Nat) : Int)) = p x
  | [], _, _, _, h => by simp at h
  | y :: ys, i, 0, x, h => by
    simp only [List.getElem?_cons_zero, Option.some.injEq] at h
    subst h
    have hr : (posOf p (i + 1) ys).any (fun z => z == ((i + 0 : Nat) : Int)) = false := by
      rw [List.any_eq_false]
      intro z hz he
      have := posOf_ge p ys (i + 1) z hz
      simp only [beq_iff_eq] at he
      omega
    simp only [posOf]
    cases p y with
    | true => simp
    | false => simp only [Bool.false_eq_true, if_false]; exact hr
  | y :: ys, i, j + 1, x, h => by
    simp only [List.getElem?_cons_succ] at h
    have ih := posOf_any p ys (i + 1) j x h
    have e : i + 1 + j = i + (j + 1) := by omega
    rw [e] at ih
    simp only [posOf]
    have hne : ((i : Int) == ((i + (j + 1) : Nat) : Int)) = false := by
      simp only [beq_eq_false_iff_ne]; omega
    cases p y with
    | true => simp only [if_true, List.any_cons, hne, Bool.false_or]; exact ih
    | false => simp only [Bool.false_eq_true, if_false]; exact ih

def namesS (f : Fabric) (leaf j : Int) : Bool := (AtS f leaf).any fun y => y == j
theorem names_ok {f : Fabric} (h : okF f = true) (leaf : Int) (j : Nat) (x : Segment) (hx : f.Segments[j]? = some x) : namesS f leaf (j : Int) = x.Leaves.any fun y => leaf == y := by
  have := posOf_any (fun s : Segment => s.Leaves.any fun y => leaf == y) f.Segments 0 j x hx
  rw [Nat.zero_add] at this
  simp only [namesS, AtS, h, if_true, this]
theorem names_no {f : Fabric} (leaf j : Int) (h : okF f = false ∨ (okF f = true ∧ withinB leaf f.Leaves = false)) : namesS f leaf j = false := by
  rcases h with h | ⟨h, h2⟩
  · simp [namesS, AtS, h]
  · simp [namesS, AtS, h, at_none h h2]

section
variable {β : Type} {n : Nat}
theorem ref27_has (l : List Int) (v : Int) (hn : l.length < n) (hs : l.length ≤ 4000) (k : c_ref27_has.sh.El → Option β) : (c_ref27_has.S n (l, v)).bind k = k (l.any fun x => x == v) := by
  have : c_ref27_has.S n (l, v) = some (l.any fun x => x == v) := by
    show (g_ref27_has l v).run n = _
    simp only [g_ref27_has, G.run, tsOk, lenO_bind, idxO_bind, if_true]
    refine (bind_any l l.length (fun x => x == v) hn (Nat.le_refl _) (fun j x hj hx => ?_) ?_).trans ?_
    · have hlt : (j : Int) < (l.length : Int) := by omega
      simp only [hlt, decide_true, if_true, at?_nat, hx, Option.bind_some, wrap_nat (show j < 9223372036854775807 by omega)]
      cases (x == v) <;> rfl
    · simp only [Int.lt_irrefl, decide_false, Bool.false_eq_true, if_false] <;> rfl
    · rw [List.take_length]; cases (l.any fun x => x == v) <;> rfl
  rw [this]; rfl
variable (hn : 5000 ≤ n) {f : Fabric} (hs : Small f) (hr : Ranged f)
include hn hs hr
theorem at_len (leaf : Int) : (AtS f leaf).length ≤ 4000 := by
  have := hs.segments
  unfold AtS
  split
  · have := posOf_len (fun s : Segment => s.Leaves.any fun y => leaf == y) f.Segments 0; omega
  · simp
theorem ref27_names (leaf s : Int) (k : c_ref27_names.sh.El → Option β) : (c_ref27_names.S n (f, leaf, s)).bind k = k (namesS f leaf s) := by
  have hl := at_len hn hs hr leaf
  have : c_ref27_names.S n (f, leaf, s) = some (namesS f leaf s) := by
    show (g_ref27_names f leaf s).run n = _
    simp only [g_ref27_names, G.run, tsOk, ref_At hn hs hr, ref27_has (n := n) (AtS f leaf) s (by omega) hl, if_true]; rfl
  rw [this]; rfl

def upS (up : List Bool) (j : Nat) : Bool := (up[j]?).getD false
def partS (f : Fabric) (leaf : Int) (up : List Bool) (bd : Int) (j : Nat) (x : Segment) : Bool := namesS f leaf (j : Int) && ((x.BDs.any fun y => y == bd) && upS up j)
theorem ref27_part (leaf : Int) (up : List Bool) (bd : Int) (j : Nat) (x : Segment) (hx : f.Segments[j]? = some x) (k : c_ref27_part.sh.El → Option β) : (c_ref27_part.S n (f, leaf, up, bd, (j : Int))).bind k = k (partS f leaf up bd j x) := by
  have hb := (hs.seg x (List.mem_of_getElem? hx)).2
  have : c_ref27_part.S n (f, leaf, up, bd, (j : Int)) = some (partS f leaf up bd j x) := by
    show (g_ref27_part f leaf up bd (j : Int)).run n = _
    simp only [g_ref27_part, G.run, tsOk, ref27_names hn hs hr, lenO_bind, idxO_bind, at?_nat, hx, Option.bind_some, ref27_has (n := n) x.BDs bd (by omega) hb, if_true, partS]
    cases namesS f leaf (j : Int) with
    | false => rfl
    | true =>
      cases (x.BDs.any fun y => y == bd) with
      | false => rfl
      | true =>
        simp only [if_true, Bool.true_and, upS]
        by_cases hj : j < up.length
        · have hlt : (j : Int) < (up.length : Int) := by omega
          simp only [hlt, decide_true, if_true, List.getElem?_eq_getElem hj, Option.bind_some, Option.getD_some]; rfl
        · have hlt : ¬ (j : Int) < (up.length : Int) := by omega
          simp only [hlt, decide_false, Bool.false_eq_true, if_false, List.getElem?_eq_none (Nat.le_of_not_lt hj), Option.getD_none]; rfl
  rw [this]; rfl

def ForwardsS (f : Fabric) (leaf : Int) (l : List Forwarder) (bd s : Int) : Bool := namesS f leaf s && (!MultiS f s || fwdS (LoopbackS f leaf) (ESIS f s) bd l)
theorem ref27_Forwards (leaf : Int) (l : List Forwarder) (bd s : Int) (hl : l.length ≤ 4000) (k : c_ref27_Forwards.sh.El → Option β) : (c_ref27_Forwards.S n (f, leaf, l, bd, s)).bind k = k (ForwardsS f leaf l bd s) := by
  have : c_ref27_Forwards.S n (f, leaf, l, bd, s) = some (ForwardsS f leaf l bd s) := by
    show (g_ref27_Forwards f leaf l bd s).run n = _
    simp only [g_ref27_Forwards, G.run, tsOk, ref27_names hn hs hr, ref_Multihomed hn hs hr, ref_ESI hn hs hr, ref_Loopback hn hs hr, lenO_bind, idxO_bind, if_true, ForwardsS]
    cases namesS f leaf s with
    | false => rfl
    | true =>
      cases MultiS f s with
      | false => rfl
      | true =>
        simp only [Bool.not_true, Bool.false_eq_true, if_false, Bool.true_and, Bool.false_or, fwdS]
        refine (bind_find (fun j => (j : Int)) l (fwdP (ESIS f s) bd) (fun x => .inl (x.IP == LoopbackS f leaf)) (.inr ()) (by omega) (fun j x hx => ?_) ?_).trans ?_
        · have hj := (List.getElem?_eq_some_iff.1 hx).1
          have hlt : (j : Int) < (l.length : Int) := by omega
          simp only [hlt, decide_true, if_true, at?_nat, hx, Option.bind_some, wrap_nat (show j < 9223372036854775807 by omega)]
          show (if esiEq x.ESI (ESIS f s) = true then _ else _) = some (if (esiEq x.ESI (ESIS f s) && x.BD == bd) = true then _ else _)
          cases esiEq x.ESI (ESIS f s) with
          | false => rfl
          | true => cases (x.BD == bd) <;> rfl
        · simp only [Int.lt_irrefl, decide_false, Bool.false_eq_true, if_false] <;> rfl
        · cases l.find? (fwdP (ESIS f s) bd) <;> rfl
  rw [this]; rfl

def MemberS (f : Fabric) (l : List Sharing) (s ip : Int) : Bool := MultiS f s && memS (ESIS f s) l ip
theorem ref27_Member (l : List Sharing) (s ip : Int) (hm : mini l) (k : c_ref27_Member.sh.El → Option β) : (c_ref27_Member.S n (f, l, s, ip)).bind k = k (MemberS f l s ip) := by
  have hl := hm.1
  have : c_ref27_Member.S n (f, l, s, ip) = some (MemberS f l s ip) := by
    show (g_ref27_Member f l s ip).run n = _
    simp only [g_ref27_Member, G.run, tsOk, ref_Multihomed hn hs hr, ref_ESI hn hs hr, lenO_bind, idxO_bind, if_true, MemberS]
    cases MultiS f s with
    | false => rfl
    | true =>
      simp only [Bool.not_true, Bool.false_eq_true, if_false, Bool.true_and, memS]
      refine (bind_find (fun j => (j : Int)) l (memP (ESIS f s)) (fun x => .inl (x.Members.any fun y => ip == y)) (.inr ()) (by omega) (fun j x hx => ?_) ?_).trans ?_
      · have hj := (List.getElem?_eq_some_iff.1 hx).1
        have hlt : (j : Int) < (l.length : Int) := by omega
        have hy := hm.2 x (List.mem_of_getElem? hx)
        simp only [hlt, decide_true, if_true, at?_nat, hx, Option.bind_some, wrap_nat (show j < 9223372036854775807 by omega)]
        show (if (!esiEq x.ESI (ESIS f s)) = true then _ else _) = some (if esiEq x.ESI (ESIS f s) = true then _ else _)
        cases esiEq x.ESI (ESIS f s) with
        | false => rfl
        | true =>
          simp only [Bool.not_true, Bool.false_eq_true, if_false, if_true]
          refine (bind_any x.Members x.Members.length (fun y => y == ip) (by omega) (Nat.le_refl _) (fun i y hi hyi => ?_) ?_).trans ?_
          · have hlt : (i : Int) < (x.Members.length : Int) := by omega
            simp only [hlt, decide_true, if_true, at?_nat, hyi, Option.bind_some, wrap_nat (show i < 9223372036854775807 by omega)]
            cases (y == ip) <;> rfl
          · simp only [Int.lt_irrefl, decide_false, Bool.false_eq_true, if_false] <;> rfl
          · rw [List.take_length, any_comm]; cases (x.Members.any fun y => ip == y) <;> rfl
      · simp only [Int.lt_irrefl, decide_false, Bool.false_eq_true, if_false] <;> rfl
      · cases l.find? (memP (ESIS f s)) <;> rfl
  rw [this]; rfl
end
end Go.L
namespace Go.L
open Go.AM
set_option maxRecDepth 100000
set_option linter.unusedSimpArgs false
set_option linter.unusedVariables false
set_option linter.unusedSectionVars false

/-! ### Egress -/

def QS (f : Fabric) (leaf : Int) (up : List Bool) (fw : List Forwarder) (sh : List Sharing) (bd src mark : Int) (y : Segment × Nat) : Bool :=
  partS f leaf up bd y.2 y.1 && (ForwardsS f leaf fw bd (y.2 : Int) && !(MultiS f (y.2 : Int) && (((f.Horizon == 1) && (LabelS f (y.2 : Int) == mark)) || ((f.Horizon == 0) && MemberS f sh (y.2 : Int) src))))

theorem zip_at {α : Type} (l : List α) (j : Nat) (y : α × Nat) (h : l.zipIdx[j]? = some y) : l[j]? = some y.1 ∧ y.2 = j := by
  rw [List.getElem?_zipIdx] at h
  cases hl : l[j]? with
  | none => rw [hl] at h; cases h
  | some x =>
    rw [hl] at h
    simp only [Option.map_some, Option.some.injEq] at h
    subst h
    exact ⟨rfl, by simp⟩

section
variable {β : Type} {n : Nat} (hn : 5000 ≤ n) {f : Fabric} (hs : Small f)
include hn hs
theorem ref27_Egress (hr : Ranged f) (leaf : Int) (up : List Bool) (fw : List Forwarder) (sh : List Sharing) (bd src mark : Int) (hw : fw.length ≤ 4000) (hm : mini sh) (k : c_ref27_Egress.sh.El → Option β) :
    (c_ref27_Egress.S n (f, leaf, up, fw, sh, bd, src, mark)).bind k = k (posOf (QS f leaf up fw sh bd src mark) 0 f.Segments.zipIdx) := by
  have hz := hs.segments
  have : c_ref27_Egress.S n (f, leaf, up, fw, sh, bd, src, mark) = some (posOf (QS f leaf up fw sh bd src mark) 0 f.Segments.zipIdx) := by
    show (g_ref27_Egress f leaf up fw sh bd src mark).run n = _
    simp only [g_ref27_Egress, G.run, tsOk, lenO_bind, idxO_bind, appO_bind, ref_Multihomed hn hs hr, ref_Label hn hs hr, if_true]
    refine Eq.trans (bind_pos (QS f leaf up fw sh bd src mark) f.Segments.zipIdx (by rw [List.length_zipIdx]; omega) (fun j y hj acc ha => ?_) (fun acc ha => ?_)) ?_
    · obtain ⟨hx, hy⟩ := zip_at f.Segments j y hj
      have hjl := (List.getElem?_eq_some_iff.1 hx).1
      have hlt : (j : Int) < (f.Segments.length : Int) := by omega
      have hroom : roomy (acc.length + [(j : Int)].length) 8 = true := by simp [roomy]; omega
      have e1 := fun {γ : Type} (k : c_ref27_part.sh.El → Option γ) => ref27_part hn hs hr leaf up bd j y.1 hx k
      have e2 := fun {γ : Type} (k : c_ref27_Forwards.sh.El → Option γ) => ref27_Forwards hn hs hr leaf fw bd (j : Int) hw k
      have e3 := fun {γ : Type} (k : c_ref27_Member.sh.El → Option γ) => ref27_Member hn hs hr sh (j : Int) src hm k
      simp only [hlt, decide_true, if_true, e1, e2, e3, wrap_nat (show j < 9223372036854775807 by omega), QS, hy, hroom, and_self]
      generalize partS f leaf up bd j y.1 = b1
      generalize ForwardsS f leaf fw bd (j : Int) = b2
      generalize MultiS f (j : Int) = b3
      generalize (f.Horizon == 1) = b4
      generalize (LabelS f (j : Int) == mark) = b5
      generalize (f.Horizon == 0) = b6
      generalize MemberS f sh (j : Int) src = b7
      cases b1 <;> cases b2 <;> cases b3 <;> cases b4 <;> cases b5 <;> cases b6 <;> cases b7 <;> first | rfl | (simp; done) | (simp; rfl)
    · simp only [List.length_zipIdx]; simp; rfl
    · simp [fzRow]; rfl
  rw [this]; rfl

theorem look_b (leaf : Int) (k : c_horizon_look.sh.El → Option β) : (c_horizon_look.S n (f, leaf)).bind k = k (Go.L.horizon_view.mk f leaf (LoopbackS f leaf) [] [] [], okF f && (decide (leaf ≥ 0) && decide (leaf < f.Leaves))) := by
  have : c_horizon_look.S n (f, leaf) = some (Go.L.horizon_view.mk f leaf (LoopbackS f leaf) [] [] [], okF f && (decide (leaf ≥ 0) && decide (leaf < f.Leaves))) := by
    show (g_horizon_look f leaf).run n = _
    simp only [g_horizon_look, G.run, tsOk, tenant_Check n hn f hs, tenant_Loopback hn hs, if_true]
    show (if okF f = true then _ else _) = _
    cases okF f with
    | false => rfl
    | true => cases decide (leaf ≥ 0) <;> rfl
  rw [this]; rfl
omit hn hs in
theorem segments_b (v : horizon_view) (bd : Int) (k : c_horizon_view_segments.sh.El → Option β) : (c_horizon_view_segments.S n (v, bd)).bind k = k (v.Fabric.Leaves, v.Fabric.Spines, v.Fabric.Links, v.Fabric.Tenants, v.Fabric.BDs, v.Fabric.Segments, v.Fabric.Hosts, v.Fabric.Leaks, v.Fabric.Elect, v.Fabric.Horizon, v.Fabric.Router, v.Fabric.Suppress, v.Fabric.Trees, v.Fabric.Timers.Detect, v.Fabric.Timers.Hold, v.Fabric.Timers.Age, v.Fabric.Timers.Restart, v.Fabric.Timers.Moves, v.Fabric.Timers.Window, v.leaf, v.own, v.up, v.forwarders, v.sharing, bd) := rfl

def PS (f : Fabric) (leaf : Int) (up : List Bool) (fw : List Forwarder) (sh : List Sharing) (bd src mark : Int) (y : Segment × Nat) : Bool :=
  upS up y.2 && ((y.1.Leaves.any fun z => leaf == z) && ((y.1.BDs.any fun z => bd == z) && (if f.Horizon = 0 then localS (Go.L.horizon_view.mk f leaf (LoopbackS f leaf) up fw sh) bd src (y.2 : Int) y.1 else labelS (Go.L.horizon_view.mk f leaf (LoopbackS f leaf) up fw sh) bd mark (y.2 : Int) y.1)))
def EgressS (f : Fabric) (leaf : Int) (up : List Bool) (fw : List Forwarder) (sh : List Sharing) (bd src mark : Int) : List Int :=
  if (okF f && (decide (leaf ≥ 0) && decide (leaf < f.Leaves))) = true then posOf (PS f leaf up fw sh bd src mark) 0 f.Segments.zipIdx else []

theorem horizon_Egress (leaf : Int) (up : List Bool) (fw : List Forwarder) (sh : List Sharing) (bd src mark : Int) (hw : fw.length ≤ 4000) (hm : mini sh) (k : c_horizon_Egress.sh.El → Option β) :
    (c_horizon_Egress.S n (f, leaf, up, fw, sh, bd, src, mark)).bind k = k (EgressS f leaf up fw sh bd src mark) := by
  have hz := hs.segments
  have : c_horizon_Egress.S n (f, leaf, up, fw, sh, bd, src, mark) = some (EgressS f leaf up fw sh bd src mark) := by
    show (g_horizon_Egress f leaf up fw sh bd src mark).run n = _
    simp only [g_horizon_Egress, G.run, tsOk, look_b hn hs, segments_b, lenO_bind, idxO_bind, appO_bind, if_true, EgressS]
    by_cases h : (okF f && (decide (leaf ≥ 0) && decide (leaf < f.Leaves))) = true
    · have hok : okF f = true := by simp only [Bool.and_eq_true] at h; exact h.1
      have hh := (ok_sizes hok).horizon
      simp only [h, Bool.not_true, Bool.false_eq_true, if_false, if_true]
      by_cases h0 : f.Horizon = 0
      · rw [if_pos h0]
        refine Eq.trans (bind_pos (PS f leaf up fw sh bd src mark) f.Segments.zipIdx (by rw [List.length_zipIdx]; omega) (fun j y hj acc ha => ?_) (fun acc ha => ?_)) ?_
        · obtain ⟨hx, hy⟩ := zip_at f.Segments j y hj
          have hjl := (List.getElem?_eq_some_iff.1 hx).1
          have hlt : (j : Int) < (f.Segments.length : Int) := by omega
          have hsg := hs.seg y.1 (List.mem_of_getElem? hx)
          have hroom : roomy (acc.length + [(j : Int)].length) 8 = true := by simp [roomy]; omega
          have e1 := fun {γ : Type} (k : c_horizon_leaving_local.sh.El → Option γ) => leaving_local (n := n) (Go.L.horizon_leaving.mk (Go.L.horizon_view.mk f leaf (LoopbackS f leaf) up fw sh) bd src mark) j y.1 hx hsg.1 hw hm hn k
          simp only [hlt, decide_true, if_true, at?_nat, hx, Option.bind_some, contains_int n y.1.Leaves leaf (by omega) hsg.1, contains_int n y.1.BDs bd (by omega) hsg.2, e1, wrap_nat (show j < 9223372036854775807 by omega), PS, hy, hroom, and_self, h0]
          by_cases hj : j < up.length
          · have hlu : (j : Int) < (up.length : Int) := by omega
            simp only [hlu, decide_true, if_true, upS, List.getElem?_eq_getElem hj, Option.bind_some, Option.getD_some]
            generalize up[j] = b1
            generalize (y.1.Leaves.any fun z => leaf == z) = b2
            generalize (y.1.BDs.any fun z => bd == z) = b3
            generalize localS (Go.L.horizon_view.mk f leaf (LoopbackS f leaf) up fw sh) bd src (j : Int) y.1 = b4
            cases b1 <;> cases b2 <;> cases b3 <;> cases b4 <;> first | rfl | (simp; done) | (simp; rfl)
          · have hlu : ¬ (j : Int) < (up.length : Int) := by omega
            simp only [hlu, decide_false, Bool.false_eq_true, if_false, upS, List.getElem?_eq_none (Nat.le_of_not_lt hj), Option.getD_none, Bool.false_and, List.append_nil]; rfl
        · simp only [List.length_zipIdx]; simp; rfl
        · simp [fzRow]; rfl
      · have h1 : f.Horizon = 1 := by omega
        rw [if_neg h0, if_pos h1]
        refine Eq.trans (bind_pos (PS f leaf up fw sh bd src mark) f.Segments.zipIdx (by rw [List.length_zipIdx]; omega) (fun j y hj acc ha => ?_) (fun acc ha => ?_)) ?_
        · obtain ⟨hx, hy⟩ := zip_at f.Segments j y hj
          have hjl := (List.getElem?_eq_some_iff.1 hx).1
          have hlt : (j : Int) < (f.Segments.length : Int) := by omega
          have hsg := hs.seg y.1 (List.mem_of_getElem? hx)
          have hroom : roomy (acc.length + [(j : Int)].length) 8 = true := by simp [roomy]; omega
          have e1 := fun {γ : Type} (k : c_horizon_leaving_label.sh.El → Option γ) => leaving_label (n := n) (Go.L.horizon_leaving.mk (Go.L.horizon_view.mk f leaf (LoopbackS f leaf) up fw sh) bd src mark) j y.1 hx (by omega) hsg.1 hw hn k
          simp only [hlt, decide_true, if_true, at?_nat, hx, Option.bind_some, contains_int n y.1.Leaves leaf (by omega) hsg.1, contains_int n y.1.BDs bd (by omega) hsg.2, e1, wrap_nat (show j < 9223372036854775807 by omega), PS, hy, hroom, and_self, h0, if_false]
          by_cases hj : j < up.length
          · have hlu : (j : Int) < (up.length : Int) := by omega
            simp only [hlu, decide_true, if_true, upS, List.getElem?_eq_getElem hj, Option.bind_some, Option.getD_some]
            generalize up[j] = b1
            generalize (y.1.Leaves.any fun z => leaf == z) = b2
            generalize (y.1.BDs.any fun z => bd == z) = b3
            generalize labelS (Go.L.horizon_view.mk f leaf (LoopbackS f leaf) up fw sh) bd mark (j : Int) y.1 = b4
            cases b1 <;> cases b2 <;> cases b3 <;> cases b4 <;> first | rfl | (simp; done) | (simp; rfl)
          · have hlu : ¬ (j : Int) < (up.length : Int) := by omega
            simp only [hlu, decide_false, Bool.false_eq_true, if_false, upS, List.getElem?_eq_none (Nat.le_of_not_lt hj), Option.getD_none, Bool.false_and, List.append_nil]; rfl
        · simp only [List.length_zipIdx]; simp; rfl
        · simp [fzRow]; rfl
    · simp only [Bool.not_eq_true] at h
      simp only [h, Bool.not_false, if_true, Bool.false_eq_true, if_false]; rfl
  rw [this]; rfl
end
end Go.L
namespace Go.L
open Go.AM
set_option maxRecDepth 100000
set_option linter.unusedSimpArgs false
set_option linter.unusedVariables false
set_option linter.unusedSectionVars false

theorem posOf_congr {α : Type} (p q : α → Bool) : ∀ (l : List α) (i : Nat), (∀ y ∈ l, p y = q y) → posOf p i l = posOf q i l
  | [], _, _ => rfl
  | x :: xs, i, h => by
    simp only [posOf, h x (by simp), posOf_congr p q xs (i + 1) fun y hy => h y (by simp [hy])]

theorem multi_at {f : Fabric} (h : okF f = true) (j : Nat) (x : Segment) (hx : f.Segments[j]? = some x) : MultiS f (j : Int) = multiP x := by
  have hj := (List.getElem?_eq_some_iff.1 hx).1
  have hw : withinB (j : Int) (f.Segments.length : Int) = true := by
    simp only [withinB, Bool.and_eq_true, decide_eq_true_eq]; omega
  simp only [MultiS, multiS, h, hw, at?_nat, hx, Option.map_some, Option.getD_some, Bool.true_and, multiP]

theorem egress_eq {f : Fabric} (leaf : Int) (up : List Bool) (fw : List Forwarder) (sh : List Sharing) (bd src mark : Int) :
    posOf (QS f leaf up fw sh bd src mark) 0 f.Segments.zipIdx = EgressS f leaf up fw sh bd src mark := by
  unfold EgressS
  by_cases h : (okF f && (decide (leaf ≥ 0) && decide (leaf < f.Leaves))) = true
  · have hok : okF f = true := by simp only [Bool.and_eq_true] at h; exact h.1
    have hh := (ok_sizes hok).horizon
    rw [if_pos h]
    refine posOf_congr _ _ _ _ fun y hy => ?_
    obtain ⟨j, hj⟩ := List.getElem?_of_mem hy
    obtain ⟨hx, e⟩ := zip_at f.Segments j y hj
    simp only [QS, PS, partS, ForwardsS, MemberS, LabelS, ESIS, e, names_ok hok leaf j y.1 hx, multi_at hok j y.1 hx, any_comm y.1.BDs bd, localS, labelS]
    generalize (y.1.Leaves.any fun z => leaf == z) = b2
    generalize (y.1.BDs.any fun z => bd == z) = b3
    generalize upS up j = b1
    cases multiP y.1 with
    | false =>
      simp only [Bool.false_eq_true, if_false, Bool.not_false, Bool.true_or, Bool.false_and, Bool.true_and, Bool.and_true, ite_self]
      cases b1 <;> cases b2 <;> cases b3 <;> rfl
    | true =>
      simp only [if_true, Bool.not_true, Bool.false_or, Bool.true_and]
      generalize fwdS (LoopbackS f leaf) (esiS (j : Int)) bd fw = b4
      generalize memS (esiS (j : Int)) sh src = b5
      generalize ((j : Int) + 1 == mark) = b6
      by_cases h0 : f.Horizon = 0
      · have e1 : (f.Horizon == 1) = false := by rw [h0]; rfl
        have e0 : (f.Horizon == 0) = true := by rw [h0]; rfl
        rw [e1, e0, if_pos h0]
        cases b1 <;> cases b2 <;> cases b3 <;> cases b4 <;> cases b5 <;> rfl
      · have h1 : f.Horizon = 1 := by omega
        have e1 : (f.Horizon == 1) = true := by rw [h1]; rfl
        have e0 : (f.Horizon == 0) = false := by rw [h1]; rfl
        rw [e1, e0, if_neg h0]
        cases b1 <;> cases b2 <;> cases b3 <;> cases b4 <;> cases b6 <;> rfl
  · rw [if_neg h]
    refine posOf_none _ _ _ fun y hy => ?_
    have : namesS f leaf (y.2 : Int) = false := by
      refine names_no leaf _ ?_
      cases ho : okF f with
      | false => exact Or.inl rfl
      | true =>
        right
        refine ⟨rfl, ?_⟩
        simp only [ho, Bool.true_and, Bool.not_eq_true] at h
        exact h
    simp only [QS, partS, this, Bool.false_and]

section
variable {β : Type} {n : Nat} (hn : 5000 ≤ n) {f : Fabric} (hs : Small f)
include hn hs
theorem exists_b (s : Int) (k : c_horizon_exists.sh.El → Option β) : (c_horizon_exists.S n (f, s)).bind k = k (okF f && withinB s (f.Segments.length : Int)) := by
  have : c_horizon_exists.S n (f, s) = some (okF f && withinB s (f.Segments.length : Int)) := by
    show (g_horizon_exists f s).run n = _
    simp only [g_horizon_exists, G.run, tsOk, tenant_Check n hn f hs, lenO_bind, if_true]
    show (if okF f = true then if decide (s ≥ 0) = true then some (decide (s < (f.Segments.length : Int))) else some false else some false) = some (okF f && (decide (0 ≤ s) && decide (s < (f.Segments.length : Int))))
    cases okF f with
    | false => rfl
    | true =>
      simp only [if_true, ge_iff_le, Bool.true_and]
      cases decide (0 ≤ s) <;> rfl
  rw [this]; rfl
theorem horizon_Member (sh : List Sharing) (s ip : Int) (hm : mini sh) (k : c_horizon_Member.sh.El → Option β) : (c_horizon_Member.S n (f, sh, s, ip)).bind k = k (MemberS f sh s ip) := by
  have : c_horizon_Member.S n (f, sh, s, ip) = some (MemberS f sh s ip) := by
    show (g_horizon_Member f sh s ip).run n = _
    simp only [g_horizon_Member, G.run, tsOk, exists_b hn hs, if_true]
    by_cases h : (okF f && withinB s (f.Segments.length : Int)) = true
    · have h' := h
      simp only [Bool.and_eq_true] at h'
      obtain ⟨j, x, rfl, hj, hx, ha⟩ := at?_within _ _ h'.2
      simp only [h, Bool.not_true, Bool.false_eq_true, if_false]
      refine (view_member (n := n) (Go.L.horizon_view.mk f 0 0 [] [] sh) ip j x hx hm hn _).trans ?_
      simp only [MemberS, ESIS, multi_at h'.1 j x hx]
      cases multiP x with
      | false => rfl
      | true => simp only [Bool.true_and, if_true] <;> rfl
    · have hm0 : MemberS f sh s ip = false := by
        simp only [Bool.not_eq_true, Bool.and_eq_false_iff] at h
        rcases h with h | h <;> simp only [MemberS, MultiS, multiS, h, Bool.false_and, Bool.and_false]
      simp only [Bool.not_eq_true] at h
      rw [hm0]
      simp only [h, Bool.not_false, if_true] <;> rfl
  rw [this]; rfl
end

theorem any_long {α : Type} {n : Nat} (l : List α) (p : α → Bool) {f : Int → Option (Int ⊕ (Unit ⊕ Unit))} {k : Unit ⊕ Unit → Option Bool} {Q : Prop} (hn : l.length < n)
    (hf : ∀ (j : Nat) x, j < l.length → l[j]? = some x → f (j : Int) = some (if p x = true then .inr (.inl ()) else .inl ((j + 1 : Nat) : Int))) (he : f (l.length : Int) = some (.inr (.inr ())))
    (h1 : k (.inl ()) = some true) (h2 : k (.inr ()) = some false) (hq : l.any p = false → Q) : (iterO f n 0).bind k = some true ∨ ((iterO f n 0).bind k = some false ∧ Q) := by
  rw [bind_any l l.length p hn (Nat.le_refl _) hf he, List.take_length]
  cases ha : l.any p with
  | true => left; rw [if_pos rfl]; exact h1
  | false => right; rw [if_neg (by decide)]; exact ⟨h2, hq ha⟩

theorem long_small (n : Nat) (up : List Bool) (fw : List Forwarder) (sh : List Sharing) (hn : 5000 ≤ n) : ∃ b, c_law27_long.S n (up, fw, sh) = some b ∧ (b = false → fw.length ≤ 4000 ∧ mini sh) := by
  have key : ∀ o : Option Bool, (o = some true ∨ (o = some false ∧ fw.length ≤ 4000 ∧ mini sh)) → ∃ b, o = some b ∧ (b = false → fw.length ≤ 4000 ∧ mini sh) := by
    intro o h
    rcases h with h | ⟨h, hs⟩
    · exact ⟨true, h, by intro h; cases h⟩
    · exact ⟨false, h, fun _ => hs⟩
  apply key
  show (g_law27_long up fw sh).run n = some true ∨ ((g_law27_long up fw sh).run n = some false ∧ _)
  simp only [g_law27_long, G.run, tsOk, lenO_bind, idxO_bind, gt_iff_lt, if_true]
  by_cases h1 : decide ((100 : Int) < (up.length : Int)) = true
  · left; rw [if_pos h1]; rfl
  by_cases h2 : decide ((40 : Int) < (fw.length : Int)) = true
  · left; rw [if_neg h1, if_pos h2]; rfl
  by_cases h3 : decide ((40 : Int) < (sh.length : Int)) = true
  · left; rw [if_neg h1, if_neg h2, if_pos h3]; rfl
  rw [if_neg h1, if_neg h2, if_neg h3]
  simp only [decide_eq_true_eq] at h1 h2 h3
  refine any_long sh (fun y => decide ((20 : Int) < (y.Members.length : Int))) (by omega) (fun j y hj hy => ?_) ?_ rfl rfl (fun hany => ?_)
  · have hlt : (j : Int) < (sh.length : Int) := by omega
    simp only [hlt, decide_true, if_true, at?_nat, hy, Option.bind_some, wrap_nat (show j < 9223372036854775807 by omega)]
    cases decide ((20 : Int) < (y.Members.length : Int)) <;> rfl
  · simp only [Int.lt_irrefl, decide_false, Bool.false_eq_true, if_false] <;> rfl
  · refine ⟨by omega, by omega, fun y hy => ?_⟩
    rw [List.any_eq_false] at hany
    have := hany y hy
    simp only [decide_eq_true_eq] at this
    omega

theorem awake27_b {β : Type} {n : Nat} (k : c_law27_awake.sh.El → Option β) : (c_law27_awake.S n ()).bind k = k true := rfl

theorem egress_run (f : Fabric) (hr : Ranged f) (leaf : Int) (up : List Bool) (fw : List Forwarder) (sh : List Sharing) (bd src mark seg : Int) : (g_law27_HorizonEgress f leaf up fw sh bd src mark seg).run 6000 = some true := by
  obtain ⟨b, hv, hs⟩ := vast_small 6000 f (by decide)
  have vast_b : ∀ {β : Type} (k : c_kit_Vast.sh.El → Option β), (c_kit_Vast.S 6000 f).bind k = k b := fun k => by rw [hv]; rfl
  obtain ⟨c, hw, ht⟩ := long_small 6000 up fw sh (by decide)
  have long_b : ∀ {β : Type} (k : c_law27_long.sh.El → Option β), (c_law27_long.S 6000 (up, fw, sh)).bind k = k c := fun k => by rw [hw]; rfl
  simp only [g_law27_HorizonEgress, G.run, tsOk, vast_b, long_b, awake27_b]
  cases b with
  | true =>
    simp only [if_true]; rfl
  | false =>
    have hs := hs rfl
    have hn : 5000 ≤ 6000 := by decide
    cases c with
    | true =>
      simp only [Bool.false_eq_true, if_false, if_true]; rfl
    | false =>
      obtain ⟨h1, h2⟩ := ht rfl
      have hz := hs.segments
      have hlen : (EgressS f leaf up fw sh bd src mark).length ≤ 4000 := by
        unfold EgressS
        split
        · have := posOf_len (PS f leaf up fw sh bd src mark) f.Segments.zipIdx 0
          rw [List.length_zipIdx] at this
          omega
        · simp
      have e1 := fun {γ : Type} (k : c_horizon_Egress.sh.El → Option γ) => horizon_Egress hn hs leaf up fw sh bd src mark h1 h2 k
      have e2 := fun {γ : Type} (k : c_ref27_Egress.sh.El → Option γ) => ref27_Egress hn hs hr leaf up fw sh bd src mark h1 h2 k
      have e3 := fun {γ : Type} (k : c_horizon_Member.sh.El → Option γ) => horizon_Member hn hs sh seg src h2 k
      have e4 := fun {γ : Type} (k : c_ref27_Member.sh.El → Option γ) => ref27_Member hn hs hr sh seg src h2 k
      have e5 := fun {γ : Type} (k : c_kit_SameInts.sh.El → Option γ) => same_ints 6000 (EgressS f leaf up fw sh bd src mark) (by omega) hlen k
      simp only [Bool.false_eq_true, if_false, e1, e2, egress_eq, e3, e4, e5, beq_self_eq_true, if_true]
      rfl
end Go.L
namespace Go.L
open Go.AM
set_option linter.unusedVariables false
theorem wf_u32 {x : Int} (h : (Go.Lit.int .u32 x).wf = true) : 0 ≤ x ∧ x ≤ 4294967295 := by
  simp [Go.Lit.wf, Go.IntKind.min, Go.IntKind.max, Go.IntKind.signed, Go.IntKind.bits] at h
  omega
theorem ranged_ok {f : Fabric} (h : okFabric f) : Ranged f :=
  ⟨fun b hb => wf_u32 (h.2.2.2.2.1 b hb).2.2.2.1.1, fun x hx => wf_u32 (h.2.2.2.2.2.2.1 x hx).2.1⟩
theorem law_horizonEgress (f : Fabric) (leaf : Int) (up : List Bool) (fw : List Forwarder) (sh : List Sharing) (bd src mark seg : Int) (h : okFabric f) (h1 : (Go.Lit.int .i64 leaf).wf = true) (h2 : ∀ a ∈ up, True) (h3 : ∀ a ∈ fw, okForwarder a) (h4 : ∀ a ∈ sh, okSharing a)
    (h5 : (Go.Lit.int .i64 bd).wf = true) (h6 : (Go.Lit.int .u32 src).wf = true) (h7 : (Go.Lit.int .u32 mark).wf = true) (h8 : (Go.Lit.int .i64 seg).wf = true) :
    FnVal prog 4 [.agg (eFabric f), .sc (.int .i64 leaf), .lst (up.map eB), .lst (fw.map eForwarder), .lst (sh.map eSharing), .sc (.int .i64 bd), .sc (.int .u32 src), .sc (.int .u32 mark), .sc (.int .i64 seg)] (.ret (.sc (.bool true))) :=
  c_law27_HorizonEgress.ok 6000 (f, leaf, up, fw, sh, bd, src, mark, seg) true (egress_run f (ranged_ok h) leaf up fw sh bd src mark seg)
end Go.L
namespace Go.Proofs.YtomlhceogkfnlaaGreat.horizonEgress
open Go.ChangeShapes Go.WideShapes Go.ChangeAt Go.RowKit Go.AM Go.L
set_option linter.unusedVariables false

theorem own : ownKnob Tryz.prog.godebug = none := by kernel_rfl
theorem slices : ((List.range Tryz.prog.types.size).all fun t => match Tryz.prog.underlying t with | some (.slice e) => decide (0 < Tryz.prog.cellsOf e) | _ => true) = true := by kernel_rfl
theorem maps : mapsRowed Tryz.prog = true := by kernel_rfl
theorem inTable : (Tryz.f4.params.toList.all fun t => Nat.ble (t + 1) Tryz.prog.types.size) = true := by kernel_rfl
set_option maxRecDepth 100000 in
theorem contract (H : Type) (enc : TypeId × Value → H) (W : World) (base : Nat) (args : Array Value) (ds gs : List (DataW H)) (before : List MemPlace)
    (hval : ∀ (j : Nat) t v, Tryz.f4.params[j]? = some t → args[j]? = some v → Value.okWide Tryz.prog W .any base t v)
    (hW : DataW.Whole enc Tryz.prog Tryz.f4.params.toList Rows.horizonEgressSpec.vars false W args.toList ds gs before) :
    Calls Tryz.prog 4 args W fun e W' => ∃ v, e = .returned v ∧ Rows.horizonEgressSpec.post enc Tryz.prog Tryz.f4 false true false false W args v W' := by
  have hW' := hW
  have hlt := hW.lt
  obtain ⟨p, q, hA0, hV, rfl, hfz, hnd⟩ := hW
  have hA : DataW.TrodAll enc Tryz.prog W 0 (fun _ => true) true Tryz.f4.params.toList args.toList ds p := hA0
  clear hA0
  have hAll := hA
  rw [Tryz.params4] at hA hval
  obtain ⟨v0, r0, d0, e0, p0, q0, hv0, hd0, hp0, t0, hA⟩ := trodAll_cons hA
  obtain ⟨v1, r1, d1, e1, p1, q1, hv1, hd1, hp1, t1, hA⟩ := trodAll_cons hA
  obtain ⟨v2, r2, d2, e2, p2, q2, hv2, hd2, hp2, t2, hA⟩ := trodAll_cons hA
  obtain ⟨v3, r3, d3, e3, p3, q3, hv3, hd3, hp3, t3, hA⟩ := trodAll_cons hA
  obtain ⟨v4, r4, d4, e4, p4, q4, hv4, hd4, hp4, t4, hA⟩ := trodAll_cons hA
  obtain ⟨v5, r5, d5, e5, p5, q5, hv5, hd5, hp5, t5, hA⟩ := trodAll_cons hA
  obtain ⟨v6, r6, d6, e6, p6, q6, hv6, hd6, hp6, t6, hA⟩ := trodAll_cons hA
  obtain ⟨v7, r7, d7, e7, p7, q7, hv7, hd7, hp7, t7, hA⟩ := trodAll_cons hA
  obtain ⟨v8, r8, d8, e8, p8, q8, hv8, hd8, hp8, t8, hA⟩ := trodAll_cons hA
  obtain ⟨hr, hd, hq⟩ := trodAll_nil hA
  obtain rfl : args = #[v0, v1, v2, v3, v4, v5, v6, v7, v8] := by apply Array.ext'; simp only [hv0, hv1, hv2, hv3, hv4, hv5, hv6, hv7, hv8, hr]
  obtain rfl : ds = [d0, d1, d2, d3, d4, d5, d6, d7, d8] := by simp only [hd0, hd1, hd2, hd3, hd4, hd5, hd6, hd7, hd8, hd]
  obtain ⟨rfl, rfl⟩ := trodVars_none hV
  simp only [List.append_nil] at hW' hlt
  obtain ⟨a0, ok0, ra0⟩ := Rdb.agg rdFabric Tryz.underlying31 (hval 0 _ _ rfl rfl) t0
  obtain ⟨a1, ok1, ra1⟩ := Rdb.cell (c := (cI .i64)) (Rdb.int Tryz.underlying3 (by kernel_rfl)) (by kernel_rfl) (hval 1 _ _ rfl rfl) t1
  obtain ⟨a2, ok2, ra2⟩ := Rdb.cell (c := (cL eB)) (Rdb.slice Tryz.underlying52 (by kernel_rfl) (by kernel_rfl) (Rdb.bool Tryz.underlying4 (by kernel_rfl))) (by kernel_rfl) (hval 2 _ _ rfl rfl) t2
  obtain ⟨a3, ok3, ra3⟩ := Rdb.cell (c := (cL eForwarder)) (Rdb.slice Tryz.underlying53 (by kernel_rfl) (by kernel_rfl) rdForwarder) (by kernel_rfl) (hval 3 _ _ rfl rfl) t3
  obtain ⟨a4, ok4, ra4⟩ := Rdb.cell (c := (cL eSharing)) (Rdb.slice Tryz.underlying54 (by kernel_rfl) (by kernel_rfl) rdSharing) (by kernel_rfl) (hval 4 _ _ rfl rfl) t4
  obtain ⟨a5, ok5, ra5⟩ := Rdb.cell (c := (cI .i64)) (Rdb.int Tryz.underlying3 (by kernel_rfl)) (by kernel_rfl) (hval 5 _ _ rfl rfl) t5
  obtain ⟨a6, ok6, ra6⟩ := Rdb.cell (c := (cI .u32)) (Rdb.int Tryz.underlying37 (by kernel_rfl)) (by kernel_rfl) (hval 6 _ _ rfl rfl) t6
  obtain ⟨a7, ok7, ra7⟩ := Rdb.cell (c := (cI .u32)) (Rdb.int Tryz.underlying32 (by kernel_rfl)) (by kernel_rfl) (hval 7 _ _ rfl rfl) t7
  obtain ⟨a8, ok8, ra8⟩ := Rdb.cell (c := (cI .i64)) (Rdb.int Tryz.underlying3 (by kernel_rfl)) (by kernel_rfl) (hval 8 _ _ rfl rfl) t8
  refine (law_top (law_horizonEgress a0 a1 a2 a3 a4 a5 a6 a7 a8 ok0 ok1 ok2 ok3 ok4 ok5 ok6 ok7 ok8) W (fun _ _ h => by cases h) _ ⟨_, _, rfl, ra0, ⟨_, _, rfl, ra1, ⟨_, _, rfl, ra2, ⟨_, _, rfl, ra3, ⟨_, _, rfl, ra4, ⟨_, _, rfl, ra5, ⟨_, _, rfl, ra6, ⟨_, _, rfl, ra7, ⟨_, _, rfl, ra8, rfl⟩⟩⟩⟩⟩⟩⟩⟩⟩).mono fun e W' ⟨he, hg⟩ => ?_
  subst he
  exact ⟨_, rfl, post_of_below (pa := p) (pv := []) hW' (fun _ _ _ => (trodAll_cons_mk (shut_bool Tryz.underlying4 _) trodAll_mk0))
    (fun sp hsp => trodAll_kept laid maps (slices_full_of _ slices) hg (fun t ht => Nat.le_of_ble_eq_true (List.all_eq_true.1 inTable t ht)) hAll hlt hsp) (fun _ _ => rfl) (by simp)
    hg (ok_one (by kernel_rfl) rfl (okWide_bool_mk Tryz.underlying4 _))⟩

set_option maxRecDepth 100000 in
theorem lifted (os : Os) (started : os.Started) (H : Type) (enc : TypeId × Value → H) :
    ReturnsInHanded {} Tryz.checked os 4 .any (Rows.horizonEgressSpec.pre6 enc Tryz.prog Tryz.f4 Rows.horizonEgressRow.domain false) (Rows.horizonEgressSpec.post enc Tryz.prog Tryz.f4 false true false false) := by
  refine returnsInHanded_of_change (C := Tryz.checked) (s := Rows.horizonEgressSpec) own started (by kernel_rfl) Tryz.func4
    (ChangeSpec.witness6 (enc := enc) (C := Tryz.checked) (s := Rows.horizonEgressSpec) false ⟨#[], #[.agg #[.int .i64 0, .int .i64 0, .slice none 0 0, .slice none 0 0, .slice none 0 0, .slice none 0 0, .slice none 0 0, .slice none 0 0, .int .i64 0, .int .i64 0, .int .i64 0, .bool false, .bool false, .int .i64 0, .int .i64 0, .int .i64 0, .int .i64 0, .int .i64 0, .int .i64 0], .int .i64 0, .slice none 0 0, .slice none 0 0, .slice none 0 0, .int .i64 0, .int .u32 0, .int .u32 0, .int .i64 0], []⟩ 8 (by kernel_rfl) (by kernel_rfl) (by kernel_rfl) (by kernel_rfl) (by kernel_rfl)) ?_
  intro W base args ds gs before hval hW _ _
  exact contract H enc W base args ds gs before hval hW

theorem proved : Rows.HorizonEgressSaid :=
  OpenClaim.holds_of_wide 4 Tryz.f4 rfl rfl rfl rfl rfl rfl rfl ⟨rfl, rfl, rfl, rfl, rfl⟩ rfl rfl rfl rfl rfl (by kernel_rfl) Tryz.func4 (by kernel_rfl)
    (of_decide_eq_true (by kernel_rfl)) (by unfold Func.isWrapper; first | (rw [if_pos (by decide +kernel)]; kernel_rfl) | (rw [if_neg (by decide +kernel)]; exact ⟨rfl, rfl⟩))
    (fun os started H enc _ => lifted os started H enc)
end Go.Proofs.YtomlhceogkfnlaaGreat.horizonEgress
