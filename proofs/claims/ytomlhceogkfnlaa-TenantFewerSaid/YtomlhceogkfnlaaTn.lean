/- Put together out of parts. No conditions. -/
import Derived.Test.YtomlhceogkfnlaaWf
import Derived.Test.YtomlhceogkfnlaaLb
import Derived.Test.YtomlhceogkfnlaaAmPl
namespace Go.L
open Go.AM
set_option maxRecDepth 100000
set_option linter.unusedSimpArgs false
set_option linter.unusedSectionVars false
set_option linter.unusedVariables false

/-! ### What a valid fabric is -/

theorem firstErr_ne {α : Type} {E : Nat → α → Int} : ∀ (l : List α) (i : Nat) (e : Int) (j : Nat), firstErr E i l = some (e, j) → e ≠ 0
  | [], _, _, _, h => by simp [firstErr] at h
  | x :: xs, i, e, j, h => by
    simp only [firstErr] at h
    split at h
    · rename_i hne
      simp only [Option.some.injEq, Prod.mk.injEq] at h
      obtain ⟨rfl, _⟩ := h
      exact hne
    · exact firstErr_ne xs (i + 1) e j h

theorem outcome_ne {α : Type} {E : Nat → α → Int} {p : ByteArray} {m : Int} {b : Bool} {l : List α} {i : Nat} {t : Int × ByteArray × Int} (h : outcome p m b (firstErr E i l) = .inr t) : t.1 ≠ 0 := by
  unfold outcome at h
  split at h
  · simp only [Sum.inr.injEq] at h; subst h; simp
  · split at h
    · cases h
    · rename_i e j he
      simp only [Sum.inr.injEq] at h
      subst h
      exact firstErr_ne _ _ _ _ he

theorem thenR_ok {a : Res} {b : Int × ByteArray × Int} (ha : ∀ t, a = .inr t → t.1 ≠ 0) (h : (thenR a b).1 = 0) : a = .inl () ∧ b.1 = 0 := by
  cases a with
  | inl u => exact ⟨rfl, h⟩
  | inr t => exact absurd h (ha t rfl)

def okF (f : Fabric) : Bool := (checkS f).1 == 0

structure Parts (f : Fabric) : Prop where
  fabric : oFabric f = .inl ()
  timers : oTimers f = .inl ()
  links : oLinks f = .inl ()
  tenants : oTenants f = .inl ()
  domains : oDomains f = .inl ()
  segments : oSegments f = .inl ()
  hosts : oHosts f = .inl ()
  leaks : oLeaks f = .inl ()

theorem ok_parts {f : Fabric} (h : okF f = true) : Parts f := by
  simp only [okF, beq_iff_eq, checkS] at h
  have n1 : ∀ t, oFabric f = .inr t → t.1 ≠ 0 := by
    intro t ht; unfold oFabric at ht; split at ht
    · simp only [Sum.inr.injEq] at ht; subst ht; simp
    · cases ht
  have n2 : ∀ t, oTimers f = .inr t → t.1 ≠ 0 := by
    intro t ht; unfold oTimers at ht; split at ht
    · simp only [Sum.inr.injEq] at ht; subst ht; simp
    · cases ht
  obtain ⟨p1, h⟩ := thenR_ok n1 h
  obtain ⟨p2, h⟩ := thenR_ok n2 h
  obtain ⟨p3, h⟩ := thenR_ok (fun t ht => outcome_ne ht) h
  obtain ⟨p4, h⟩ := thenR_ok (fun t ht => outcome_ne ht) h
  obtain ⟨p5, h⟩ := thenR_ok (fun t ht => outcome_ne ht) h
  obtain ⟨p6, h⟩ := thenR_ok (fun t ht => outcome_ne ht) h
  obtain ⟨p7, h⟩ := thenR_ok (fun t ht => outcome_ne ht) h
  obtain ⟨p8, h⟩ := thenR_ok (fun t ht => outcome_ne ht) h
  exact ⟨p1, p2, p3, p4, p5, p6, p7, p8⟩

structure Sizes (f : Fabric) : Prop where
  l1 : 1 ≤ f.Leaves
  l2 : f.Leaves ≤ 32
  s1 : 0 ≤ f.Spines
  s2 : f.Spines ≤ 32
  ls : f.Leaves + f.Spines ≤ 32
  tenants : f.Tenants.length ≤ 16
  bds : f.BDs.length ≤ 32
  segments : f.Segments.length ≤ 64
  leaves : ∀ s ∈ f.Segments, ∀ x ∈ s.Leaves, 0 ≤ x ∧ x < f.Leaves
  horizon : 0 ≤ f.Horizon ∧ f.Horizon ≤ 1

theorem ok_sizes {f : Fabric} (h : okF f = true) : Sizes f := by
  have p := ok_parts h
  have hf := p.fabric
  unfold oFabric at hf
  split at hf
  · cases hf
  · rename_i hb
    simp only [badFabric, out, Bool.not_eq_true, Bool.or_eq_false_iff, decide_eq_false_iff_not] at hb
    have hw : Go.IntKind.wrap .i64 (f.Leaves + f.Spines) = f.Leaves + f.Spines := wrap_i64 (by omega) (by omega)
    rw [hw] at hb
    have t := (outcome_ok p.tenants).1
    have d := (outcome_ok p.domains).1
    have s := (outcome_ok p.segments).1
    simp only [decide_eq_false_iff_not] at t d s
    refine ⟨by omega, by omega, by omega, by omega, by omega, by omega, by omega, by omega, fun x hx y hy => ?_, by omega⟩
    have e := (outcome_ok p.segments).2
    rw [firstErr_none] at e
    obtain ⟨i, hi⟩ := List.getElem?_of_mem hx
    have := e i x hi
    simp only [Nat.zero_add] at this
    cases ha : (x.Leaves.any fun n => !(decide (0 ≤ n) && decide (n < f.Leaves))) with
    | true =>
      unfold segE at this
      rw [ha] at this
      simp only [if_true] at this
      repeat' split at this
      all_goals cases this
    | false =>
      rw [List.any_eq_false] at ha
      have := ha y hy
      simpa using this

section
variable {β : Type} {n : Nat} (hn : 5000 ≤ n) {f : Fabric} (hs : Small f)
include hn hs
theorem tenant_valid (k : c_tenant_valid.sh.El → Option β) : (c_tenant_valid.S n f).bind k = k (okF f) := by
  have : c_tenant_valid.S n f = some (okF f) := by
    show (g_tenant_valid f).run n = _
    simp only [g_tenant_valid, G.run, tsOk, tenant_Check n hn f hs, if_true]; rfl
  rw [this]; rfl
end

def withinB (x m : Int) : Bool := decide (0 ≤ x) && decide (x < m)

/-! ### Loopback -/

def lbS (x : Int) : Int := if x < 0 then 0 else if x ≥ 32 then 0 else Go.IntKind.wrap .u32 ((Go.IntKind.wrap .u32 ((184483840 : Int) + (Go.IntKind.wrap .u32 x))) + (1 : Int))
def lbE (x : Int) : Int := if x < 0 then 2 else if x ≥ 32 then 2 else 0

section
variable {β : Type} {n : Nat}
theorem addr_Loopback (x : Int) (k : c_addr_Loopback.sh.El → Option β) : (c_addr_Loopback.S n x).bind k = k (lbS x, lbE x) := by
  have : c_addr_Loopback.S n x = some (lbS x, lbE x) := by
    show (g_addr_Loopback x).run n = _
    simp only [g_addr_Loopback, G.run, tsOk, lbS, lbE, decide_eq_true_eq, if_true]
    split
    · rfl
    · split <;> rfl
  rw [this]; rfl
theorem tenant_loopback (x : Int) (k : c_tenant_loopback.sh.El → Option β) : (c_tenant_loopback.S n x).bind k = k (lbS x) := by
  have : c_tenant_loopback.S n x = some (lbS x) := by
    show (g_tenant_loopback x).run n = _
    simp only [g_tenant_loopback, G.run, tsOk, addr_Loopback, if_true]; rfl
  rw [this]; rfl
end

def LoopbackS (f : Fabric) (x : Int) : Int := if okF f = true then if withinB x (f.Leaves + f.Spines) = true then lbS x else 0 else 0

theorem wrap_ls {f : Fabric} (h : okF f = true) : Go.IntKind.wrap .i64 (f.Leaves + f.Spines) = f.Leaves + f.Spines := by
  have z := ok_sizes h
  exact wrap_i64 (by have := z.l1; have := z.s1; omega) (by have := z.ls; omega)

section
variable {β : Type} {n : Nat} (hn : 5000 ≤ n) {f : Fabric} (hs : Small f)
include hn hs
theorem tenant_Loopback (x : Int) (k : c_tenant_Loopback.sh.El → Option β) : (c_tenant_Loopback.S n (f, x)).bind k = k (LoopbackS f x) := by
  have : c_tenant_Loopback.S n (f, x) = some (LoopbackS f x) := by
    show (g_tenant_Loopback f x).run n = _
    simp only [g_tenant_Loopback, G.run, tsOk, tenant_valid hn hs, tenant_within, tenant_loopback, LoopbackS, if_true]
    by_cases h : okF f = true
    · rw [wrap_ls h]
      simp only [h, Bool.not_true, Bool.false_eq_true, if_false, if_true]
      show (if (!withinB x (f.Leaves + f.Spines)) = true then some 0 else some (lbS x)) = _
      cases withinB x (f.Leaves + f.Spines) <;> rfl
    · simp only [Bool.not_eq_true] at h
      simp only [h, Bool.not_false, if_true, Bool.false_eq_true, if_false]; rfl
  rw [this]; rfl
end

/-! ### Multihomed, ESI, Label -/

def multiS (f : Fabric) (s : Int) : Bool := withinB s (f.Segments.length : Int) && ((at? f.Segments s).map fun x => decide ((1 : Int) < (x.Leaves.length : Int))).getD false
def MultiS (f : Fabric) (s : Int) : Bool := okF f && multiS f s

theorem at?_within {α : Type} (l : List α) (s : Int) (h : withinB s (l.length : Int) = true) : ∃ i : Nat, ∃ x, s = (i : Int) ∧ i < l.length ∧ l[i]? = some x ∧ at? l s = some x := by
  simp only [withinB, Bool.and_eq_true, decide_eq_true_eq] at h
  obtain ⟨i, rfl⟩ : ∃ i : Nat, s = (i : Int) := ⟨s.toNat, by omega⟩
  have hi : i < l.length := by omega
  exact ⟨i, l[i], rfl, hi, List.getElem?_eq_getElem hi, by rw [at?_nat]; exact List.getElem?_eq_getElem hi⟩

section
variable {β : Type} {n : Nat}
theorem tenant_multihomed (f : Fabric) (s : Int) (k : c_tenant_multihomed.sh.El → Option β) : (c_tenant_multihomed.S n (f, s)).bind k = k (multiS f s) := by
  have : c_tenant_multihomed.S n (f, s) = some (multiS f s) := by
    show (g_tenant_multihomed f s).run n = _
    simp only [g_tenant_multihomed, G.run, tsOk, tenant_within, lenO_bind, idxO_bind, multiS, if_true]
    show (if withinB s (f.Segments.length : Int) = true then _ else _) = _
    by_cases h : withinB s (f.Segments.length : Int) = true
    · obtain ⟨i, x, rfl, hi, hx, ha⟩ := at?_within _ _ h
      simp only [h, if_true, ha, Option.bind_some, Option.map_some, Option.getD_some, Bool.true_and, gt_iff_lt]; rfl
    · simp only [Bool.not_eq_true] at h
      simp only [h, Bool.false_eq_true, if_false, Bool.false_and]; rfl
  rw [this]; rfl
variable (hn : 5000 ≤ n) {f : Fabric} (hs : Small f)
include hn hs
end

theorem multi_range {f : Fabric} {s : Int} (h : MultiS f s = true) : 0 ≤ s ∧ s < 64 ∧ s < (f.Segments.length : Int) := by
  simp only [MultiS, multiS, withinB, Bool.and_eq_true, decide_eq_true_eq] at h
  have := (ok_sizes h.1).segments
  omega

def zESI : V10 Int := @Go.AM.V10.mk Int (0 : Int) (0 : Int) (0 : Int) (0 : Int) (0 : Int) (0 : Int) (0 : Int) (0 : Int) (0 : Int) (0 : Int)
def esiS (s : Int) : V10 Int := if s < 0 then zESI else if s ≥ 64 then zESI else @Go.AM.V10.mk Int (3 : Int) (0 : Int) (0 : Int) (0 : Int) (0 : Int) (0 : Int) (0 : Int) (0 : Int) (0 : Int) (Go.IntKind.wrap .u8 (Go.IntKind.wrap .i64 (s + (1 : Int))))
def esiE (s : Int) : Int := if s < 0 then 2 else if s ≥ 64 then 2 else 0
def ESIS (f : Fabric) (s : Int) : V10 Int := if MultiS f s = true then esiS s else zESI
def LabelS (f : Fabric) (s : Int) : Int := if MultiS f s = true then s + 1 else 0

theorem wrap_u32_id {x : Int} (h0 : 0 ≤ x) (h1 : x < 4294967296) : Go.IntKind.wrap .u32 x = x := by rw [wrap_u32]; omega

section
variable {β : Type} {n : Nat}
theorem addr_SegmentESI (s : Int) (k : c_addr_SegmentESI.sh.El → Option β) : (c_addr_SegmentESI.S n s).bind k = k (esiS s, esiE s) := by
  have : c_addr_SegmentESI.S n s = some (esiS s, esiE s) := by
    show (g_addr_SegmentESI s).run n = _
    simp only [g_addr_SegmentESI, G.run, tsOk, esiS, esiE, decide_eq_true_eq, if_true]
    split
    · rfl
    · split <;> rfl
  rw [this]; rfl
variable (hn : 5000 ≤ n) {f : Fabric} (hs : Small f)
include hn hs
theorem tenant_ESI (s : Int) (k : c_tenant_ESI.sh.El → Option β) : (c_tenant_ESI.S n (f, s)).bind k = k (ESIS f s) := by
  have : c_tenant_ESI.S n (f, s) = some (ESIS f s) := by
    show (g_tenant_ESI f s).run n = _
    simp only [g_tenant_ESI, G.run, tsOk, tenant_valid hn hs, tenant_multihomed, addr_SegmentESI, ESIS, MultiS, if_true]
    by_cases h : okF f = true
    · by_cases h2 : multiS f s = true
      · simp only [h, h2, Bool.not_true, Bool.false_eq_true, if_false, if_true, Bool.and_self]; rfl
      · simp only [Bool.not_eq_true] at h2
        simp only [h, h2, Bool.not_true, Bool.not_false, Bool.false_eq_true, if_false, if_true, Bool.and_false]; rfl
    · simp only [Bool.not_eq_true] at h
      simp only [h, Bool.not_false, Bool.false_eq_true, if_false, if_true, Bool.false_and]; rfl
  rw [this]; rfl
theorem tenant_Label (s : Int) (k : c_tenant_Label.sh.El → Option β) : (c_tenant_Label.S n (f, s)).bind k = k (LabelS f s) := by
  have : c_tenant_Label.S n (f, s) = some (LabelS f s) := by
    show (g_tenant_Label f s).run n = _
    simp only [g_tenant_Label, G.run, tsOk, tenant_valid hn hs, tenant_multihomed, LabelS, if_true]
    by_cases h : MultiS f s = true
    · have hr := multi_range h
      have h' := h
      simp only [MultiS, Bool.and_eq_true] at h'
      simp only [h, h'.1, h'.2, Bool.not_true, Bool.false_eq_true, if_false, if_true]
      rw [wrap_u32_id (x := s) (by omega) (by omega), wrap_u32_id (by omega) (by omega)]; rfl
    · simp only [Bool.not_eq_true] at h
      simp only [h, Bool.false_eq_true, if_false]
      simp only [MultiS] at h
      revert h
      cases okF f
      · intro _; rfl
      · cases multiS f s
        · intro _; rfl
        · intro h; cases h
  rw [this]; rfl
end

/-! ### At -/

/-- The places of the elements that are so. -/
def posOf {α : Type} (p : α → Bool) : Nat → List α → List Int
  | _, [] => []
  | i, x :: xs => if p x = true then (i : Int) :: posOf p (i + 1) xs else posOf p (i + 1) xs

theorem posOf_snoc {α : Type} (p : α → Bool) : ∀ (l : List α) (i : Nat) (x : α), posOf p i (l ++ [x]) = posOf p i l ++ if p x = true then [((i + l.length : Nat) : Int)] else []
  | [], i, x => by simp [posOf]
  | y :: ys, i, x => by
    simp only [List.cons_append, posOf, posOf_snoc p ys (i + 1) x, List.length_cons]
    have e : i + 1 + ys.length = i + (ys.length + 1) := by omega
    rw [e]
    split <;> simp

theorem posOf_len {α : Type} (p : α → Bool) : ∀ (l : List α) (i : Nat), (posOf p i l).length ≤ l.length
  | [], _ => by simp [posOf]
  | y :: ys, i => by
    simp only [posOf]
    have := posOf_len p ys (i + 1)
    split <;> simp <;> omega

theorem posOf_none {α : Type} (p : α → Bool) : ∀ (l : List α) (i : Nat), (∀ x ∈ l, p x = false) → posOf p i l = []
  | [], _, _ => rfl
  | y :: ys, i, h => by
    simp only [posOf, h y (by simp), Bool.false_eq_true, if_false]
    exact posOf_none p ys (i + 1) fun x hx => h x (by simp [hx])

theorem bind_pos {α γ : Type} {n : Nat} (p : α → Bool) (l : List α) {f : Int × List Int → Option ((Int × List Int) ⊕ List Int)} {k : List Int → Option γ} (hn : l.length < n)
    (hf : ∀ (j : Nat) x, l[j]? = some x → ∀ acc : List Int, acc.length ≤ j → f ((j : Int), acc) = some (.inl (((j + 1 : Nat) : Int), acc ++ if p x = true then [(j : Int)] else [])))
    (he : ∀ acc : List Int, acc.length ≤ l.length → f ((l.length : Int), acc) = some (.inr acc)) : (iterO f n (0, [])).bind k = k (posOf p 0 l) := by
  have : iterO f n (0, []) = some (posOf p 0 l) := iterO_list (fun j (s : List Int) => ((j : Int), s)) l (fun j => posOf p 0 (l.take j)) (posOf p 0 l)
    (fun j x hx => by
      have hj := (List.getElem?_eq_some_iff.1 hx).1
      rw [hf j x hx _ (by have := posOf_len p (l.take j) 0; simp only [List.length_take] at this; omega)]
      have ht : l.take (j + 1) = l.take j ++ [x] := by rw [List.take_add_one, hx]; rfl
      rw [ht, posOf_snoc]
      have e : (0 + (l.take j).length : Nat) = j := by simp; omega
      rw [e])
    (by rw [List.take_length]; exact he _ (posOf_len p l 0)) n hn
  rw [this]; rfl

def AtS (f : Fabric) (x : Int) : List Int := if okF f = true then posOf (fun s : Segment => s.Leaves.any fun y => x == y) 0 f.Segments else []

theorem any_comm (l : List Int) (x : Int) : (l.any fun y => y == x) = l.any fun y => x == y := by
  congr 1; funext y; exact Bool.beq_comm

theorem at_none {f : Fabric} (h : okF f = true) {x : Int} (hx : withinB x f.Leaves = false) : posOf (fun s : Segment => s.Leaves.any fun y => x == y) 0 f.Segments = [] := by
  refine posOf_none _ _ _ fun s hs' => ?_
  rw [List.any_eq_false]
  intro y hy he
  have := (ok_sizes h).leaves s hs' y hy
  simp only [beq_iff_eq] at he
  subst he
  simp only [withinB, Bool.and_eq_false_iff, decide_eq_false_iff_not] at hx
  omega

section
variable {β : Type} {n : Nat} (hn : 5000 ≤ n) {f : Fabric} (hs : Small f)
include hn hs
theorem tenant_At (x : Int) (k : c_tenant_At.sh.El → Option β) : (c_tenant_At.S n (f, x)).bind k = k (AtS f x) := by
  have : c_tenant_At.S n (f, x) = some (AtS f x) := by
    show (g_tenant_At f x).run n = _
    simp only [g_tenant_At, G.run, tsOk, tenant_valid hn hs, tenant_within, lenO_bind, idxO_bind, appO_bind, AtS, if_true]
    by_cases h : okF f = true
    · simp only [h, Bool.not_true, Bool.false_eq_true, if_false, if_true]
      show (if (!withinB x f.Leaves) = true then _ else _) = _
      cases hw : withinB x f.Leaves with
      | false => rw [at_none h hw]; rfl
      | true =>
        have hz := hs.segments
        simp only [Bool.not_true, Bool.false_eq_true, if_false]
        refine Eq.trans (bind_pos (fun s : Segment => s.Leaves.any fun y => x == y) f.Segments (by omega) (fun j y hj acc ha => ?_) (fun acc ha => ?_)) ?_
        · have hjl := (List.getElem?_eq_some_iff.1 hj).1
          have hlt : (j : Int) < (f.Segments.length : Int) := by omega
          have hl := (hs.seg y (List.mem_of_getElem? hj)).1
          simp only [hlt, decide_true, if_true, at?_nat, hj, Option.bind_some, contains_int n y.Leaves x (by omega) hl, wrap_nat (show j < 9223372036854775807 by omega)]
          cases (y.Leaves.any fun y => x == y) with
          | true =>
            simp only [if_true]
            have : roomy (acc.length + [(j : Int)].length) 8 = true := by simp [roomy]; omega
            rw [if_pos ⟨trivial, this⟩]; rfl
          | false => simp; rfl
        · simp; rfl
        · simp [fzRow]; rfl
    · simp only [Bool.not_eq_true] at h
      simp only [h, Bool.not_false, if_true, Bool.false_eq_true, if_false]; rfl
  rw [this]; rfl
end
end Go.L
namespace Go.L
open Go.AM
set_option maxRecDepth 100000
set_option linter.unusedSimpArgs false
set_option linter.unusedSectionVars false
set_option linter.unusedVariables false

/-! ### Route distinguishers -/

theorem wrap_u64 (x : Int) : Go.IntKind.wrap .u64 x = x % 18446744073709551616 := by
  simp [Go.IntKind.wrap, Go.IntKind.signed, Go.IntKind.bits]
theorem wrap_u64_id {x : Int} (h0 : 0 ≤ x) (h1 : x < 18446744073709551616) : Go.IntKind.wrap .u64 x = x := by rw [wrap_u64]; omega
theorem wrap_u16 (x : Int) : Go.IntKind.wrap .u16 x = x % 65536 := by
  simp [Go.IntKind.wrap, Go.IntKind.signed, Go.IntKind.bits]
theorem wrap_u16_id {x : Int} (h0 : 0 ≤ x) (h1 : x < 65536) : Go.IntKind.wrap .u16 x = x := by rw [wrap_u16]; omega

theorem or_add64 {a b : Int} (a0 : 0 ≤ a) (b0 : 0 ≤ b) (h : a + b < 18446744073709551616) (ho : a.toNat ||| b.toNat = a.toNat + b.toNat) :
    Go.IntKind.wrap .u64 (((BitVec.toNat (BitVec.ofInt 64 a ||| BitVec.ofInt 64 b)) : Nat) : Int) = a + b := by
  rw [BitVec.toNat_or, BitVec.toNat_ofInt, BitVec.toNat_ofInt]
  have ha : a % ((2 : Nat) ^ 64 : Nat) = a := Int.emod_eq_of_lt a0 (by omega)
  have hb : b % ((2 : Nat) ^ 64 : Nat) = b := Int.emod_eq_of_lt b0 (by omega)
  rw [ha, hb, ho]
  rw [wrap_u64_id (by omega) (by omega)]
  omega

def rdS (ip x : Int) : Int := 281474976710656 + ip * 65536 + x

theorem rd_or {ip x : Int} (h0 : 0 ≤ ip) (h1 : ip < 4294967296) (x0 : 0 ≤ x) (x1 : x < 65536) :
    Go.IntKind.wrap .u64 (((BitVec.toNat (BitVec.ofInt 64 (Go.IntKind.wrap .u64 (((BitVec.toNat (BitVec.ofInt 64 (281474976710656 : Int) ||| BitVec.ofInt 64 (ip * 65536))) : Nat) : Int)) ||| BitVec.ofInt 64 x)) : Nat) : Int) = rdS ip x := by
  obtain ⟨i, rfl⟩ : ∃ i : Nat, ip = (i : Int) := ⟨ip.toNat, by omega⟩
  obtain ⟨y, rfl⟩ : ∃ y : Nat, x = (y : Int) := ⟨x.toNat, by omega⟩
  have e1 : Go.IntKind.wrap .u64 (((BitVec.toNat (BitVec.ofInt 64 (281474976710656 : Int) ||| BitVec.ofInt 64 ((i : Int) * 65536))) : Nat) : Int) = 281474976710656 + (i : Int) * 65536 := by
    refine or_add64 (by omega) (by omega) (by omega) ?_
    have a : ((281474976710656 : Int).toNat) = 2 ^ 48 * 1 := by decide
    have b : ((i : Int) * 65536).toNat = i * 65536 := by omega
    rw [a, b]
    exact (Nat.two_pow_add_eq_or_of_lt (i := 48) (by omega) 1).symm
  rw [e1]
  rw [or_add64 (by omega) (by omega) (by omega)]
  · simp [rdS]
  · have a : (281474976710656 + (i : Int) * 65536).toNat = 2 ^ 16 * (4294967296 + i) := by omega
    have b : ((y : Int)).toNat = y := by omega
    rw [a, b]
    exact (Nat.two_pow_add_eq_or_of_lt (i := 16) (by omega) _).symm

theorem lb_range (x : Int) : 0 ≤ lbS x ∧ lbS x < 4294967296 := by
  unfold lbS
  split
  · omega
  · split
    · omega
    · simp only [wrap_u32]; omega

section
variable {β : Type} {n : Nat}
theorem nlri_RD (ip x : Int) (h0 : 0 ≤ ip) (h1 : ip < 4294967296) (x0 : 0 ≤ x) (x1 : x < 65536) (k : c_nlri_RD.sh.El → Option β) : (c_nlri_RD.S n (ip, x)).bind k = k (rdS ip x) := by
  have : c_nlri_RD.S n (ip, x) = some (rdS ip x) := by
    show (g_nlri_RD ip x).run n = _
    simp only [g_nlri_RD, G.run, tsOk, if_true]
    rw [← rd_or h0 h1 x0 x1]
    have e1 : Go.IntKind.wrap .u64 ip = ip := wrap_u64_id h0 (by omega)
    have e2 : Go.IntKind.wrap .u64 x = x := wrap_u64_id x0 (by omega)
    have e3 : Go.IntKind.wrap .u64 (ip * 2 ^ (min (Int.toNat (16 : Int)) (Go.IntKind.bits .u64))) = ip * 65536 := by
      show Go.IntKind.wrap .u64 (ip * 65536) = _
      exact wrap_u64_id (by omega) (by omega)
    rw [e1, e2, e3]; rfl
  rw [this]; rfl
end

/-- A route distinguisher of a leaf. -/
def RdS (f : Fabric) (leaf x : Int) (is : Bool) : Int := if okF f = true then if withinB leaf f.Leaves = true then if is = true then rdS (lbS leaf) x else 0 else 0 else 0

section
variable {β : Type} {n : Nat} (hn : 5000 ≤ n) {f : Fabric} (hs : Small f)
include hn hs

theorem tenant_BDRD (leaf bd : Int) (k : c_tenant_BDRD.sh.El → Option β) : (c_tenant_BDRD.S n (f, leaf, bd)).bind k = k (RdS f leaf (1 + bd) (withinB bd (f.BDs.length : Int))) := by
  have : c_tenant_BDRD.S n (f, leaf, bd) = some (RdS f leaf (1 + bd) (withinB bd (f.BDs.length : Int))) := by
    show (g_tenant_BDRD f leaf bd).run n = _
    simp only [g_tenant_BDRD, G.run, tsOk, tenant_valid hn hs, tenant_within, tenant_loopback, lenO_bind, RdS, if_true]
    by_cases h : okF f = true
    · have z := ok_sizes h
      simp only [h, Bool.not_true, Bool.false_eq_true, if_false, if_true]
      show (if (!withinB leaf f.Leaves) = true then _ else if (!withinB bd (f.BDs.length : Int)) = true then _ else _) = _
      by_cases h1 : withinB leaf f.Leaves = true
      · by_cases h2 : withinB bd (f.BDs.length : Int) = true
        · simp only [h1, h2, Bool.not_true, Bool.false_eq_true, if_false, if_true]
          simp only [withinB, Bool.and_eq_true, decide_eq_true_eq] at h2
          have hb := z.bds
          rw [wrap_i64 (x := 1 + bd) (by omega) (by omega), wrap_u16_id (by omega) (by omega), nlri_RD _ _ (lb_range leaf).1 (lb_range leaf).2 (by omega) (by omega)]; rfl
        · simp only [Bool.not_eq_true] at h2
          simp only [h1, h2, Bool.not_true, Bool.not_false, Bool.false_eq_true, if_false, if_true]; rfl
      · simp only [Bool.not_eq_true] at h1
        simp only [h1, Bool.not_false, Bool.false_eq_true, if_false, if_true]; rfl
    · simp only [Bool.not_eq_true] at h
      simp only [h, Bool.not_false, Bool.false_eq_true, if_false, if_true]; rfl
  rw [this]; rfl

theorem tenant_TenantRD (leaf t : Int) (k : c_tenant_TenantRD.sh.El → Option β) : (c_tenant_TenantRD.S n (f, leaf, t)).bind k = k (RdS f leaf (1001 + t) (withinB t (f.Tenants.length : Int))) := by
  have : c_tenant_TenantRD.S n (f, leaf, t) = some (RdS f leaf (1001 + t) (withinB t (f.Tenants.length : Int))) := by
    show (g_tenant_TenantRD f leaf t).run n = _
    simp only [g_tenant_TenantRD, G.run, tsOk, tenant_valid hn hs, tenant_within, tenant_loopback, lenO_bind, RdS, if_true]
    by_cases h : okF f = true
    · have z := ok_sizes h
      simp only [h, Bool.not_true, Bool.false_eq_true, if_false, if_true]
      show (if (!withinB leaf f.Leaves) = true then _ else if (!withinB t (f.Tenants.length : Int)) = true then _ else _) = _
      by_cases h1 : withinB leaf f.Leaves = true
      · by_cases h2 : withinB t (f.Tenants.length : Int) = true
        · simp only [h1, h2, Bool.not_true, Bool.false_eq_true, if_false, if_true]
          simp only [withinB, Bool.and_eq_true, decide_eq_true_eq] at h2
          have hb := z.tenants
          rw [wrap_i64 (x := 1001 + t) (by omega) (by omega), wrap_u16_id (by omega) (by omega), nlri_RD _ _ (lb_range leaf).1 (lb_range leaf).2 (by omega) (by omega)]; rfl
        · simp only [Bool.not_eq_true] at h2
          simp only [h1, h2, Bool.not_true, Bool.not_false, Bool.false_eq_true, if_false, if_true]; rfl
      · simp only [Bool.not_eq_true] at h1
        simp only [h1, Bool.not_false, Bool.false_eq_true, if_false, if_true]; rfl
    · simp only [Bool.not_eq_true] at h
      simp only [h, Bool.not_false, Bool.false_eq_true, if_false, if_true]; rfl
  rw [this]; rfl

theorem tenant_SegmentRD (leaf : Int) (k : c_tenant_SegmentRD.sh.El → Option β) : (c_tenant_SegmentRD.S n (f, leaf)).bind k = k (RdS f leaf 0 true) := by
  have : c_tenant_SegmentRD.S n (f, leaf) = some (RdS f leaf 0 true) := by
    show (g_tenant_SegmentRD f leaf).run n = _
    simp only [g_tenant_SegmentRD, G.run, tsOk, tenant_valid hn hs, tenant_within, tenant_loopback, RdS, if_true]
    by_cases h : okF f = true
    · simp only [h, Bool.not_true, Bool.false_eq_true, if_false, if_true]
      show (if (!withinB leaf f.Leaves) = true then _ else _) = _
      by_cases h1 : withinB leaf f.Leaves = true
      · simp only [h1, Bool.not_true, Bool.false_eq_true, if_false, if_true]
        rw [nlri_RD _ _ (lb_range leaf).1 (lb_range leaf).2 (by omega) (by omega)]; rfl
      · simp only [Bool.not_eq_true] at h1
        simp only [h1, Bool.not_false, Bool.false_eq_true, if_false, if_true]; rfl
    · simp only [Bool.not_eq_true] at h
      simp only [h, Bool.not_false, Bool.false_eq_true, if_false, if_true]; rfl
  rw [this]; rfl

variable (hr : Ranged f)
include hr
theorem rds_false (leaf x : Int) : RdS f leaf x false = 0 := by
  unfold RdS
  split
  · split <;> rfl
  · rfl

end
end Go.L
namespace Go.L
open Go.AM
set_option maxRecDepth 100000
set_option linter.unusedSimpArgs false
set_option linter.unusedSectionVars false
set_option linter.unusedVariables false

/-! ### Segment identifiers -/

def cmpB (a b : Int) : Int := if a < b then -1 else if a > b then 1 else 0
theorem cmpB_ne (a b : Int) : (cmpB a b != 0) = (a != b) := by
  unfold cmpB
  split
  · have : a ≠ b := by omega
    simp [this]
  · split
    · have : a ≠ b := by omega
      simp [this]
    · have : a = b := by omega
      simp [this]

def sameESI (x y : V10 Int) : Bool := x.a0 == y.a0 && (x.a1 == y.a1 && (x.a2 == y.a2 && (x.a3 == y.a3 && (x.a4 == y.a4 && (x.a5 == y.a5 && (x.a6 == y.a6 && (x.a7 == y.a7 && (x.a8 == y.a8 && (x.a9 == y.a9 && true)))))))))

theorem firstErr_at {α : Type} {E : Nat → α → Int} : ∀ (l : List α) (i0 i : Nat) (x : α), l[i]? = some x → E (i0 + i) x ≠ 0 → (∀ (j : Nat) (y : α), j < i → l[j]? = some y → E (i0 + j) y = 0) → firstErr E i0 l = some (E (i0 + i) x, i0 + i)
  | [], _, _, _, h, _, _ => by simp at h
  | y :: ys, i0, 0, x, h, hn, _ => by
    simp only [List.getElem?_cons_zero, Option.some.injEq] at h
    subst h
    simp only [firstErr, Nat.add_zero] at hn ⊢
    rw [if_pos hn]
  | y :: ys, i0, i + 1, x, h, hn, hb => by
    have h0 := hb 0 y (by omega) rfl
    simp only [Nat.add_zero] at h0
    simp only [firstErr]
    rw [if_neg (by simpa using h0)]
    have := firstErr_at ys (i0 + 1) i x (by simpa using h) (by rwa [show i0 + 1 + i = i0 + (i + 1) by omega]) (fun j z hj hz => by
      have := hb (j + 1) z (by omega) (by simpa using hz)
      rwa [show i0 + (j + 1) = i0 + 1 + j by omega] at this)
    rw [this, show i0 + 1 + i = i0 + (i + 1) by omega]

theorem same_zero {e : V10 Int} {s : Int} (h : sameESI (esiS s) e = true) (h0 : 0 ≤ s) (h1 : s < 64) : e.a0 = 3 ∧ e.a9 = s + 1 := by
  have a : ¬ s < 0 := by omega
  have b : ¬ s ≥ 64 := by omega
  unfold sameESI esiS at h
  simp only [a, b, if_false, Bool.and_eq_true, beq_iff_eq] at h
  obtain ⟨q0, _, _, _, _, _, _, _, _, q9, _⟩ := h
  refine ⟨q0.symm, ?_⟩
  rw [← q9, wrap_i64 (by omega) (by omega)]
  have : ∀ x : Int, Go.IntKind.wrap .u8 x = x % 256 := fun x => by simp [Go.IntKind.wrap, Go.IntKind.signed, Go.IntKind.bits]
  rw [this]; omega

section
variable {β : Type} {n : Nat}
theorem cmp_byte (a b : Int) (k : c_cmp_Compare_byte.sh.El → Option β) : (c_cmp_Compare_byte.S n (a, b)).bind k = k (cmpB a b) := by
  have : c_cmp_Compare_byte.S n (a, b) = some (cmpB a b) := by
    show (g_cmp_Compare_byte a b).run n = _
    have h1 : ∀ {γ : Type} (x : Int) (k : c_cmp_isNaN_byte.sh.El → Option γ), (c_cmp_isNaN_byte.S n x).bind k = k false := by
      intro γ x k
      have : c_cmp_isNaN_byte.S n x = some false := by
        show (g_cmp_isNaN_byte x).run n = _
        simp [g_cmp_isNaN_byte, G.run, tsOk]; rfl
      rw [this]; rfl
    simp only [g_cmp_Compare_byte, G.run, tsOk, h1, if_true, Bool.false_eq_true, if_false, cmpB, decide_eq_true_eq]
    split
    · rfl
    · split <;> rfl
  rw [this]; rfl

theorem compare_ESI (x y : V10 Int) : ∃ c : Int, (c != 0) = !sameESI x y ∧ ∀ (k : c_addr_CompareESI.sh.El → Option β), (c_addr_CompareESI.S n (x, y)).bind k = k c := by
  have : ∃ c : Int, (c != 0) = !sameESI x y ∧ c_addr_CompareESI.S n (x, y) = some c := by
    have h0 : ∀ {γ : Type} (k : c_addr_octets.sh.El → Option γ), (c_addr_octets.S n x).bind k = k (x.a0, x.a1, x.a2, x.a3, x.a4, x.a5, x.a6, x.a7, x.a8, x.a9) := fun k => rfl
    show ∃ c : Int, (c != 0) = !sameESI x y ∧ (g_addr_CompareESI x y).run n = some c
    simp only [g_addr_CompareESI, G.run, tsOk, h0, cmp_byte, if_true, cmpB_ne]
    unfold sameESI
    by_cases e0 : x.a0 = y.a0
    case neg =>
      refine ⟨cmpB x.a0 y.a0, ?_, ?_⟩
      · have b : (x.a0 == y.a0) = false := by simpa using e0
        rw [cmpB_ne]; simp only [bne, b, Bool.not_false, Bool.false_and, Bool.not_true, beq_self_eq_true, Bool.true_and]
      · simp [cmpB_ne, e0]; rfl
    by_cases e1 : x.a1 = y.a1
    case neg =>
      refine ⟨cmpB x.a1 y.a1, ?_, ?_⟩
      · have b : (x.a1 == y.a1) = false := by simpa using e1
        rw [cmpB_ne]; simp only [bne, b, Bool.not_false, Bool.false_and, Bool.not_true, e0, beq_self_eq_true, Bool.true_and]
      · simp [cmpB_ne, e0, e1]; rfl
    by_cases e2 : x.a2 = y.a2
    case neg =>
      refine ⟨cmpB x.a2 y.a2, ?_, ?_⟩
      · have b : (x.a2 == y.a2) = false := by simpa using e2
        rw [cmpB_ne]; simp only [bne, b, Bool.not_false, Bool.false_and, Bool.not_true, e0, e1, beq_self_eq_true, Bool.true_and]
      · simp [cmpB_ne, e0, e1, e2]; rfl
    by_cases e3 : x.a3 = y.a3
    case neg =>
      refine ⟨cmpB x.a3 y.a3, ?_, ?_⟩
      · have b : (x.a3 == y.a3) = false := by simpa using e3
        rw [cmpB_ne]; simp only [bne, b, Bool.not_false, Bool.false_and, Bool.not_true, e0, e1, e2, beq_self_eq_true, Bool.true_and]
      · simp [cmpB_ne, e0, e1, e2, e3]; rfl
    by_cases e4 : x.a4 = y.a4
    case neg =>
      refine ⟨cmpB x.a4 y.a4, ?_, ?_⟩
      · have b : (x.a4 == y.a4) = false := by simpa using e4
        rw [cmpB_ne]; simp only [bne, b, Bool.not_false, Bool.false_and, Bool.not_true, e0, e1, e2, e3, beq_self_eq_true, Bool.true_and]
      · simp [cmpB_ne, e0, e1, e2, e3, e4]; rfl
    by_cases e5 : x.a5 = y.a5
    case neg =>
      refine ⟨cmpB x.a5 y.a5, ?_, ?_⟩
      · have b : (x.a5 == y.a5) = false := by simpa using e5
        rw [cmpB_ne]; simp only [bne, b, Bool.not_false, Bool.false_and, Bool.not_true, e0, e1, e2, e3, e4, beq_self_eq_true, Bool.true_and]
      · simp [cmpB_ne, e0, e1, e2, e3, e4, e5]; rfl
    by_cases e6 : x.a6 = y.a6
    case neg =>
      refine ⟨cmpB x.a6 y.a6, ?_, ?_⟩
      · have b : (x.a6 == y.a6) = false := by simpa using e6
        rw [cmpB_ne]; simp only [bne, b, Bool.not_false, Bool.false_and, Bool.not_true, e0, e1, e2, e3, e4, e5, beq_self_eq_true, Bool.true_and]
      · simp [cmpB_ne, e0, e1, e2, e3, e4, e5, e6]; rfl
    by_cases e7 : x.a7 = y.a7
    case neg =>
      refine ⟨cmpB x.a7 y.a7, ?_, ?_⟩
      · have b : (x.a7 == y.a7) = false := by simpa using e7
        rw [cmpB_ne]; simp only [bne, b, Bool.not_false, Bool.false_and, Bool.not_true, e0, e1, e2, e3, e4, e5, e6, beq_self_eq_true, Bool.true_and]
      · simp [cmpB_ne, e0, e1, e2, e3, e4, e5, e6, e7]; rfl
    by_cases e8 : x.a8 = y.a8
    case neg =>
      refine ⟨cmpB x.a8 y.a8, ?_, ?_⟩
      · have b : (x.a8 == y.a8) = false := by simpa using e8
        rw [cmpB_ne]; simp only [bne, b, Bool.not_false, Bool.false_and, Bool.not_true, e0, e1, e2, e3, e4, e5, e6, e7, beq_self_eq_true, Bool.true_and]
      · simp [cmpB_ne, e0, e1, e2, e3, e4, e5, e6, e7, e8]; rfl
    by_cases e9 : x.a9 = y.a9
    case neg =>
      refine ⟨cmpB x.a9 y.a9, ?_, ?_⟩
      · have b : (x.a9 == y.a9) = false := by simpa using e9
        rw [cmpB_ne]; simp only [bne, b, Bool.not_false, Bool.false_and, Bool.not_true, e0, e1, e2, e3, e4, e5, e6, e7, e8, beq_self_eq_true, Bool.true_and]
      · simp [cmpB_ne, e0, e1, e2, e3, e4, e5, e6, e7, e8, e9]; rfl
    refine ⟨0, ?_, ?_⟩ <;> simp [e0, e1, e2, e3, e4, e5, e6, e7, e8, e9] <;> rfl
  obtain ⟨c, h1, h2⟩ := this
  exact ⟨c, h1, fun k => by rw [h2]; rfl⟩

def u8V (e : V10 Int) : Prop := 0 ≤ e.a9 ∧ e.a9 ≤ 255

/-- The segment that an identifier names, if it names one. -/
def segOf (e : V10 Int) : Option Int := if sameESI (esiS (e.a9 - 1)) e = true ∧ 1 ≤ e.a9 ∧ e.a9 ≤ 64 then some (e.a9 - 1) else none

theorem addr_ESISegment (e : V10 Int) (he : u8V e) (k : c_addr_ESISegment.sh.El → Option β) : (c_addr_ESISegment.S n e).bind k = k (match segOf e with | some s => (s, true) | none => (0, false)) := by
  have : c_addr_ESISegment.S n e = some (match segOf e with | some s => (s, true) | none => (0, false)) := by
    show (g_addr_ESISegment e).run n = _
    obtain ⟨h0, h1⟩ := he
    have e1 : Go.IntKind.wrap .i64 (Go.IntKind.wrap .i64 e.a9 - 1) = e.a9 - 1 := by rw [wrap_i64 (x := e.a9) (by omega) (by omega), wrap_i64 (by omega) (by omega)]
    obtain ⟨c, hc, hk⟩ := compare_ESI (β := (Int × Bool)) (n := n) (esiS (e.a9 - 1)) e
    simp only [g_addr_ESISegment, G.run, tsOk, addr_SegmentESI, if_true, e1]
    unfold esiE segOf
    by_cases a : e.a9 - 1 < 0
    · have : ¬ (1 ≤ e.a9) := by omega
      simp [a, this]; rfl
    · by_cases b : e.a9 - 1 ≥ 64
      · have : ¬ (e.a9 ≤ 64) := by omega
        simp [a, b, this]; rfl
      · have q1 : 1 ≤ e.a9 := by omega
        have q2 : e.a9 ≤ 64 := by omega
        simp only [a, b, if_false, bne_self_eq_false, Bool.false_eq_true, q1, q2, and_true]
        refine (hk _).trans ?_
        simp only [hc]
        cases sameESI (esiS (e.a9 - 1)) e <;> rfl
  rw [this]; rfl

def SegmentOfS (f : Fabric) (e : V10 Int) : Int × Bool := match segOf e with
  | some s => if MultiS f s = true then (s, true) else (0, false)
  | none => (0, false)

variable (hn : 5000 ≤ n) {f : Fabric} (hs : Small f)
include hn hs
theorem tenant_SegmentOf (e : V10 Int) (he : u8V e) (k : c_tenant_SegmentOf.sh.El → Option β) : (c_tenant_SegmentOf.S n (f, e)).bind k = k (SegmentOfS f e) := by
  have : c_tenant_SegmentOf.S n (f, e) = some (SegmentOfS f e) := by
    show (g_tenant_SegmentOf f e).run n = _
    simp only [g_tenant_SegmentOf, G.run, tsOk, addr_ESISegment e he, tenant_valid hn hs, tenant_multihomed, if_true, SegmentOfS]
    cases segOf e with
    | none => rfl
    | some s =>
      simp only [Bool.not_true, Bool.false_eq_true, if_false, MultiS]
      by_cases h : okF f = true
      · by_cases h2 : multiS f s = true
        · simp only [h, h2, Bool.not_true, Bool.false_eq_true, if_false, if_true, Bool.and_self]; rfl
        · simp only [Bool.not_eq_true] at h2
          simp only [h, h2, Bool.not_true, Bool.not_false, Bool.false_eq_true, if_false, if_true, Bool.and_false]; rfl
      · simp only [Bool.not_eq_true] at h
        simp only [h, Bool.not_false, Bool.false_eq_true, if_false, if_true, Bool.false_and]; rfl
  rw [this]; rfl

end
end Go.L
namespace Go.L
open Go.AM
set_option maxRecDepth 100000
set_option linter.unusedSimpArgs false
set_option linter.unusedSectionVars false
set_option linter.unusedVariables false

theorem bind_same {α γ : Type} {n : Nat} (l : List α) {f : Bool × Int → Option ((Bool × Int) ⊕ Bool)} {k : Bool → Option γ} (hn : l.length < n) (hf : ∀ (j : Nat) x, l[j]? = some x → f (true, (j : Int)) = some (.inl (true, ((j + 1 : Nat) : Int)))) (he : f (true, (l.length : Int)) = some (.inr true)) :
    (iterO f n (true, 0)).bind k = k true := by
  have : iterO f n (true, 0) = some true := iterO_list (fun j (_ : Unit) => (true, (j : Int))) l (fun _ => ()) true (fun j x hx => hf j x hx) he n hn
  rw [this]; rfl

theorem same_ints {β : Type} (n : Nat) (l : List Int) (hn : l.length < n) (hs : l.length ≤ 4000) (k : c_kit_SameInts.sh.El → Option β) : (c_kit_SameInts.S n (l, l)).bind k = k true := by
  have : c_kit_SameInts.S n (l, l) = some true := by
    show (g_kit_SameInts l l).run n = _
    simp only [g_kit_SameInts, G.run, tsOk, lenO_bind, idxO_bind, beq_self_eq_true]
    refine Eq.trans (bind_same l hn (fun j x hx => ?_) ?_) rfl
    · have hj := (List.getElem?_eq_some_iff.1 hx).1
      have hlt : (j : Int) < (l.length : Int) := by omega
      simp only [hlt, decide_true, if_true, at?_nat, hx, Option.bind_some, wrap_nat (show j < 9223372036854775807 by omega), beq_self_eq_true]; rfl
    · simp; rfl
  rw [this]; rfl


/-! ### Searches -/

def findS {α : Type} (p : α → Bool) (l : List α) : Int × Bool := match l.findIdx? p with
  | some i => ((i : Int), true)
  | none => (0, false)

theorem idxOf_neg {α : Type} (p : α → Bool) (l : List α) : (if decide (idxOf p l < 0) = true then some ((0 : Int), false) else some (idxOf p l, true)) = some (findS p l) := by
  unfold idxOf findS
  cases l.findIdx? p with
  | none => rfl
  | some i => simp

def OfS {α : Type} (f : Fabric) (p : α → Bool) (l : List α) : Int × Bool := if okF f = true then findS p l else (0, false)

section
variable {β : Type} {n : Nat}
theorem BDOf_b (x : BD) (v : Int) (k : c_tenant_BDOf_1.sh.El → Option β) : (c_tenant_BDOf_1.S n (x, v)).bind k = k (x.VNI == v) := rfl
theorem index_BDOf (l : List BD) (v : Int) (hn : l.length < n) (hs : l.length ≤ 4000) (k : c_slices_IndexFunc_BD_BD_2.sh.El → Option β) : (c_slices_IndexFunc_BD_BD_2.S n (l, v)).bind k = k (idxOf (fun x : BD => x.VNI == v) l) := by
  have : c_slices_IndexFunc_BD_BD_2.S n (l, v) = some (idxOf (fun x : BD => x.VNI == v) l) := by
    show (g_slices_IndexFunc_BD_BD_2 l v).run n = _
    simp only [g_slices_IndexFunc_BD_BD_2, G.run, tsOk, lenO_bind, idxO_bind, if_true, BDOf_b]
    refine bind_index l (fun x : BD => x.VNI == v) hn (fun i x hx => ?_) ?_ ?_
    · have hi := (List.getElem?_eq_some_iff.1 hx).1
      have hlt : (i : Int) < l.length := by omega
      simp only [at?_nat, hx, Option.bind_some, hlt, decide_true, if_true, wrap_nat (show i < 9223372036854775807 by omega)]
      split <;> rfl
    · simp; rfl
    · unfold idxOf; cases l.findIdx? (fun x : BD => x.VNI == v) <;> rfl
  rw [this]; rfl
theorem find_BDOf (l : List BD) (v : Int) (hn : l.length < n) (hs : l.length ≤ 4000) (k : c_tenant_find_BD.sh.El → Option β) : (c_tenant_find_BD.S n (l, v)).bind k = k (findS (fun x : BD => x.VNI == v) l) := by
  have : c_tenant_find_BD.S n (l, v) = some (findS (fun x : BD => x.VNI == v) l) := by
    show (g_tenant_find_BD l v).run n = _
    simp only [g_tenant_find_BD, G.run, tsOk, index_BDOf l v hn hs, if_true]
    exact idxOf_neg _ _
  rw [this]; rfl
variable (hn : 5000 ≤ n) {f : Fabric} (hs : Small f)
include hn hs
theorem tenant_BDOf (v : Int) (k : c_tenant_BDOf.sh.El → Option β) : (c_tenant_BDOf.S n (f, v)).bind k = k (OfS f (fun x : BD => x.VNI == v) f.BDs) := by
  have hb := hs.bds
  have : c_tenant_BDOf.S n (f, v) = some (OfS f (fun x : BD => x.VNI == v) f.BDs) := by
    show (g_tenant_BDOf f v).run n = _
    simp only [g_tenant_BDOf, G.run, tsOk, tenant_valid hn hs, find_BDOf (n := n) f.BDs v (by omega) hb, if_true, OfS]
    by_cases h : okF f = true
    · simp only [h, Bool.not_true, Bool.false_eq_true, if_false, if_true]; rfl
    · simp only [Bool.not_eq_true] at h
      simp only [h, Bool.not_false, if_true, Bool.false_eq_true, if_false]; rfl
  rw [this]; rfl
end

section
variable {β : Type} {n : Nat}
theorem TenantOf_b (x : Tenant) (v : Int) (k : c_tenant_TenantOf_1.sh.El → Option β) : (c_tenant_TenantOf_1.S n (x, v)).bind k = k (x.VNI == v) := rfl
theorem index_TenantOf (l : List Tenant) (v : Int) (hn : l.length < n) (hs : l.length ≤ 4000) (k : c_slices_IndexFunc_Tenant_Tenant_3.sh.El → Option β) : (c_slices_IndexFunc_Tenant_Tenant_3.S n (l, v)).bind k = k (idxOf (fun x : Tenant => x.VNI == v) l) := by
  have : c_slices_IndexFunc_Tenant_Tenant_3.S n (l, v) = some (idxOf (fun x : Tenant => x.VNI == v) l) := by
    show (g_slices_IndexFunc_Tenant_Tenant_3 l v).run n = _
    simp only [g_slices_IndexFunc_Tenant_Tenant_3, G.run, tsOk, lenO_bind, idxO_bind, if_true, TenantOf_b]
    refine bind_index l (fun x : Tenant => x.VNI == v) hn (fun i x hx => ?_) ?_ ?_
    · have hi := (List.getElem?_eq_some_iff.1 hx).1
      have hlt : (i : Int) < l.length := by omega
      simp only [at?_nat, hx, Option.bind_some, hlt, decide_true, if_true, wrap_nat (show i < 9223372036854775807 by omega)]
      split <;> rfl
    · simp; rfl
    · unfold idxOf; cases l.findIdx? (fun x : Tenant => x.VNI == v) <;> rfl
  rw [this]; rfl
theorem find_TenantOf (l : List Tenant) (v : Int) (hn : l.length < n) (hs : l.length ≤ 4000) (k : c_tenant_find_Tenant.sh.El → Option β) : (c_tenant_find_Tenant.S n (l, v)).bind k = k (findS (fun x : Tenant => x.VNI == v) l) := by
  have : c_tenant_find_Tenant.S n (l, v) = some (findS (fun x : Tenant => x.VNI == v) l) := by
    show (g_tenant_find_Tenant l v).run n = _
    simp only [g_tenant_find_Tenant, G.run, tsOk, index_TenantOf l v hn hs, if_true]
    exact idxOf_neg _ _
  rw [this]; rfl
variable (hn : 5000 ≤ n) {f : Fabric} (hs : Small f)
include hn hs
theorem tenant_TenantOf (v : Int) (k : c_tenant_TenantOf.sh.El → Option β) : (c_tenant_TenantOf.S n (f, v)).bind k = k (OfS f (fun x : Tenant => x.VNI == v) f.Tenants) := by
  have hb := hs.tenants
  have : c_tenant_TenantOf.S n (f, v) = some (OfS f (fun x : Tenant => x.VNI == v) f.Tenants) := by
    show (g_tenant_TenantOf f v).run n = _
    simp only [g_tenant_TenantOf, G.run, tsOk, tenant_valid hn hs, find_TenantOf (n := n) f.Tenants v (by omega) hb, if_true, OfS]
    by_cases h : okF f = true
    · simp only [h, Bool.not_true, Bool.false_eq_true, if_false, if_true]; rfl
    · simp only [Bool.not_eq_true] at h
      simp only [h, Bool.not_false, if_true, Bool.false_eq_true, if_false]; rfl
  rw [this]; rfl
end

section
variable {β : Type} {n : Nat}
theorem DomainOf_b (x : BD) (v : Int) (k : c_tenant_DomainOf_1.sh.El → Option β) : (c_tenant_DomainOf_1.S n (x, v)).bind k = k (x.Target == v) := rfl
theorem index_DomainOf (l : List BD) (v : Int) (hn : l.length < n) (hs : l.length ≤ 4000) (k : c_slices_IndexFunc_BD_BD_3.sh.El → Option β) : (c_slices_IndexFunc_BD_BD_3.S n (l, v)).bind k = k (idxOf (fun x : BD => x.Target == v) l) := by
  have : c_slices_IndexFunc_BD_BD_3.S n (l, v) = some (idxOf (fun x : BD => x.Target == v) l) := by
    show (g_slices_IndexFunc_BD_BD_3 l v).run n = _
    simp only [g_slices_IndexFunc_BD_BD_3, G.run, tsOk, lenO_bind, idxO_bind, if_true, DomainOf_b]
    refine bind_index l (fun x : BD => x.Target == v) hn (fun i x hx => ?_) ?_ ?_
    · have hi := (List.getElem?_eq_some_iff.1 hx).1
      have hlt : (i : Int) < l.length := by omega
      simp only [at?_nat, hx, Option.bind_some, hlt, decide_true, if_true, wrap_nat (show i < 9223372036854775807 by omega)]
      split <;> rfl
    · simp; rfl
    · unfold idxOf; cases l.findIdx? (fun x : BD => x.Target == v) <;> rfl
  rw [this]; rfl
theorem find_DomainOf (l : List BD) (v : Int) (hn : l.length < n) (hs : l.length ≤ 4000) (k : c_tenant_find_BD_2.sh.El → Option β) : (c_tenant_find_BD_2.S n (l, v)).bind k = k (findS (fun x : BD => x.Target == v) l) := by
  have : c_tenant_find_BD_2.S n (l, v) = some (findS (fun x : BD => x.Target == v) l) := by
    show (g_tenant_find_BD_2 l v).run n = _
    simp only [g_tenant_find_BD_2, G.run, tsOk, index_DomainOf l v hn hs, if_true]
    exact idxOf_neg _ _
  rw [this]; rfl
variable (hn : 5000 ≤ n) {f : Fabric} (hs : Small f)
include hn hs
theorem tenant_DomainOf (v : Int) (k : c_tenant_DomainOf.sh.El → Option β) : (c_tenant_DomainOf.S n (f, v)).bind k = k (OfS f (fun x : BD => x.Target == v) f.BDs) := by
  have hb := hs.bds
  have : c_tenant_DomainOf.S n (f, v) = some (OfS f (fun x : BD => x.Target == v) f.BDs) := by
    show (g_tenant_DomainOf f v).run n = _
    simp only [g_tenant_DomainOf, G.run, tsOk, tenant_valid hn hs, find_DomainOf (n := n) f.BDs v (by omega) hb, if_true, OfS]
    by_cases h : okF f = true
    · simp only [h, Bool.not_true, Bool.false_eq_true, if_false, if_true]; rfl
    · simp only [Bool.not_eq_true] at h
      simp only [h, Bool.not_false, if_true, Bool.false_eq_true, if_false]; rfl
  rw [this]; rfl
end

section
variable {β : Type} {n : Nat}
theorem RouterOf_b (x : Tenant) (v : Int) (k : c_tenant_RouterOf_1.sh.El → Option β) : (c_tenant_RouterOf_1.S n (x, v)).bind k = k (x.Target == v) := rfl
theorem index_RouterOf (l : List Tenant) (v : Int) (hn : l.length < n) (hs : l.length ≤ 4000) (k : c_slices_IndexFunc_Tenant_Tenant_4.sh.El → Option β) : (c_slices_IndexFunc_Tenant_Tenant_4.S n (l, v)).bind k = k (idxOf (fun x : Tenant => x.Target == v) l) := by
  have : c_slices_IndexFunc_Tenant_Tenant_4.S n (l, v) = some (idxOf (fun x : Tenant => x.Target == v) l) := by
    show (g_slices_IndexFunc_Tenant_Tenant_4 l v).run n = _
    simp only [g_slices_IndexFunc_Tenant_Tenant_4, G.run, tsOk, lenO_bind, idxO_bind, if_true, RouterOf_b]
    refine bind_index l (fun x : Tenant => x.Target == v) hn (fun i x hx => ?_) ?_ ?_
    · have hi := (List.getElem?_eq_some_iff.1 hx).1
      have hlt : (i : Int) < l.length := by omega
      simp only [at?_nat, hx, Option.bind_some, hlt, decide_true, if_true, wrap_nat (show i < 9223372036854775807 by omega)]
      split <;> rfl
    · simp; rfl
    · unfold idxOf; cases l.findIdx? (fun x : Tenant => x.Target == v) <;> rfl
  rw [this]; rfl
theorem find_RouterOf (l : List Tenant) (v : Int) (hn : l.length < n) (hs : l.length ≤ 4000) (k : c_tenant_find_Tenant_2.sh.El → Option β) : (c_tenant_find_Tenant_2.S n (l, v)).bind k = k (findS (fun x : Tenant => x.Target == v) l) := by
  have : c_tenant_find_Tenant_2.S n (l, v) = some (findS (fun x : Tenant => x.Target == v) l) := by
    show (g_tenant_find_Tenant_2 l v).run n = _
    simp only [g_tenant_find_Tenant_2, G.run, tsOk, index_RouterOf l v hn hs, if_true]
    exact idxOf_neg _ _
  rw [this]; rfl
variable (hn : 5000 ≤ n) {f : Fabric} (hs : Small f)
include hn hs
theorem tenant_RouterOf (v : Int) (k : c_tenant_RouterOf.sh.El → Option β) : (c_tenant_RouterOf.S n (f, v)).bind k = k (OfS f (fun x : Tenant => x.Target == v) f.Tenants) := by
  have hb := hs.tenants
  have : c_tenant_RouterOf.S n (f, v) = some (OfS f (fun x : Tenant => x.Target == v) f.Tenants) := by
    show (g_tenant_RouterOf f v).run n = _
    simp only [g_tenant_RouterOf, G.run, tsOk, tenant_valid hn hs, find_RouterOf (n := n) f.Tenants v (by omega) hb, if_true, OfS]
    by_cases h : okF f = true
    · simp only [h, Bool.not_true, Bool.false_eq_true, if_false, if_true]; rfl
    · simp only [Bool.not_eq_true] at h
      simp only [h, Bool.not_false, if_true, Bool.false_eq_true, if_false]; rfl
  rw [this]; rfl
end

section
variable {β : Type} {n : Nat} (hn : 5000 ≤ n) {f : Fabric} (hs : Small f) (hr : Ranged f)
include hn hs hr
end

theorem posOf_len' (f : Fabric) (hs : Small f) (x : Int) : (AtS f x).length ≤ 4000 := by
  unfold AtS
  split
  · have := posOf_len (fun s : Segment => s.Leaves.any fun y => x == y) f.Segments 0
    have := hs.segments
    omega
  · simp

end Go.L
