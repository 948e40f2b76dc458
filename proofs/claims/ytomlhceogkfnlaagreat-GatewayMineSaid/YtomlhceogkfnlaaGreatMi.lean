/- GatewayMine: which frames are for the gateway and which packets for the router of a leaf. No conditions. -/
import Derived.Test.YtomlhceogkfnlaaGreatWg
import Derived.Test.YtomlhceogkfnlaaGreatLb
import Derived.Test.YtomlhceogkfnlaaGreatRd
import Derived.Test.YtomlhceogkfnlaaGreatAmPl
import Derived.Test.YtomlhceogkfnlaaGreatRows
import Derived.Deep.DeepHandedRow
namespace Go.L
open Go.AM
set_option maxRecDepth 100000
set_option linter.unusedSimpArgs false
set_option linter.unusedVariables false
set_option linter.unusedSectionVars false

theorem firstErr_ne {α : Type} {E : Nat → α → Int} : ∀ (l : List α) (i : Nat) (e : Int) (j : Nat), firstErr E i l = some (e, j) → e ≠ 0
  | [], _, _, _, h => by simp [firstErr] at h
  | x :: xs, i, e, j, h => by
    simp only [firstErr] at h
    split at h
    · rename_i hne
      simp only [Option.some.injEq, Prod.mk.injEq] at h
      obtain ⟨rfl, _⟩ := h
      exact hne
    · exact firstErr_ne xs (i + 1) e j h

theorem outcome_ne {α : Type} {E : Nat → α → Int} {p : ByteArray} {m : Int} {b : Bool} {l : List α} {i : Nat} {t : Int × ByteArray × Int} (h : outcome p m b (firstErr E i l) = .inr t) : t.1 ≠ 0 := by
  unfold outcome at h
  split at h
  · simp only [Sum.inr.injEq] at h; subst h; simp
  · split at h
    · cases h
    · rename_i e j he
      simp only [Sum.inr.injEq] at h
      subst h
      exact firstErr_ne _ _ _ _ he

theorem thenR_ok {a : Res} {b : Int × ByteArray × Int} (ha : ∀ t, a = .inr t → t.1 ≠ 0) (h : (thenR a b).1 = 0) : a = .inl () ∧ b.1 = 0 := by
  cases a with
  | inl u => exact ⟨rfl, h⟩
  | inr t => exact absurd h (ha t rfl)

def okF (f : Fabric) : Bool := (checkS f).1 == 0

structure Parts (f : Fabric) : Prop where
  fabric : oFabric f = .inl ()
  timers : oTimers f = .inl ()
  links : oLinks f = .inl ()
  tenants : oTenants f = .inl ()
  domains : oDomains f = .inl ()
  segments : oSegments f = .inl ()
  hosts : oHosts f = .inl ()
  leaks : oLeaks f = .inl ()

theorem ok_parts {f : Fabric} (h : okF f = true) : Parts f := by
  simp only [okF, beq_iff_eq, checkS] at h
  have n1 : ∀ t, oFabric f = .inr t → t.1 ≠ 0 := by
    intro t ht; unfold oFabric at ht; split at ht
    · simp only [Sum.inr.injEq] at ht; subst ht; simp
    · cases ht
  have n2 : ∀ t, oTimers f = .inr t → t.1 ≠ 0 := by
    intro t ht; unfold oTimers at ht; split at ht
    · simp only [Sum.inr.injEq] at ht; subst ht; simp
    · cases ht
  obtain ⟨p1, h⟩ := thenR_ok n1 h
  obtain ⟨p2, h⟩ := thenR_ok n2 h
  obtain ⟨p3, h⟩ := thenR_ok (fun t ht => outcome_ne ht) h
  obtain ⟨p4, h⟩ := thenR_ok (fun t ht => outcome_ne ht) h
  obtain ⟨p5, h⟩ := thenR_ok (fun t ht => outcome_ne ht) h
  obtain ⟨p6, h⟩ := thenR_ok (fun t ht => outcome_ne ht) h
  obtain ⟨p7, h⟩ := thenR_ok (fun t ht => outcome_ne ht) h
  obtain ⟨p8, h⟩ := thenR_ok (fun t ht => outcome_ne ht) h
  exact ⟨p1, p2, p3, p4, p5, p6, p7, p8⟩

structure Sizes (f : Fabric) : Prop where
  l1 : 1 ≤ f.Leaves
  l2 : f.Leaves ≤ 32
  s1 : 0 ≤ f.Spines
  s2 : f.Spines ≤ 32
  ls : f.Leaves + f.Spines ≤ 32
  tenants : f.Tenants.length ≤ 16
  bds : f.BDs.length ≤ 32
  segments : f.Segments.length ≤ 64
  leaves : ∀ s ∈ f.Segments, ∀ x ∈ s.Leaves, 0 ≤ x ∧ x < f.Leaves
  horizon : 0 ≤ f.Horizon ∧ f.Horizon ≤ 1

theorem ok_sizes {f : Fabric} (h : okF f = true) : Sizes f := by
  have p := ok_parts h
  have hf := p.fabric
  unfold oFabric at hf
  split at hf
  · cases hf
  · rename_i hb
    simp only [badFabric, out, Bool.not_eq_true, Bool.or_eq_false_iff, decide_eq_false_iff_not] at hb
    have hw : Go.IntKind.wrap .i64 (f.Leaves + f.Spines) = f.Leaves + f.Spines := wrap_i64 (by omega) (by omega)
    rw [hw] at hb
    have t := (outcome_ok p.tenants).1
    have d := (outcome_ok p.domains).1
    have s := (outcome_ok p.segments).1
    simp only [decide_eq_false_iff_not] at t d s
    refine ⟨by omega, by omega, by omega, by omega, by omega, by omega, by omega, by omega, fun x hx y hy => ?_, by omega⟩
    have e := (outcome_ok p.segments).2
    rw [firstErr_none] at e
    obtain ⟨i, hi⟩ := List.getElem?_of_mem hx
    have := e i x hi
    simp only [Nat.zero_add] at this
    cases ha : (x.Leaves.any fun n => !(decide (0 ≤ n) && decide (n < f.Leaves))) with
    | true =>
      unfold segE at this
      rw [ha] at this
      simp only [if_true] at this
      repeat' split at this
      all_goals cases this
    | false =>
      rw [List.any_eq_false] at ha
      have := ha y hy
      simpa using this

section
variable {β : Type} {n : Nat} (hn : 5000 ≤ n) {f : Fabric} (hs : Small f)
include hn hs
theorem tenant_valid (k : c_tenant_valid.sh.El → Option β) : (c_tenant_valid.S n f).bind k = k (okF f) := by
  have : c_tenant_valid.S n f = some (okF f) := by
    show (g_tenant_valid f).run n = _
    simp only [g_tenant_valid, G.run, tsOk, tenant_Check n hn f hs, if_true]; rfl
  rw [this]; rfl
theorem ref_valid22 (hr : Ranged f) (k : c_ref22_valid.sh.El → Option β) : (c_ref22_valid.S n f).bind k = k (okF f) := by
  have : c_ref22_valid.S n f = some (okF f) := by
    show (g_ref22_valid f).run n = _
    simp only [g_ref22_valid, G.run, tsOk, ref_Check n hn f hs hr, if_true]; rfl
  rw [this]; rfl
end
def withinB (x m : Int) : Bool := decide (0 ≤ x) && decide (x < m)

theorem at?_within {α : Type} (l : List α) (s : Int) (h : withinB s (l.length : Int) = true) : ∃ i : Nat, ∃ x, s = (i : Int) ∧ i < l.length ∧ l[i]? = some x ∧ at? l s = some x := by
  simp only [withinB, Bool.and_eq_true, decide_eq_true_eq] at h
  obtain ⟨i, rfl⟩ : ∃ i : Nat, s = (i : Int) := ⟨s.toNat, by omega⟩
  have hi : i < l.length := by omega
  exact ⟨i, l[i], rfl, hi, List.getElem?_eq_getElem hi, by rw [at?_nat]; exact List.getElem?_eq_getElem hi⟩


theorem wrap_u64 (x : Int) : Go.IntKind.wrap .u64 x = x % 18446744073709551616 := by
  simp [Go.IntKind.wrap, Go.IntKind.signed, Go.IntKind.bits]
theorem wrap_u64_id {x : Int} (h0 : 0 ≤ x) (h1 : x < 18446744073709551616) : Go.IntKind.wrap .u64 x = x := by rw [wrap_u64]; omega

theorem vast_small (n : Nat) (f : Fabric) (hn : 5000 ≤ n) : ∃ b, c_kit_Vast.S n f = some b ∧ (b = false → Small f) := by
  have key : ∀ o : Option Bool, (o = some true ∨ (o = some false ∧ Small f)) → ∃ b, o = some b ∧ (b = false → Small f) := by
    intro o h
    rcases h with h | ⟨h, hs⟩
    · exact ⟨true, h, by intro h; cases h⟩
    · exact ⟨false, h, fun _ => hs⟩
  apply key
  show (g_kit_Vast f).run n = some true ∨ ((g_kit_Vast f).run n = some false ∧ Small f)
  simp only [g_kit_Vast, G.run, tsOk, lenO_bind, idxO_bind, gt_iff_lt]
  by_cases h1 : decide ((40 : Int) < (f.Links.length : Int)) = true
  · left; rw [if_pos h1]; rfl
  by_cases h2 : decide ((40 : Int) < (f.Tenants.length : Int)) = true
  · left; rw [if_neg h1, if_pos h2]; rfl
  by_cases h3 : decide ((40 : Int) < (f.BDs.length : Int)) = true
  · left; rw [if_neg h1, if_neg h2, if_pos h3]; rfl
  by_cases h4 : decide ((40 : Int) < (f.Segments.length : Int)) = true
  · left; rw [if_neg h1, if_neg h2, if_neg h3, if_pos h4]; rfl
  by_cases h5 : decide ((40 : Int) < (f.Hosts.length : Int)) = true
  · left; rw [if_neg h1, if_neg h2, if_neg h3, if_neg h4, if_pos h5]; rfl
  by_cases h6 : decide ((40 : Int) < (f.Leaks.length : Int)) = true
  · left; rw [if_neg h1, if_neg h2, if_neg h3, if_neg h4, if_neg h5, if_pos h6]; rfl
  rw [if_neg h1, if_neg h2, if_neg h3, if_neg h4, if_neg h5, if_neg h6]
  simp only [decide_eq_true_eq] at h1 h2 h3 h4 h5 h6
  have hl := bind_any (γ := Bool) (n := n) (k := fun t => G.run n (Sum.elim (fun (_ : Unit) => (.done [] true : G prog (Sh.El (.one Bool)))) (fun _ => .skip 1 <| .done [] false) t)) f.Segments f.Segments.length (fun s => decide ((20 : Int) < (s.Leaves.length : Int)) || decide ((20 : Int) < (s.BDs.length : Int))) (f := fun a8 => if decide (a8 < (f.Segments.length : Int)) = true then (at? f.Segments a8).bind fun x => if decide ((20 : Int) < (x.Leaves.length : Int)) = true then if True then some (.inr (.inl ())) else none else (at? f.Segments a8).bind fun x => if decide ((20 : Int) < (x.BDs.length : Int)) = true then if True then some (.inr (.inl ())) else none else if True then some (.inl (Go.IntKind.wrap .i64 (a8 + 1))) else none else if True then some (.inr (.inr ())) else none) (by omega) (by omega) (fun j y hj hy => ?_) ?_
  · have hb : ∀ o : Option Bool, o = (if ((f.Segments.take f.Segments.length).any fun s => decide ((20 : Int) < (s.Leaves.length : Int)) || decide ((20 : Int) < (s.BDs.length : Int))) = true then some true else some false) → o = some true ∨ (o = some false ∧ Small f) := by
      intro o ho
      rw [List.take_length] at ho
      cases hany : (f.Segments.any fun s => decide ((20 : Int) < (s.Leaves.length : Int)) || decide ((20 : Int) < (s.BDs.length : Int)))
      · right
        rw [hany] at ho
        refine ⟨ho, ⟨by omega, by omega, by omega, by omega, by omega, by omega, fun s hs => ?_⟩⟩
        rw [List.any_eq_false] at hany
        have := hany s hs
        simp only [Bool.or_eq_true, decide_eq_true_eq, not_or] at this
        omega
      · left
        rw [hany] at ho
        exact ho
    exact hb _ hl
  · have hlt : (j : Int) < (f.Segments.length : Int) := by omega
    simp only [hlt, decide_true, if_true, at?_nat, hy, Option.bind_some, wrap_nat (show j < 9223372036854775807 by omega)]
    cases decide ((20 : Int) < (y.Leaves.length : Int)) <;> cases decide ((20 : Int) < (y.BDs.length : Int)) <;> rfl
  · simp

def findS {α : Type} (p : α → Bool) (l : List α) : Int × Bool := match l.findIdx? p with
  | some i => ((i : Int), true)
  | none => (0, false)

theorem idxOf_neg {α : Type} (p : α → Bool) (l : List α) : (if decide (idxOf p l < 0) = true then some ((0 : Int), false) else some (idxOf p l, true)) = some (findS p l) := by
  unfold idxOf findS
  cases l.findIdx? p with
  | none => rfl
  | some i => simp

def OfS {α : Type} (f : Fabric) (p : α → Bool) (l : List α) : Int × Bool := if okF f = true then findS p l else (0, false)

section
variable {β : Type} {n : Nat}
theorem TenantOf_b (x : Tenant) (v : Int) (k : c_tenant_TenantOf_1.sh.El → Option β) : (c_tenant_TenantOf_1.S n (x, v)).bind k = k (x.VNI == v) := rfl
theorem index_TenantOf (l : List Tenant) (v : Int) (hn : l.length < n) (hs : l.length ≤ 4000) (k : c_slices_IndexFunc_Tenant_Tenant_3.sh.El → Option β) : (c_slices_IndexFunc_Tenant_Tenant_3.S n (l, v)).bind k = k (idxOf (fun x : Tenant => x.VNI == v) l) := by
  have : c_slices_IndexFunc_Tenant_Tenant_3.S n (l, v) = some (idxOf (fun x : Tenant => x.VNI == v) l) := by
    show (g_slices_IndexFunc_Tenant_Tenant_3 l v).run n = _
    simp only [g_slices_IndexFunc_Tenant_Tenant_3, G.run, tsOk, lenO_bind, idxO_bind, if_true, TenantOf_b]
    refine bind_index l (fun x : Tenant => x.VNI == v) hn (fun i x hx => ?_) ?_ ?_
    · have hi := (List.getElem?_eq_some_iff.1 hx).1
      have hlt : (i : Int) < l.length := by omega
      simp only [at?_nat, hx, Option.bind_some, hlt, decide_true, if_true, wrap_nat (show i < 9223372036854775807 by omega)]
      split <;> rfl
    · simp; rfl
    · unfold idxOf; cases l.findIdx? (fun x : Tenant => x.VNI == v) <;> rfl
  rw [this]; rfl
theorem find_TenantOf (l : List Tenant) (v : Int) (hn : l.length < n) (hs : l.length ≤ 4000) (k : c_tenant_find_Tenant.sh.El → Option β) : (c_tenant_find_Tenant.S n (l, v)).bind k = k (findS (fun x : Tenant => x.VNI == v) l) := by
  have : c_tenant_find_Tenant.S n (l, v) = some (findS (fun x : Tenant => x.VNI == v) l) := by
    show (g_tenant_find_Tenant l v).run n = _
    simp only [g_tenant_find_Tenant, G.run, tsOk, index_TenantOf l v hn hs, if_true]
    exact idxOf_neg _ _
  rw [this]; rfl
variable (hn : 5000 ≤ n) {f : Fabric} (hs : Small f)
include hn hs
theorem tenant_TenantOf (v : Int) (k : c_tenant_TenantOf.sh.El → Option β) : (c_tenant_TenantOf.S n (f, v)).bind k = k (OfS f (fun x : Tenant => x.VNI == v) f.Tenants) := by
  have hb := hs.tenants
  have : c_tenant_TenantOf.S n (f, v) = some (OfS f (fun x : Tenant => x.VNI == v) f.Tenants) := by
    show (g_tenant_TenantOf f v).run n = _
    simp only [g_tenant_TenantOf, G.run, tsOk, tenant_valid hn hs, find_TenantOf (n := n) f.Tenants v (by omega) hb, if_true, OfS]
    by_cases h : okF f = true
    · simp only [h, Bool.not_true, Bool.false_eq_true, if_false, if_true]; rfl
    · simp only [Bool.not_eq_true] at h
      simp only [h, Bool.not_false, if_true, Bool.false_eq_true, if_false]; rfl
  rw [this]; rfl
theorem ref_TenantOf (hr : Ranged f) (v : Int) (k : c_ref22_TenantOf.sh.El → Option β) : (c_ref22_TenantOf.S n (f, v)).bind k = k (OfS f (fun x : Tenant => x.VNI == v) f.Tenants) := by
  have hb := hs.tenants
  have : c_ref22_TenantOf.S n (f, v) = some (OfS f (fun x : Tenant => x.VNI == v) f.Tenants) := by
    show (g_ref22_TenantOf f v).run n = _
    simp only [g_ref22_TenantOf, G.run, tsOk, ref_valid22 hn hs hr, lenO_bind, idxO_bind, if_true]
    by_cases h : okF f = true
    · simp only [h, if_true, OfS]
      refine bind_index f.Tenants (fun x : Tenant => x.VNI == v) (by omega) (fun i x hx => ?_) ?_ ?_
      · have hi := (List.getElem?_eq_some_iff.1 hx).1
        have hlt : (i : Int) < f.Tenants.length := by omega
        simp only [at?_nat, hx, Option.bind_some, hlt, decide_true, if_true, wrap_nat (show i < 9223372036854775807 by omega)]
        split <;> rfl
      · simp; rfl
      · unfold findS; cases f.Tenants.findIdx? (fun x : Tenant => x.VNI == v) <;> rfl
    · simp only [Bool.not_eq_true] at h
      obtain ⟨m, rfl⟩ : ∃ m, n = m + 1 := ⟨n - 1, by omega⟩
      simp only [h, Bool.false_eq_true, if_false, OfS, iterO]; rfl
  rw [this]; rfl
end


section
variable {β : Type} {n : Nat} (hn : 5000 ≤ n) {f : Fabric} (hs : Small f)
include hn hs
theorem gateway_valid (k : c_gateway_valid.sh.El → Option β) : (c_gateway_valid.S n f).bind k = k (okF f) := by
  have : c_gateway_valid.S n f = some (okF f) := by
    show (g_gateway_valid f).run n = _
    simp only [g_gateway_valid, G.run, tsOk, tenant_Check n hn f hs, if_true]; rfl
  rw [this]; rfl
theorem ref_valid31 (hr : Ranged f) (k : c_ref31_valid.sh.El → Option β) : (c_ref31_valid.S n f).bind k = k (okF f) := by
  have : c_ref31_valid.S n f = some (okF f) := by
    show (g_ref31_valid f).run n = _
    simp only [g_ref31_valid, G.run, tsOk, ref_Check n hn f hs hr, if_true]; rfl
  rw [this]; rfl
end

def rmS (x : Int) : Int := if x < 0 then 0 else if x ≥ 32 then 0 else Go.IntKind.wrap .u64 ((2199023255552 : Int) + (Go.IntKind.wrap .u64 x))
def rmE (x : Int) : Int := if x < 0 then 2 else if x ≥ 32 then 2 else 0

section
variable {β : Type} {n : Nat}
theorem addr_RouterMAC (x : Int) (k : c_addr_RouterMAC.sh.El → Option β) : (c_addr_RouterMAC.S n x).bind k = k (rmS x, rmE x) := by
  have : c_addr_RouterMAC.S n x = some (rmS x, rmE x) := by
    show (g_addr_RouterMAC x).run n = _
    simp only [g_addr_RouterMAC, G.run, tsOk, rmS, rmE, decide_eq_true_eq, if_true]
    split
    · rfl
    · split <;> rfl
  rw [this]; rfl
theorem ref_router (x : Int) (k : c_ref31_router.sh.El → Option β) : (c_ref31_router.S n x).bind k = k (rmS x) := by
  have e : ∀ {γ : Type} (k : c_ref01_RouterMAC.sh.El → Option γ), (c_ref01_RouterMAC.S n x).bind k = k (rmS x, rmE x) := fun k => by
    have e : c_ref01_RouterMAC.S n x = c_addr_RouterMAC.S n x := rfl
    exact (congrArg (fun o => Option.bind o k) e).trans (addr_RouterMAC x k)
  have : c_ref31_router.S n x = some (rmS x) := by
    show (g_ref31_router x).run n = _
    simp only [g_ref31_router, G.run, tsOk, e, if_true]; rfl
  rw [this]; rfl
end

def ArrivesS (f : Fabric) (leaf : Int) (p : Packet) : Int × Bool :=
  if okF f = true then if leaf < 0 then (0, false) else if leaf ≥ f.Leaves then (0, false) else if (p.Inner.Dst != rmS leaf) = true then (0, false) else if (p.Inner.Kind != 2) = true then (0, false) else findS (fun x : Tenant => x.VNI == p.VNI) f.Tenants else (0, false)

def MineS (f : Fabric) (bd : Int) (x : Frame) : Bool := okF f && (withinB bd (f.BDs.length : Int) && (((at? f.BDs bd).map fun b => b.Gateway != 0).getD false && (x.Dst == 1577058561 && x.Kind == 2)))

section
variable {β : Type} {n : Nat} (hn : 5000 ≤ n) {f : Fabric} (hs : Small f)
include hn hs
theorem gateway_Arrives (leaf : Int) (p : Packet) (k : c_gateway_Arrives.sh.El → Option β) : (c_gateway_Arrives.S n (f, leaf, p)).bind k = k (ArrivesS f leaf p) := by
  have : c_gateway_Arrives.S n (f, leaf, p) = some (ArrivesS f leaf p) := by
    show (g_gateway_Arrives f leaf p).run n = _
    simp only [g_gateway_Arrives, G.run, tsOk, gateway_valid hn hs, addr_RouterMAC, tenant_TenantOf hn hs, if_true, ArrivesS, decide_eq_true_eq]
    by_cases h : okF f = true
    · have z := ok_sizes h
      simp only [h, Bool.not_true, Bool.false_eq_true, if_false, if_true, OfS]
      by_cases h1 : leaf < 0
      · simp only [h1, if_true]; rfl
      · by_cases h2 : leaf ≥ f.Leaves
        · simp only [h1, h2, if_true, if_false]; rfl
        · have hl := z.l2
          have he : rmE leaf = 0 := by unfold rmE; rw [if_neg h1, if_neg (by omega)]
          simp only [h1, h2, if_false, he, bne_self_eq_false, Bool.false_eq_true]
          by_cases h3 : (p.Inner.Dst != rmS leaf) = true
          · simp only [h3, if_true]; rfl
          · simp only [h3, if_false]
            by_cases h4 : (p.Inner.Kind != 2) = true
            · simp only [h4, if_true]; rfl
            · simp only [h4, if_false]; rfl
    · simp only [Bool.not_eq_true] at h
      simp only [h, Bool.not_false, if_true, Bool.false_eq_true, if_false]; rfl
  rw [this]; rfl
theorem ref_Arrives (hr : Ranged f) (leaf : Int) (p : Packet) (k : c_ref31_Arrives.sh.El → Option β) : (c_ref31_Arrives.S n (f, leaf, p)).bind k = k (ArrivesS f leaf p) := by
  have : c_ref31_Arrives.S n (f, leaf, p) = some (ArrivesS f leaf p) := by
    show (g_ref31_Arrives f leaf p).run n = _
    simp only [g_ref31_Arrives, G.run, tsOk, ref_TenantOf hn hs hr, ref_router, if_true, ArrivesS, decide_eq_true_eq]
    by_cases h : okF f = true
    · simp only [h, if_true, OfS]
      cases ht : f.Tenants.findIdx? (fun x : Tenant => x.VNI == p.VNI) with
      | none =>
        have : findS (fun x : Tenant => x.VNI == p.VNI) f.Tenants = (0, false) := by unfold findS; rw [ht]
        rw [this]
        simp only [Bool.not_false, if_true, ite_self]; rfl
      | some i =>
        have : findS (fun x : Tenant => x.VNI == p.VNI) f.Tenants = ((i : Int), true) := by unfold findS; rw [ht]
        rw [this]
        simp only [Bool.not_true, Bool.false_eq_true, if_false]
        by_cases h1 : leaf < 0
        · simp only [h1, if_true]; rfl
        · by_cases h2 : leaf ≥ f.Leaves
          · simp only [h1, h2, if_true, if_false]; rfl
          · simp only [h1, h2, if_false]
            by_cases h3 : (p.Inner.Dst != rmS leaf) = true
            · simp only [h3, if_true]; rfl
            · simp only [h3, if_false]
              by_cases h4 : (p.Inner.Kind != 2) = true
              · simp only [h4, if_true]; rfl
              · simp only [h4, if_false]; rfl
    · simp only [Bool.not_eq_true] at h
      simp only [h, OfS, Bool.not_false, if_true, Bool.false_eq_true, if_false]; rfl
  rw [this]; rfl
theorem gateway_Mine (bd : Int) (x : Frame) (k : c_gateway_Mine.sh.El → Option β) : (c_gateway_Mine.S n (f, bd, x)).bind k = k (MineS f bd x) := by
  have : c_gateway_Mine.S n (f, bd, x) = some (MineS f bd x) := by
    show (g_gateway_Mine f bd x).run n = _
    simp only [g_gateway_Mine, G.run, tsOk, gateway_valid hn hs, lenO_bind, idxO_bind, if_true, MineS]
    by_cases h : okF f = true
    · simp only [h, Bool.not_true, Bool.false_eq_true, if_false, Bool.true_and, decide_eq_true_eq]
      by_cases hw : withinB bd (f.BDs.length : Int) = true
      · obtain ⟨i, b, rfl, hi, hx, ha⟩ := at?_within _ _ hw
        have h1 : ¬ ((i : Int) < 0) := by omega
        have h2 : ¬ ((i : Int) ≥ (f.BDs.length : Int)) := by omega
        simp only [h1, h2, if_false, ha, Option.bind_some, Option.map_some, Option.getD_some, hw, Bool.true_and]
        by_cases hg : b.Gateway = 0
        · simp [hg]; rfl
        · have hg' : (b.Gateway == 0) = false := by simpa using hg
          simp only [hg', Bool.false_eq_true, if_false, bne, Bool.not_false, Bool.true_and]
          by_cases hd : (x.Dst == 1577058561) = true
          · simp only [hd, if_true, Bool.true_and]; rfl
          · simp only [Bool.not_eq_true] at hd
            simp only [hd, Bool.false_eq_true, if_false, Bool.false_and]; rfl
      · have hw' : withinB bd (f.BDs.length : Int) = false := by simpa using hw
        simp only [hw', Bool.false_and]
        simp only [withinB, Bool.and_eq_false_iff, decide_eq_false_iff_not] at hw'
        by_cases h1 : bd < 0
        · simp only [h1, if_true]; rfl
        · have h2 : bd ≥ (f.BDs.length : Int) := by omega
          simp only [h1, h2, if_false, if_true]; rfl
    · simp only [Bool.not_eq_true] at h
      simp only [h, Bool.not_false, if_true, Bool.false_and]; rfl
  rw [this]; rfl
theorem ref_Mine (hr : Ranged f) (bd : Int) (x : Frame) (k : c_ref31_Mine.sh.El → Option β) : (c_ref31_Mine.S n (f, bd, x)).bind k = k (MineS f bd x) := by
  have : c_ref31_Mine.S n (f, bd, x) = some (MineS f bd x) := by
    show (g_ref31_Mine f bd x).run n = _
    simp only [g_ref31_Mine, G.run, tsOk, ref_valid31 hn hs hr, lenO_bind, idxO_bind, if_true, MineS]
    by_cases h : okF f = true
    · simp only [h, if_true, Bool.true_and, decide_eq_true_eq]
      by_cases hw : withinB bd (f.BDs.length : Int) = true
      · obtain ⟨i, b, rfl, hi, hx, ha⟩ := at?_within _ _ hw
        have h1 : ((i : Int) ≥ 0) := by omega
        have h2 : ((i : Int) < (f.BDs.length : Int)) := by omega
        simp only [h1, h2, if_true, ha, Option.bind_some, Option.map_some, Option.getD_some, hw, Bool.true_and]
        by_cases hg : (b.Gateway != 0) = true
        · simp only [hg, if_true, Bool.true_and]
          by_cases hd : (x.Dst == 1577058561) = true
          · simp only [hd, if_true, Bool.true_and]; rfl
          · simp only [Bool.not_eq_true] at hd
            simp only [hd, Bool.false_eq_true, if_false, Bool.false_and]; rfl
        · simp only [Bool.not_eq_true] at hg
          simp only [hg, Bool.false_eq_true, if_false, Bool.false_and]; rfl
      · have hw' : withinB bd (f.BDs.length : Int) = false := by simpa using hw
        simp only [hw', Bool.false_and]
        simp only [withinB, Bool.and_eq_false_iff, decide_eq_false_iff_not] at hw'
        by_cases h1 : bd ≥ 0
        · have h2 : ¬ bd < (f.BDs.length : Int) := by omega
          simp only [h1, h2, if_false, if_true]; rfl
        · simp only [h1, if_false]; rfl
    · simp only [Bool.not_eq_true] at h
      simp only [h, Bool.false_eq_true, if_false, Bool.false_and]; rfl
  rw [this]; rfl
end

theorem awake_run : c_law31_awake.S 6000 () = some true := by
  show (g_law31_awake).run 6000 = some true
  kernel_rfl
theorem awake_b {β : Type} (k : c_law31_awake.sh.El → Option β) : (c_law31_awake.S 6000 ()).bind k = k true := by
  rw [awake_run]; rfl

theorem mine_run (f : Fabric) (hr : Ranged f) (leaf bd : Int) (p : Packet) : (g_law31_GatewayMine f leaf bd p).run 6000 = some true := by
  obtain ⟨b, hv, hs⟩ := vast_small 6000 f (by decide)
  have vast_b : ∀ {β : Type} (k : c_kit_Vast.sh.El → Option β), (c_kit_Vast.S 6000 f).bind k = k b := fun k => by rw [hv]; rfl
  simp only [g_law31_GatewayMine, G.run, tsOk, vast_b]
  cases b with
  | true =>
    simp only [if_true, awake_b]; rfl
  | false =>
    have hs := hs rfl
    have hn : 5000 ≤ 6000 := by decide
    simp only [Bool.false_eq_true, if_false, gateway_Arrives hn hs, ref_Arrives hn hs hr, gateway_Mine hn hs, ref_Mine hn hs hr, beq_self_eq_true, if_true, awake_b]
    rfl
end Go.L
namespace Go.L
open Go.AM
set_option linter.unusedVariables false
theorem wf_u32 {x : Int} (h : (Go.Lit.int .u32 x).wf = true) : 0 ≤ x ∧ x ≤ 4294967295 := by
  simp [Go.Lit.wf, Go.IntKind.min, Go.IntKind.max, Go.IntKind.signed, Go.IntKind.bits] at h
  omega
theorem ranged_ok {f : Fabric} (h : okFabric f) : Ranged f :=
  ⟨fun b hb => wf_u32 (h.2.2.2.2.1 b hb).2.2.2.1.1, fun x hx => wf_u32 (h.2.2.2.2.2.2.1 x hx).2.1⟩
theorem law_gatewayMine (f : Fabric) (leaf bd : Int) (p : Packet) (h : okFabric f) (h1 : (Go.Lit.int .i64 leaf).wf = true) (h2 : (Go.Lit.int .i64 bd).wf = true) (h3 : okPacket p) :
    FnVal prog 8 [.agg (eFabric f), .sc (.int .i64 leaf), .sc (.int .i64 bd), .agg (ePacket p)] (.ret (.sc (.bool true))) :=
  c_law31_GatewayMine.ok 6000 (f, leaf, bd, p) true (mine_run f (ranged_ok h) leaf bd p)
end Go.L
namespace Go.Proofs.YtomlhceogkfnlaaGreat.gatewayMine
open Go.ChangeShapes Go.WideShapes Go.ChangeAt Go.RowKit Go.AM Go.L
set_option linter.unusedVariables false

theorem own : ownKnob Tryz.prog.godebug = none := by kernel_rfl
theorem slices : ((List.range Tryz.prog.types.size).all fun t => match Tryz.prog.underlying t with | some (.slice e) => decide (0 < Tryz.prog.cellsOf e) | _ => true) = true := by kernel_rfl
theorem maps : mapsRowed Tryz.prog = true := by kernel_rfl
theorem inTable : (Tryz.f8.params.toList.all fun t => Nat.ble (t + 1) Tryz.prog.types.size) = true := by kernel_rfl
set_option maxRecDepth 100000 in
theorem contract (H : Type) (enc : TypeId × Value → H) (W : World) (base : Nat) (args : Array Value) (ds gs : List (DataW H)) (before : List MemPlace)
    (hval : ∀ (j : Nat) t v, Tryz.f8.params[j]? = some t → args[j]? = some v → Value.okWide Tryz.prog W .any base t v)
    (hW : DataW.Whole enc Tryz.prog Tryz.f8.params.toList Rows.gatewayMineSpec.vars false W args.toList ds gs before) :
    Calls Tryz.prog 8 args W fun e W' => ∃ v, e = .returned v ∧ Rows.gatewayMineSpec.post enc Tryz.prog Tryz.f8 false true false false W args v W' := by
  have hW' := hW
  have hlt := hW.lt
  obtain ⟨p, q, hA0, hV, rfl, hfz, hnd⟩ := hW
  have hA : DataW.TrodAll enc Tryz.prog W 0 (fun _ => true) true Tryz.f8.params.toList args.toList ds p := hA0
  clear hA0
  have hAll := hA
  rw [Tryz.params8] at hA hval
  obtain ⟨v0, r0, d0, e0, p0, q0, hv0, hd0, hp0, t0, hA⟩ := trodAll_cons hA
  obtain ⟨v1, r1, d1, e1, p1, q1, hv1, hd1, hp1, t1, hA⟩ := trodAll_cons hA
  obtain ⟨v2, r2, d2, e2, p2, q2, hv2, hd2, hp2, t2, hA⟩ := trodAll_cons hA
  obtain ⟨v3, r3, d3, e3, p3, q3, hv3, hd3, hp3, t3, hA⟩ := trodAll_cons hA
  obtain ⟨hr, hd, hq⟩ := trodAll_nil hA
  obtain rfl : args = #[v0, v1, v2, v3] := by apply Array.ext'; simp only [hv0, hv1, hv2, hv3, hr]
  obtain rfl : ds = [d0, d1, d2, d3] := by simp only [hd0, hd1, hd2, hd3, hd]
  obtain ⟨rfl, rfl⟩ := trodVars_none hV
  simp only [List.append_nil] at hW' hlt
  obtain ⟨a0, ok0, ra0⟩ := Rdb.agg rdFabric Tryz.underlying31 (hval 0 _ _ rfl rfl) t0
  obtain ⟨a1, ok1, ra1⟩ := Rdb.cell (c := (cI .i64)) (Rdb.int Tryz.underlying3 (by kernel_rfl)) (by kernel_rfl) (hval 1 _ _ rfl rfl) t1
  obtain ⟨a2, ok2, ra2⟩ := Rdb.cell (c := (cI .i64)) (Rdb.int Tryz.underlying3 (by kernel_rfl)) (by kernel_rfl) (hval 2 _ _ rfl rfl) t2
  obtain ⟨a3, ok3, ra3⟩ := Rdb.agg rdPacket Tryz.underlying88 (hval 3 _ _ rfl rfl) t3
  refine (law_top (law_gatewayMine a0 a1 a2 a3 ok0 ok1 ok2 ok3) W (fun _ _ h => by cases h) _ ⟨_, _, rfl, ra0, ⟨_, _, rfl, ra1, ⟨_, _, rfl, ra2, ⟨_, _, rfl, ra3, rfl⟩⟩⟩⟩).mono fun e W' ⟨he, hg⟩ => ?_
  subst he
  exact ⟨_, rfl, post_of_below (pa := p) (pv := []) hW' (fun _ _ _ => (trodAll_cons_mk (shut_bool Tryz.underlying4 _) trodAll_mk0))
    (fun sp hsp => trodAll_kept laid maps (slices_full_of _ slices) hg (fun t ht => Nat.le_of_ble_eq_true (List.all_eq_true.1 inTable t ht)) hAll hlt hsp) (fun _ _ => rfl) (by simp)
    hg (ok_one (by kernel_rfl) rfl (okWide_bool_mk Tryz.underlying4 _))⟩

set_option maxRecDepth 100000 in
theorem lifted (os : Os) (started : os.Started) (H : Type) (enc : TypeId × Value → H) :
    ReturnsInHanded {} Tryz.checked os 8 .any (Rows.gatewayMineSpec.pre6 enc Tryz.prog Tryz.f8 Rows.gatewayMineRow.domain false) (Rows.gatewayMineSpec.post enc Tryz.prog Tryz.f8 false true false false) := by
  refine returnsInHanded_of_change (C := Tryz.checked) (s := Rows.gatewayMineSpec) own started (by kernel_rfl) Tryz.func8
    (ChangeSpec.witness6 (enc := enc) (C := Tryz.checked) (s := Rows.gatewayMineSpec) false ⟨#[], #[.agg #[.int .i64 0, .int .i64 0, .slice none 0 0, .slice none 0 0, .slice none 0 0, .slice none 0 0, .slice none 0 0, .slice none 0 0, .int .i64 0, .int .i64 0, .int .i64 0, .bool false, .bool false, .int .i64 0, .int .i64 0, .int .i64 0, .int .i64 0, .int .i64 0, .int .i64 0], .int .i64 0, .int .i64 0, .agg #[.int .u32 0, .int .u32 0, .int .i64 0, .int .i64 0, .int .u32 0, .int .u32 0, .int .u64 0, .int .u64 0, .int .i64 0, .int .i64 0, .int .u64 0, .int .u32 0, .int .u64 0, .int .u32 0, .int .u32 0, .int .u32 0, .int .i64 0, .int .i64 0, .int .i64 0, .int .i64 0, .int .u64 0]], []⟩ 8 (by kernel_rfl) (by kernel_rfl) (by kernel_rfl) (by kernel_rfl) (by kernel_rfl)) ?_
  intro W base args ds gs before hval hW _ _
  exact contract H enc W base args ds gs before hval hW

theorem proved : Rows.GatewayMineSaid :=
  OpenClaim.holds_of_wide 8 Tryz.f8 rfl rfl rfl rfl rfl rfl rfl ⟨rfl, rfl, rfl, rfl, rfl⟩ rfl rfl rfl rfl rfl (by kernel_rfl) Tryz.func8 (by kernel_rfl)
    (of_decide_eq_true (by kernel_rfl)) (by unfold Func.isWrapper; first | (rw [if_pos (by decide +kernel)]; kernel_rfl) | (rw [if_neg (by decide +kernel)]; exact ⟨rfl, rfl⟩))
    (fun os started H enc _ => lifted os started H enc)
end Go.Proofs.YtomlhceogkfnlaaGreat.gatewayMine
