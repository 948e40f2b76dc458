/- GatewayRoutes: what becomes of any frame that a gateway routes is what the reference says, by any fabric and any tables. No conditions. -/
import Derived.Test.YtomlhceogkfnlaaGreatWg
import Derived.Test.YtomlhceogkfnlaaGreatLb
import Derived.Test.YtomlhceogkfnlaaGreatRd
import Derived.Test.YtomlhceogkfnlaaGreatAmPl
import Derived.Test.YtomlhceogkfnlaaGreatRows
import Derived.Deep.DeepHandedRow
namespace Go.L
open Go.AM
set_option maxRecDepth 100000
set_option linter.unusedSimpArgs false
set_option linter.unusedVariables false
set_option linter.unusedSectionVars false

theorem firstErr_ne {α : Type} {E : Nat → α → Int} : ∀ (l : List α) (i : Nat) (e : Int) (j : Nat), firstErr E i l = some (e, j) → e ≠ 0
  | [], _, _, _, h => by simp [firstErr] at h
  | x :: xs, i, e, j, h => by
    simp only [firstErr] at h
    split at h
    · rename_i hne
      simp only [Option.some.injEq, Prod.mk.injEq] at h
      obtain ⟨rfl, _⟩ := h
      exact hne
    · exact firstErr_ne xs (i + 1) e j h

theorem outcome_ne {α : Type} {E : Nat → α → Int} {p : ByteArray} {m : Int} {b : Bool} {l : List α} {i : Nat} {t : Int × ByteArray × Int} (h : outcome p m b (firstErr E i l) = .inr t) : t.1 ≠ 0 := by
  unfold outcome at h
  split at h
  · simp only [Sum.inr.injEq] at h; subst h; simp
  · split at h
    · cases h
    · rename_i e j he
      simp only [Sum.inr.injEq] at h
      subst h
      exact firstErr_ne _ _ _ _ he

theorem thenR_ok {a : Res} {b : Int × ByteArray × Int} (ha : ∀ t, a = .inr t → t.1 ≠ 0) (h : (thenR a b).1 = 0) : a = .inl () ∧ b.1 = 0 := by
  cases a with
  | inl u => exact ⟨rfl, h⟩
  | inr t => exact absurd h (ha t rfl)

def okF (f : Fabric) : Bool := (checkS f).1 == 0

structure Parts (f : Fabric) : Prop where
  fabric : oFabric f = .inl ()
  timers : oTimers f = .inl ()
  links : oLinks f = .inl ()
  tenants : oTenants f = .inl ()
  domains : oDomains f = .inl ()
  segments : oSegments f = .inl ()
  hosts : oHosts f = .inl ()
  leaks : oLeaks f = .inl ()

theorem ok_parts {f : Fabric} (h : okF f = true) : Parts f := by
  simp only [okF, beq_iff_eq, checkS] at h
  have n1 : ∀ t, oFabric f = .inr t → t.1 ≠ 0 := by
    intro t ht; unfold oFabric at ht; split at ht
    · simp only [Sum.inr.injEq] at ht; subst ht; simp
    · cases ht
  have n2 : ∀ t, oTimers f = .inr t → t.1 ≠ 0 := by
    intro t ht; unfold oTimers at ht; split at ht
    · simp only [Sum.inr.injEq] at ht; subst ht; simp
    · cases ht
  obtain ⟨p1, h⟩ := thenR_ok n1 h
  obtain ⟨p2, h⟩ := thenR_ok n2 h
  obtain ⟨p3, h⟩ := thenR_ok (fun t ht => outcome_ne ht) h
  obtain ⟨p4, h⟩ := thenR_ok (fun t ht => outcome_ne ht) h
  obtain ⟨p5, h⟩ := thenR_ok (fun t ht => outcome_ne ht) h
  obtain ⟨p6, h⟩ := thenR_ok (fun t ht => outcome_ne ht) h
  obtain ⟨p7, h⟩ := thenR_ok (fun t ht => outcome_ne ht) h
  obtain ⟨p8, h⟩ := thenR_ok (fun t ht => outcome_ne ht) h
  exact ⟨p1, p2, p3, p4, p5, p6, p7, p8⟩

structure Sizes (f : Fabric) : Prop where
  l1 : 1 ≤ f.Leaves
  l2 : f.Leaves ≤ 32
  s1 : 0 ≤ f.Spines
  s2 : f.Spines ≤ 32
  ls : f.Leaves + f.Spines ≤ 32
  tenants : f.Tenants.length ≤ 16
  bds : f.BDs.length ≤ 32
  segments : f.Segments.length ≤ 64
  leaves : ∀ s ∈ f.Segments, ∀ x ∈ s.Leaves, 0 ≤ x ∧ x < f.Leaves
  horizon : 0 ≤ f.Horizon ∧ f.Horizon ≤ 1

theorem ok_sizes {f : Fabric} (h : okF f = true) : Sizes f := by
  have p := ok_parts h
  have hf := p.fabric
  unfold oFabric at hf
  split at hf
  · cases hf
  · rename_i hb
    simp only [badFabric, out, Bool.not_eq_true, Bool.or_eq_false_iff, decide_eq_false_iff_not] at hb
    have hw : Go.IntKind.wrap .i64 (f.Leaves + f.Spines) = f.Leaves + f.Spines := wrap_i64 (by omega) (by omega)
    rw [hw] at hb
    have t := (outcome_ok p.tenants).1
    have d := (outcome_ok p.domains).1
    have s := (outcome_ok p.segments).1
    simp only [decide_eq_false_iff_not] at t d s
    refine ⟨by omega, by omega, by omega, by omega, by omega, by omega, by omega, by omega, fun x hx y hy => ?_, by omega⟩
    have e := (outcome_ok p.segments).2
    rw [firstErr_none] at e
    obtain ⟨i, hi⟩ := List.getElem?_of_mem hx
    have := e i x hi
    simp only [Nat.zero_add] at this
    cases ha : (x.Leaves.any fun n => !(decide (0 ≤ n) && decide (n < f.Leaves))) with
    | true =>
      unfold segE at this
      rw [ha] at this
      simp only [if_true] at this
      repeat' split at this
      all_goals cases this
    | false =>
      rw [List.any_eq_false] at ha
      have := ha y hy
      simpa using this

section
variable {β : Type} {n : Nat} (hn : 5000 ≤ n) {f : Fabric} (hs : Small f)
include hn hs
theorem tenant_valid (k : c_tenant_valid.sh.El → Option β) : (c_tenant_valid.S n f).bind k = k (okF f) := by
  have : c_tenant_valid.S n f = some (okF f) := by
    show (g_tenant_valid f).run n = _
    simp only [g_tenant_valid, G.run, tsOk, tenant_Check n hn f hs, if_true]; rfl
  rw [this]; rfl
theorem ref_valid22 (hr : Ranged f) (k : c_ref22_valid.sh.El → Option β) : (c_ref22_valid.S n f).bind k = k (okF f) := by
  have : c_ref22_valid.S n f = some (okF f) := by
    show (g_ref22_valid f).run n = _
    simp only [g_ref22_valid, G.run, tsOk, ref_Check n hn f hs hr, if_true]; rfl
  rw [this]; rfl
end
def withinB (x m : Int) : Bool := decide (0 ≤ x) && decide (x < m)

theorem at?_within {α : Type} (l : List α) (s : Int) (h : withinB s (l.length : Int) = true) : ∃ i : Nat, ∃ x, s = (i : Int) ∧ i < l.length ∧ l[i]? = some x ∧ at? l s = some x := by
  simp only [withinB, Bool.and_eq_true, decide_eq_true_eq] at h
  obtain ⟨i, rfl⟩ : ∃ i : Nat, s = (i : Int) := ⟨s.toNat, by omega⟩
  have hi : i < l.length := by omega
  exact ⟨i, l[i], rfl, hi, List.getElem?_eq_getElem hi, by rw [at?_nat]; exact List.getElem?_eq_getElem hi⟩


theorem wrap_u64 (x : Int) : Go.IntKind.wrap .u64 x = x % 18446744073709551616 := by
  simp [Go.IntKind.wrap, Go.IntKind.signed, Go.IntKind.bits]
theorem wrap_u64_id {x : Int} (h0 : 0 ≤ x) (h1 : x < 18446744073709551616) : Go.IntKind.wrap .u64 x = x := by rw [wrap_u64]; omega

theorem vast_small (n : Nat) (f : Fabric) (hn : 5000 ≤ n) : ∃ b, c_kit_Vast.S n f = some b ∧ (b = false → Small f) := by
  have key : ∀ o : Option Bool, (o = some true ∨ (o = some false ∧ Small f)) → ∃ b, o = some b ∧ (b = false → Small f) := by
    intro o h
    rcases h with h | ⟨h, hs⟩
    · exact ⟨true, h, by intro h; cases h⟩
    · exact ⟨false, h, fun _ => hs⟩
  apply key
  show (g_kit_Vast f).run n = some true ∨ ((g_kit_Vast f).run n = some false ∧ Small f)
  simp only [g_kit_Vast, G.run, tsOk, lenO_bind, idxO_bind, gt_iff_lt]
  by_cases h1 : decide ((40 : Int) < (f.Links.length : Int)) = true
  · left; rw [if_pos h1]; rfl
  by_cases h2 : decide ((40 : Int) < (f.Tenants.length : Int)) = true
  · left; rw [if_neg h1, if_pos h2]; rfl
  by_cases h3 : decide ((40 : Int) < (f.BDs.length : Int)) = true
  · left; rw [if_neg h1, if_neg h2, if_pos h3]; rfl
  by_cases h4 : decide ((40 : Int) < (f.Segments.length : Int)) = true
  · left; rw [if_neg h1, if_neg h2, if_neg h3, if_pos h4]; rfl
  by_cases h5 : decide ((40 : Int) < (f.Hosts.length : Int)) = true
  · left; rw [if_neg h1, if_neg h2, if_neg h3, if_neg h4, if_pos h5]; rfl
  by_cases h6 : decide ((40 : Int) < (f.Leaks.length : Int)) = true
  · left; rw [if_neg h1, if_neg h2, if_neg h3, if_neg h4, if_neg h5, if_pos h6]; rfl
  rw [if_neg h1, if_neg h2, if_neg h3, if_neg h4, if_neg h5, if_neg h6]
  simp only [decide_eq_true_eq] at h1 h2 h3 h4 h5 h6
  have hl := bind_any (γ := Bool) (n := n) (k := fun t => G.run n (Sum.elim (fun (_ : Unit) => (.done [] true : G prog (Sh.El (.one Bool)))) (fun _ => .skip 1 <| .done [] false) t)) f.Segments f.Segments.length (fun s => decide ((20 : Int) < (s.Leaves.length : Int)) || decide ((20 : Int) < (s.BDs.length : Int))) (f := fun a8 => if decide (a8 < (f.Segments.length : Int)) = true then (at? f.Segments a8).bind fun x => if decide ((20 : Int) < (x.Leaves.length : Int)) = true then if True then some (.inr (.inl ())) else none else (at? f.Segments a8).bind fun x => if decide ((20 : Int) < (x.BDs.length : Int)) = true then if True then some (.inr (.inl ())) else none else if True then some (.inl (Go.IntKind.wrap .i64 (a8 + 1))) else none else if True then some (.inr (.inr ())) else none) (by omega) (by omega) (fun j y hj hy => ?_) ?_
  · have hb : ∀ o : Option Bool, o = (if ((f.Segments.take f.Segments.length).any fun s => decide ((20 : Int) < (s.Leaves.length : Int)) || decide ((20 : Int) < (s.BDs.length : Int))) = true then some true else some false) → o = some true ∨ (o = some false ∧ Small f) := by
      intro o ho
      rw [List.take_length] at ho
      cases hany : (f.Segments.any fun s => decide ((20 : Int) < (s.Leaves.length : Int)) || decide ((20 : Int) < (s.BDs.length : Int)))
      · right
        rw [hany] at ho
        refine ⟨ho, ⟨by omega, by omega, by omega, by omega, by omega, by omega, fun s hs => ?_⟩⟩
        rw [List.any_eq_false] at hany
        have := hany s hs
        simp only [Bool.or_eq_true, decide_eq_true_eq, not_or] at this
        omega
      · left
        rw [hany] at ho
        exact ho
    exact hb _ hl
  · have hlt : (j : Int) < (f.Segments.length : Int) := by omega
    simp only [hlt, decide_true, if_true, at?_nat, hy, Option.bind_some, wrap_nat (show j < 9223372036854775807 by omega)]
    cases decide ((20 : Int) < (y.Leaves.length : Int)) <;> cases decide ((20 : Int) < (y.BDs.length : Int)) <;> rfl
  · simp

def findS {α : Type} (p : α → Bool) (l : List α) : Int × Bool := match l.findIdx? p with
  | some i => ((i : Int), true)
  | none => (0, false)

theorem idxOf_neg {α : Type} (p : α → Bool) (l : List α) : (if decide (idxOf p l < 0) = true then some ((0 : Int), false) else some (idxOf p l, true)) = some (findS p l) := by
  unfold idxOf findS
  cases l.findIdx? p with
  | none => rfl
  | some i => simp

def OfS {α : Type} (f : Fabric) (p : α → Bool) (l : List α) : Int × Bool := if okF f = true then findS p l else (0, false)

section
variable {β : Type} {n : Nat}
theorem TenantOf_b (x : Tenant) (v : Int) (k : c_tenant_TenantOf_1.sh.El → Option β) : (c_tenant_TenantOf_1.S n (x, v)).bind k = k (x.VNI == v) := rfl
theorem index_TenantOf (l : List Tenant) (v : Int) (hn : l.length < n) (hs : l.length ≤ 4000) (k : c_slices_IndexFunc_Tenant_Tenant_3.sh.El → Option β) : (c_slices_IndexFunc_Tenant_Tenant_3.S n (l, v)).bind k = k (idxOf (fun x : Tenant => x.VNI == v) l) := by
  have : c_slices_IndexFunc_Tenant_Tenant_3.S n (l, v) = some (idxOf (fun x : Tenant => x.VNI == v) l) := by
    show (g_slices_IndexFunc_Tenant_Tenant_3 l v).run n = _
    simp only [g_slices_IndexFunc_Tenant_Tenant_3, G.run, tsOk, lenO_bind, idxO_bind, if_true, TenantOf_b]
    refine bind_index l (fun x : Tenant => x.VNI == v) hn (fun i x hx => ?_) ?_ ?_
    · have hi := (List.getElem?_eq_some_iff.1 hx).1
      have hlt : (i : Int) < l.length := by omega
      simp only [at?_nat, hx, Option.bind_some, hlt, decide_true, if_true, wrap_nat (show i < 9223372036854775807 by omega)]
      split <;> rfl
    · simp; rfl
    · unfold idxOf; cases l.findIdx? (fun x : Tenant => x.VNI == v) <;> rfl
  rw [this]; rfl
theorem find_TenantOf (l : List Tenant) (v : Int) (hn : l.length < n) (hs : l.length ≤ 4000) (k : c_tenant_find_Tenant.sh.El → Option β) : (c_tenant_find_Tenant.S n (l, v)).bind k = k (findS (fun x : Tenant => x.VNI == v) l) := by
  have : c_tenant_find_Tenant.S n (l, v) = some (findS (fun x : Tenant => x.VNI == v) l) := by
    show (g_tenant_find_Tenant l v).run n = _
    simp only [g_tenant_find_Tenant, G.run, tsOk, index_TenantOf l v hn hs, if_true]
    exact idxOf_neg _ _
  rw [this]; rfl
variable (hn : 5000 ≤ n) {f : Fabric} (hs : Small f)
include hn hs
theorem tenant_TenantOf (v : Int) (k : c_tenant_TenantOf.sh.El → Option β) : (c_tenant_TenantOf.S n (f, v)).bind k = k (OfS f (fun x : Tenant => x.VNI == v) f.Tenants) := by
  have hb := hs.tenants
  have : c_tenant_TenantOf.S n (f, v) = some (OfS f (fun x : Tenant => x.VNI == v) f.Tenants) := by
    show (g_tenant_TenantOf f v).run n = _
    simp only [g_tenant_TenantOf, G.run, tsOk, tenant_valid hn hs, find_TenantOf (n := n) f.Tenants v (by omega) hb, if_true, OfS]
    by_cases h : okF f = true
    · simp only [h, Bool.not_true, Bool.false_eq_true, if_false, if_true]; rfl
    · simp only [Bool.not_eq_true] at h
      simp only [h, Bool.not_false, if_true, Bool.false_eq_true, if_false]; rfl
  rw [this]; rfl
theorem ref_TenantOf (hr : Ranged f) (v : Int) (k : c_ref22_TenantOf.sh.El → Option β) : (c_ref22_TenantOf.S n (f, v)).bind k = k (OfS f (fun x : Tenant => x.VNI == v) f.Tenants) := by
  have hb := hs.tenants
  have : c_ref22_TenantOf.S n (f, v) = some (OfS f (fun x : Tenant => x.VNI == v) f.Tenants) := by
    show (g_ref22_TenantOf f v).run n = _
    simp only [g_ref22_TenantOf, G.run, tsOk, ref_valid22 hn hs hr, lenO_bind, idxO_bind, if_true]
    by_cases h : okF f = true
    · simp only [h, if_true, OfS]
      refine bind_index f.Tenants (fun x : Tenant => x.VNI == v) (by omega) (fun i x hx => ?_) ?_ ?_
      · have hi := (List.getElem?_eq_some_iff.1 hx).1
        have hlt : (i : Int) < f.Tenants.length := by omega
        simp only [at?_nat, hx, Option.bind_some, hlt, decide_true, if_true, wrap_nat (show i < 9223372036854775807 by omega)]
        split <;> rfl
      · simp; rfl
      · unfold findS; cases f.Tenants.findIdx? (fun x : Tenant => x.VNI == v) <;> rfl
    · simp only [Bool.not_eq_true] at h
      obtain ⟨m, rfl⟩ : ∃ m, n = m + 1 := ⟨n - 1, by omega⟩
      simp only [h, Bool.false_eq_true, if_false, OfS, iterO]; rfl
  rw [this]; rfl
end


section
variable {β : Type} {n : Nat} (hn : 5000 ≤ n) {f : Fabric} (hs : Small f)
include hn hs
theorem gateway_valid (k : c_gateway_valid.sh.El → Option β) : (c_gateway_valid.S n f).bind k = k (okF f) := by
  have : c_gateway_valid.S n f = some (okF f) := by
    show (g_gateway_valid f).run n = _
    simp only [g_gateway_valid, G.run, tsOk, tenant_Check n hn f hs, if_true]; rfl
  rw [this]; rfl
theorem ref_valid31 (hr : Ranged f) (k : c_ref31_valid.sh.El → Option β) : (c_ref31_valid.S n f).bind k = k (okF f) := by
  have : c_ref31_valid.S n f = some (okF f) := by
    show (g_ref31_valid f).run n = _
    simp only [g_ref31_valid, G.run, tsOk, ref_Check n hn f hs hr, if_true]; rfl
  rw [this]; rfl
end

def rmS (x : Int) : Int := if x < 0 then 0 else if x ≥ 32 then 0 else Go.IntKind.wrap .u64 ((2199023255552 : Int) + (Go.IntKind.wrap .u64 x))
def rmE (x : Int) : Int := if x < 0 then 2 else if x ≥ 32 then 2 else 0

section
variable {β : Type} {n : Nat}
theorem addr_RouterMAC (x : Int) (k : c_addr_RouterMAC.sh.El → Option β) : (c_addr_RouterMAC.S n x).bind k = k (rmS x, rmE x) := by
  have : c_addr_RouterMAC.S n x = some (rmS x, rmE x) := by
    show (g_addr_RouterMAC x).run n = _
    simp only [g_addr_RouterMAC, G.run, tsOk, rmS, rmE, decide_eq_true_eq, if_true]
    split
    · rfl
    · split <;> rfl
  rw [this]; rfl
theorem ref_router (x : Int) (k : c_ref31_router.sh.El → Option β) : (c_ref31_router.S n x).bind k = k (rmS x) := by
  have e : ∀ {γ : Type} (k : c_ref01_RouterMAC.sh.El → Option γ), (c_ref01_RouterMAC.S n x).bind k = k (rmS x, rmE x) := fun k => by
    have e : c_ref01_RouterMAC.S n x = c_addr_RouterMAC.S n x := rfl
    exact (congrArg (fun o => Option.bind o k) e).trans (addr_RouterMAC x k)
  have : c_ref31_router.S n x = some (rmS x) := by
    show (g_ref31_router x).run n = _
    simp only [g_ref31_router, G.run, tsOk, e, if_true]; rfl
  rw [this]; rfl
end

def ArrivesS (f : Fabric) (leaf : Int) (p : Packet) : Int × Bool :=
  if okF f = true then if leaf < 0 then (0, false) else if leaf ≥ f.Leaves then (0, false) else if (p.Inner.Dst != rmS leaf) = true then (0, false) else if (p.Inner.Kind != 2) = true then (0, false) else findS (fun x : Tenant => x.VNI == p.VNI) f.Tenants else (0, false)

def MineS (f : Fabric) (bd : Int) (x : Frame) : Bool := okF f && (withinB bd (f.BDs.length : Int) && (((at? f.BDs bd).map fun b => b.Gateway != 0).getD false && (x.Dst == 1577058561 && x.Kind == 2)))

section
variable {β : Type} {n : Nat} (hn : 5000 ≤ n) {f : Fabric} (hs : Small f)
include hn hs
theorem gateway_Arrives (leaf : Int) (p : Packet) (k : c_gateway_Arrives.sh.El → Option β) : (c_gateway_Arrives.S n (f, leaf, p)).bind k = k (ArrivesS f leaf p) := by
  have : c_gateway_Arrives.S n (f, leaf, p) = some (ArrivesS f leaf p) := by
    show (g_gateway_Arrives f leaf p).run n = _
    simp only [g_gateway_Arrives, G.run, tsOk, gateway_valid hn hs, addr_RouterMAC, tenant_TenantOf hn hs, if_true, ArrivesS, decide_eq_true_eq]
    by_cases h : okF f = true
    · have z := ok_sizes h
      simp only [h, Bool.not_true, Bool.false_eq_true, if_false, if_true, OfS]
      by_cases h1 : leaf < 0
      · simp only [h1, if_true]; rfl
      · by_cases h2 : leaf ≥ f.Leaves
        · simp only [h1, h2, if_true, if_false]; rfl
        · have hl := z.l2
          have he : rmE leaf = 0 := by unfold rmE; rw [if_neg h1, if_neg (by omega)]
          simp only [h1, h2, if_false, he, bne_self_eq_false, Bool.false_eq_true]
          by_cases h3 : (p.Inner.Dst != rmS leaf) = true
          · simp only [h3, if_true]; rfl
          · simp only [h3, if_false]
            by_cases h4 : (p.Inner.Kind != 2) = true
            · simp only [h4, if_true]; rfl
            · simp only [h4, if_false]; rfl
    · simp only [Bool.not_eq_true] at h
      simp only [h, Bool.not_false, if_true, Bool.false_eq_true, if_false]; rfl
  rw [this]; rfl
theorem ref_Arrives (hr : Ranged f) (leaf : Int) (p : Packet) (k : c_ref31_Arrives.sh.El → Option β) : (c_ref31_Arrives.S n (f, leaf, p)).bind k = k (ArrivesS f leaf p) := by
  have : c_ref31_Arrives.S n (f, leaf, p) = some (ArrivesS f leaf p) := by
    show (g_ref31_Arrives f leaf p).run n = _
    simp only [g_ref31_Arrives, G.run, tsOk, ref_TenantOf hn hs hr, ref_router, if_true, ArrivesS, decide_eq_true_eq]
    by_cases h : okF f = true
    · simp only [h, if_true, OfS]
      cases ht : f.Tenants.findIdx? (fun x : Tenant => x.VNI == p.VNI) with
      | none =>
        have : findS (fun x : Tenant => x.VNI == p.VNI) f.Tenants = (0, false) := by unfold findS; rw [ht]
        rw [this]
        simp only [Bool.not_false, if_true, ite_self]; rfl
      | some i =>
        have : findS (fun x : Tenant => x.VNI == p.VNI) f.Tenants = ((i : Int), true) := by unfold findS; rw [ht]
        rw [this]
        simp only [Bool.not_true, Bool.false_eq_true, if_false]
        by_cases h1 : leaf < 0
        · simp only [h1, if_true]; rfl
        · by_cases h2 : leaf ≥ f.Leaves
          · simp only [h1, h2, if_true, if_false]; rfl
          · simp only [h1, h2, if_false]
            by_cases h3 : (p.Inner.Dst != rmS leaf) = true
            · simp only [h3, if_true]; rfl
            · simp only [h3, if_false]
              by_cases h4 : (p.Inner.Kind != 2) = true
              · simp only [h4, if_true]; rfl
              · simp only [h4, if_false]; rfl
    · simp only [Bool.not_eq_true] at h
      simp only [h, OfS, Bool.not_false, if_true, Bool.false_eq_true, if_false]; rfl
  rw [this]; rfl
theorem gateway_Mine (bd : Int) (x : Frame) (k : c_gateway_Mine.sh.El → Option β) : (c_gateway_Mine.S n (f, bd, x)).bind k = k (MineS f bd x) := by
  have : c_gateway_Mine.S n (f, bd, x) = some (MineS f bd x) := by
    show (g_gateway_Mine f bd x).run n = _
    simp only [g_gateway_Mine, G.run, tsOk, gateway_valid hn hs, lenO_bind, idxO_bind, if_true, MineS]
    by_cases h : okF f = true
    · simp only [h, Bool.not_true, Bool.false_eq_true, if_false, Bool.true_and, decide_eq_true_eq]
      by_cases hw : withinB bd (f.BDs.length : Int) = true
      · obtain ⟨i, b, rfl, hi, hx, ha⟩ := at?_within _ _ hw
        have h1 : ¬ ((i : Int) < 0) := by omega
        have h2 : ¬ ((i : Int) ≥ (f.BDs.length : Int)) := by omega
        simp only [h1, h2, if_false, ha, Option.bind_some, Option.map_some, Option.getD_some, hw, Bool.true_and]
        by_cases hg : b.Gateway = 0
        · simp [hg]; rfl
        · have hg' : (b.Gateway == 0) = false := by simpa using hg
          simp only [hg', Bool.false_eq_true, if_false, bne, Bool.not_false, Bool.true_and]
          by_cases hd : (x.Dst == 1577058561) = true
          · simp only [hd, if_true, Bool.true_and]; rfl
          · simp only [Bool.not_eq_true] at hd
            simp only [hd, Bool.false_eq_true, if_false, Bool.false_and]; rfl
      · have hw' : withinB bd (f.BDs.length : Int) = false := by simpa using hw
        simp only [hw', Bool.false_and]
        simp only [withinB, Bool.and_eq_false_iff, decide_eq_false_iff_not] at hw'
        by_cases h1 : bd < 0
        · simp only [h1, if_true]; rfl
        · have h2 : bd ≥ (f.BDs.length : Int) := by omega
          simp only [h1, h2, if_false, if_true]; rfl
    · simp only [Bool.not_eq_true] at h
      simp only [h, Bool.not_false, if_true, Bool.false_and]; rfl
  rw [this]; rfl
theorem ref_Mine (hr : Ranged f) (bd : Int) (x : Frame) (k : c_ref31_Mine.sh.El → Option β) : (c_ref31_Mine.S n (f, bd, x)).bind k = k (MineS f bd x) := by
  have : c_ref31_Mine.S n (f, bd, x) = some (MineS f bd x) := by
    show (g_ref31_Mine f bd x).run n = _
    simp only [g_ref31_Mine, G.run, tsOk, ref_valid31 hn hs hr, lenO_bind, idxO_bind, if_true, MineS]
    by_cases h : okF f = true
    · simp only [h, if_true, Bool.true_and, decide_eq_true_eq]
      by_cases hw : withinB bd (f.BDs.length : Int) = true
      · obtain ⟨i, b, rfl, hi, hx, ha⟩ := at?_within _ _ hw
        have h1 : ((i : Int) ≥ 0) := by omega
        have h2 : ((i : Int) < (f.BDs.length : Int)) := by omega
        simp only [h1, h2, if_true, ha, Option.bind_some, Option.map_some, Option.getD_some, hw, Bool.true_and]
        by_cases hg : (b.Gateway != 0) = true
        · simp only [hg, if_true, Bool.true_and]
          by_cases hd : (x.Dst == 1577058561) = true
          · simp only [hd, if_true, Bool.true_and]; rfl
          · simp only [Bool.not_eq_true] at hd
            simp only [hd, Bool.false_eq_true, if_false, Bool.false_and]; rfl
        · simp only [Bool.not_eq_true] at hg
          simp only [hg, Bool.false_eq_true, if_false, Bool.false_and]; rfl
      · have hw' : withinB bd (f.BDs.length : Int) = false := by simpa using hw
        simp only [hw', Bool.false_and]
        simp only [withinB, Bool.and_eq_false_iff, decide_eq_false_iff_not] at hw'
        by_cases h1 : bd ≥ 0
        · have h2 : ¬ bd < (f.BDs.length : Int) := by omega
          simp only [h1, h2, if_false, if_true]; rfl
        · simp only [h1, if_false]; rfl
    · simp only [Bool.not_eq_true] at h
      simp only [h, Bool.false_eq_true, if_false, Bool.false_and]; rfl
  rw [this]; rfl
end

theorem awake_run : c_law31_awake.S 6000 () = some true := by
  show (g_law31_awake).run 6000 = some true
  kernel_rfl
theorem awake_b {β : Type} (k : c_law31_awake.sh.El → Option β) : (c_law31_awake.S 6000 ()).bind k = k true := by
  rw [awake_run]; rfl

/-! ### Lookup -/

def zHop : Hop := Go.L.Hop.mk (0 : Int) (Go.L.Prefix.mk (0 : Int) (0 : Int)) (0 : Int) (0 : Int) (0 : Int) (0 : Int) (0 : Int)
def stepL (t ip : Int) (b : route_found) (x : Hop) : route_found :=
  if (x.Tenant != t) = true then b else if containsS x.Prefix ip = true then if b.ok = true then if decide (x.Prefix.Len ≤ b.Hop.Prefix.Len) = true then b else ⟨x, true⟩ else ⟨x, true⟩ else b
def lookS (l : List Hop) (t ip : Int) : route_found := l.foldl (stepL t ip) ⟨zHop, false⟩

theorem take_fold {α β : Type} (g : β → α → β) (b : β) (l : List α) (j : Nat) (x : α) (h : l[j]? = some x) : (l.take (j + 1)).foldl g b = g ((l.take j).foldl g b) x := by
  have ht : l.take (j + 1) = l.take j ++ [x] := by rw [List.take_add_one, h]; rfl
  rw [ht, List.foldl_append]; rfl

section
variable {β : Type} {n : Nat}
theorem look1 (b : route_found) (x : Hop) (t ip : Int) (k : c_route_Lookup_1.sh.El → Option β) : (c_route_Lookup_1.S n (b, x, t, ip)).bind k = k (stepL t ip b x) := by
  have : c_route_Lookup_1.S n (b, x, t, ip) = some (stepL t ip b x) := by
    show (g_route_Lookup_1 b x t ip).run n = _
    simp only [g_route_Lookup_1, G.run, tsOk, addr_Contains, if_true, stepL]
    by_cases h1 : (x.Tenant != t) = true
    · simp only [h1, if_true]; rfl
    · simp only [h1, if_false]
      by_cases h2 : containsS x.Prefix ip = true
      · simp only [h2, Bool.not_true, Bool.false_eq_true, if_false, if_true]
        by_cases h3 : b.ok = true
        · simp only [h3, if_true]
          by_cases h4 : decide (x.Prefix.Len ≤ b.Hop.Prefix.Len) = true
          · simp only [h4, if_true]; rfl
          · simp only [h4, if_false]; rfl
        · simp only [h3, if_false]; rfl
      · simp only [Bool.not_eq_true] at h2
        simp only [h2, Bool.not_false, if_true, Bool.false_eq_true, if_false]; rfl
  rw [this]; rfl

theorem fold_look (l : List Hop) (t ip : Int) (hl : l.length < n) (hs : l.length ≤ 4000) (k : c_route_fold_Hop_route_found.sh.El → Option β) : (c_route_fold_Hop_route_found.S n (l, ⟨zHop, false⟩, t, ip)).bind k = k (lookS l t ip) := by
  have : c_route_fold_Hop_route_found.S n (l, ⟨zHop, false⟩, t, ip) = some (lookS l t ip) := by
    show (g_route_fold_Hop_route_found l ⟨zHop, false⟩ t ip).run n = _
    simp only [g_route_fold_Hop_route_found, G.run, tsOk, lenO_bind, idxO_bind, if_true]
    refine (congrArg (fun o => Option.bind o _) (iterO_list (fun j (s : route_found) => ((j : Int), s.Hop.Tenant, s.Hop.Prefix.IP, s.Hop.Prefix.Len, s.Hop.BD, s.Hop.Next, s.Hop.VNI, s.Hop.MAC, s.Hop.Router, s.ok)) l (fun j => (l.take j).foldl (stepL t ip) ⟨zHop, false⟩)
      ((lookS l t ip).Hop.Tenant, (lookS l t ip).Hop.Prefix.IP, (lookS l t ip).Hop.Prefix.Len, (lookS l t ip).Hop.BD, (lookS l t ip).Hop.Next, (lookS l t ip).Hop.VNI, (lookS l t ip).Hop.MAC, (lookS l t ip).Hop.Router, (lookS l t ip).ok) (fun j x hx => ?_) ?_ n hl)).trans ?_
    · have hj := (List.getElem?_eq_some_iff.1 hx).1
      have hlt : (j : Int) < (l.length : Int) := by omega
      simp only [hlt, decide_true, if_true, at?_nat, hx, Option.bind_some, wrap_nat (show j < 9223372036854775807 by omega)]
      refine (look1 ((l.take j).foldl (stepL t ip) ⟨zHop, false⟩) x t ip _).trans ?_
      rw [take_fold _ _ _ _ _ hx]; rfl
    · rw [List.take_length]
      simp only [Int.lt_irrefl, decide_false, Bool.false_eq_true, if_false]; rfl
    · rfl
  rw [this]; rfl

theorem route_Lookup (l : List Hop) (t ip : Int) (hl : l.length < n) (hs : l.length ≤ 4000) (k : c_route_Lookup.sh.El → Option β) : (c_route_Lookup.S n (l, t, ip)).bind k = k ((lookS l t ip).Hop, (lookS l t ip).ok) := by
  have : c_route_Lookup.S n (l, t, ip) = some ((lookS l t ip).Hop, (lookS l t ip).ok) := by
    show (g_route_Lookup l t ip).run n = _
    simp only [g_route_Lookup, G.run, tsOk, if_true]
    exact fold_look l t ip hl hs _
  rw [this]; rfl

theorem ref_Lookup (l : List Hop) (t ip : Int) (hl : l.length < n) (hs : l.length ≤ 4000) (k : c_ref30_Lookup.sh.El → Option β) : (c_ref30_Lookup.S n (l, t, ip)).bind k = k ((lookS l t ip).Hop, (lookS l t ip).ok) := by
  have : c_ref30_Lookup.S n (l, t, ip) = some ((lookS l t ip).Hop, (lookS l t ip).ok) := by
    show (g_ref30_Lookup l t ip).run n = _
    simp only [g_ref30_Lookup, G.run, tsOk, lenO_bind, idxO_bind, ref_Contains, if_true]
    refine (congrArg (fun o => Option.bind o _) (iterO_list (fun j (s : route_found) => (s.ok, (j : Int), s.Hop.Tenant, s.Hop.Prefix.IP, s.Hop.Prefix.Len, s.Hop.BD, s.Hop.Next, s.Hop.VNI, s.Hop.MAC, s.Hop.Router)) l (fun j => (l.take j).foldl (stepL t ip) ⟨zHop, false⟩)
      ((lookS l t ip).ok, (lookS l t ip).Hop.Tenant, (lookS l t ip).Hop.Prefix.IP, (lookS l t ip).Hop.Prefix.Len, (lookS l t ip).Hop.BD, (lookS l t ip).Hop.Next, (lookS l t ip).Hop.VNI, (lookS l t ip).Hop.MAC, (lookS l t ip).Hop.Router) (fun j x hx => ?_) ?_ n hl)).trans ?_
    · have hj := (List.getElem?_eq_some_iff.1 hx).1
      have hlt : (j : Int) < (l.length : Int) := by omega
      simp only [hlt, decide_true, if_true, at?_nat, hx, Option.bind_some, wrap_nat (show j < 9223372036854775807 by omega), take_fold _ _ _ _ _ hx]
      generalize (l.take j).foldl (stepL t ip) ⟨zHop, false⟩ = b
      unfold stepL
      by_cases h1 : (x.Tenant == t) = true
      · have h1' : (x.Tenant != t) = false := by simp only [bne, h1, Bool.not_true]
        simp only [h1, h1', Bool.false_eq_true, if_false, if_true]
        by_cases h2 : containsS x.Prefix ip = true
        · simp only [h2, if_true]
          by_cases h3 : b.ok = true
          · by_cases h4 : x.Prefix.Len ≤ b.Hop.Prefix.Len
            · have h4' : ¬ (x.Prefix.Len > b.Hop.Prefix.Len) := by omega
              simp only [h3, h4, h4', Bool.not_true, Bool.false_eq_true, if_false, decide_true, decide_false, if_true]; rfl
            · have h4' : (x.Prefix.Len > b.Hop.Prefix.Len) := by omega
              simp only [h3, h4, h4', Bool.not_true, Bool.false_eq_true, if_false, decide_true, decide_false, if_true]; rfl
          · simp only [Bool.not_eq_true] at h3
            simp only [h3, Bool.not_false, if_true, Bool.false_eq_true, if_false]; rfl
        · simp only [Bool.not_eq_true] at h2
          simp only [h2, Bool.false_eq_true, if_false]; rfl
      · simp only [Bool.not_eq_true] at h1
        have h1' : (x.Tenant != t) = true := by simp only [bne, h1, Bool.not_false]
        simp only [h1, h1', Bool.false_eq_true, if_false, if_true]; rfl
    · rw [List.take_length]
      simp only [Int.lt_irrefl, decide_false, Bool.false_eq_true, if_false]; rfl
    · rfl
  rw [this]; rfl

/-! ### Entropy -/

theorem u8_same (p : Int) : Go.IntKind.wrap .u8 (Int.fdiv (Go.IntKind.wrap .u64 p) ((2 : Int) ^ (@Min.min Nat instMinNat (Int.toNat (Go.IntKind.wrap .i64 ((8 : Int) * (Go.IntKind.wrap .i64 ((1 : Int) - (1 : Int)))))) (Go.IntKind.bits .u64)))) = Go.IntKind.wrap .u8 p := by
  have h : ∀ x : Int, Go.IntKind.wrap .u8 x = x % 256 := fun x => by simp [Go.IntKind.wrap, Go.IntKind.signed, Go.IntKind.bits]
  have e : (2 : Int) ^ (@Min.min Nat instMinNat (Int.toNat (Go.IntKind.wrap .i64 ((8 : Int) * (Go.IntKind.wrap .i64 ((1 : Int) - (1 : Int)))))) (Go.IntKind.bits .u64)) = 1 := rfl
  rw [e, Int.fdiv_one, h, h, wrap_u64]
  omega

theorem hash_eq (l : List Int) : c_ref08_Hash.S n l = c_vxlan_hash_byte.S n l := by
  show (g_ref08_Hash l).run n = (g_vxlan_hash_byte l).run n
  simp only [g_ref08_Hash, g_vxlan_hash_byte, G.run, tsOk, lenO_bind, idxO_bind, if_true]
theorem hash_some (l : List Int) (hl : l.length < n) (hs : l.length ≤ 4000) : ∃ v, c_vxlan_hash_byte.S n l = some v := by
  let g : Int → Int → Int := fun a x => (Go.IntKind.wrap .u32 ((Go.IntKind.wrap .u32 (((@BitVec.toNat (Go.IntKind.bits .u32) ((BitVec.ofInt (Go.IntKind.bits .u32) a) ^^^ (BitVec.ofInt (Go.IntKind.bits .u32) (Go.IntKind.wrap .u32 x)))) : Nat) : Int)) * (16777619 : Int)))
  refine ⟨(l.foldl g (2166136261 : Int) : Int), ?_⟩
  show (g_vxlan_hash_byte l).run n = _
  simp only [g_vxlan_hash_byte, G.run, tsOk, lenO_bind, idxO_bind, if_true]
  refine (congrArg (fun o => Option.bind o _) (iterO_list (fun j (s : Int) => (s, (j : Int))) l (fun j => (l.take j).foldl g 2166136261) (l.foldl g 2166136261) (fun j x hx => ?_) ?_ n hl)).trans ?_
  · have hj := (List.getElem?_eq_some_iff.1 hx).1
    have hlt : (j : Int) < (l.length : Int) := by omega
    simp only [hlt, decide_true, if_true, at?_nat, hx, Option.bind_some, wrap_nat (show j < 9223372036854775807 by omega), take_fold _ _ _ _ _ hx]; rfl
  · rw [List.take_length]
    simp only [Int.lt_irrefl, decide_false, Bool.false_eq_true, if_false]; rfl
  · rfl
end
end Go.L
namespace Go.L
open Go.AM
set_option maxRecDepth 100000
set_option linter.unusedSimpArgs false
set_option linter.unusedVariables false
set_option linter.unusedSectionVars false

theorem bind_find {α τ γ ST : Type} {f : ST → Option (ST ⊕ τ)} (mk : Nat → ST) (l : List α) (p : α → Bool) (hit : α → τ) (fin : τ) {k : τ → Option γ} {n : Nat} (hn : l.length < n)
    (hs : ∀ (j : Nat) x, l[j]? = some x → f (mk j) = some (if p x = true then .inr (hit x) else .inl (mk (j + 1)))) (he : f (mk l.length) = some (.inr fin)) :
    (iterO f n (mk 0)).bind k = k (match l.find? p with | some x => hit x | none => fin) := by
  rw [iterO_scan (σ := Unit) (fun j _ => mk j) (fun _ x _ => if p x = true then .inr (hit x) else .inl ()) (fun _ => fin) l (fun i x _ hx => by rw [hs i x hx]; cases p x <;> rfl) (fun _ => he) n () hn]
  have : ∀ (l : List α) (i : Nat), scan (fun _ x (_ : Unit) => if p x = true then (.inr (hit x) : Unit ⊕ τ) else .inl ()) i l () = (match l.find? p with | some x => .inr (hit x) | none => .inl ()) := by
    intro l
    induction l with
    | nil => intro i; rfl
    | cons x xs ih =>
      intro i
      simp only [scan, List.find?_cons]
      cases p x with
      | true => rfl
      | false => exact ih (i + 1)
  rw [Option.bind_some, this l 0]
  cases l.find? p <;> rfl

theorem iterO_found {α : Type} {f : Int × Bool × Int → Option ((Int × Bool × Int) ⊕ (Int × Bool))} (l : List α) (p : α → Bool) (hit : α → Int) (m : Int)
    (hs : ∀ (j : Nat) x, l[j]? = some x → f (m, false, (j : Int)) = some (.inl (if p x = true then (hit x, true, ((j + 1 : Nat) : Int)) else (m, false, ((j + 1 : Nat) : Int)))))
    (ht : ∀ a j, f (a, true, j) = some (.inr (a, true))) (he : f (m, false, (l.length : Int)) = some (.inr (m, false))) (n : Nat) (hn : l.length + 1 < n) :
    iterO f n (m, false, 0) = some (match l.find? p with | some x => (hit x, true) | none => (m, false)) := by
  have key : ∀ (k i n : Nat), i + k = l.length → k + 1 < n → iterO f n (m, false, (i : Int)) = some (match (l.drop i).find? p with | some x => (hit x, true) | none => (m, false)) := by
    intro k
    induction k with
    | zero =>
      intro i n hi hn
      obtain ⟨n, rfl⟩ : ∃ q, n = q + 1 := ⟨n - 1, by omega⟩
      have : i = l.length := by omega
      subst this
      simp only [iterO, he, List.drop_length, List.find?_nil]
    | succ k ih =>
      intro i n hi hn
      obtain ⟨n, rfl⟩ : ∃ q, n = q + 2 := ⟨n - 2, by omega⟩
      have hlt : i < l.length := by omega
      rw [List.drop_eq_getElem_cons hlt, List.find?_cons]
      cases hp : p l[i] with
      | true =>
        simp only [iterO, hs i _ (List.getElem?_eq_getElem hlt), hp, if_true, ht]
      | false =>
        rw [iterO, hs i _ (List.getElem?_eq_getElem hlt), hp]
        simp only [Bool.false_eq_true, if_false]
        exact ih (i + 1) (n + 1) (by omega) (by omega)
  have := key l.length 0 n (by omega) hn
  simpa using this

/-! ### Entropy -/
section
variable {β : Type} {n : Nat}
theorem ent_eq (x : Frame) : c_ref08_Entropy.S n x = c_vxlan_Entropy.S n x := by
  show (g_ref08_Entropy x).run n = (g_vxlan_Entropy x).run n
  simp only [g_ref08_Entropy, g_vxlan_Entropy, G.run, tsOk, hash_eq, if_true]
  have e : ∀ p : Int, Go.IntKind.wrap .u8 p = _ := fun p => (u8_same p).symm
  split
  · refine congrArg (fun L => (c_vxlan_hash_byte.S n L).bind _) ?_
    rw [e x.IP.Proto]
  · refine congrArg (fun L => (c_vxlan_hash_byte.S n L).bind _) ?_
    rw [e x.Kind]
theorem ent_some (x : Frame) (hn : 5000 ≤ n) : ∃ v, c_vxlan_Entropy.S n x = some v := by
  show ∃ v, (g_vxlan_Entropy x).run n = some v
  simp only [g_vxlan_Entropy, G.run, tsOk, if_true]
  have key : ∀ (L : List Int) (e : Int → Int), L.length ≤ 40 → ∃ v, ((c_vxlan_hash_byte.S n L).bind fun r => some (e r)) = some v := fun L e hL => by
    obtain ⟨v, hv⟩ := hash_some L (n := n) (by omega) (by omega)
    exact ⟨e v, by rw [hv]; rfl⟩
  split
  · refine key _ (fun r => (Go.IntKind.wrap .i64 ((49152 : Int) + (Go.IntKind.wrap .i64 (Int.tmod r (16384 : Int)))))) ?_
    simp only [List.length_cons, List.length_nil]; omega
  · refine key _ (fun r => (Go.IntKind.wrap .i64 ((49152 : Int) + (Go.IntKind.wrap .i64 (Int.tmod r (16384 : Int)))))) ?_
    simp only [List.length_cons, List.length_nil]; omega
noncomputable def entS (n : Nat) (x : Frame) : Int := Option.getD (α := Int) (c_vxlan_Entropy.S n x) (0 : Int)
theorem ent_b (hn : 5000 ≤ n) (x : Frame) (k : c_vxlan_Entropy.sh.El → Option β) : (c_vxlan_Entropy.S n x).bind k = k (entS n x) := by
  obtain ⟨v, hv⟩ := ent_some (n := n) x hn
  have : entS n x = v := by unfold entS; rw [hv]; rfl
  rw [hv, this]; rfl
theorem ref_ent_b (hn : 5000 ≤ n) (x : Frame) (k : c_ref08_Entropy.sh.El → Option β) : (c_ref08_Entropy.S n x).bind k = k (entS n x) :=
  (congrArg (fun o => Option.bind o k) (ent_eq x)).trans (ent_b hn x k)
end

/-! ### The gateway's own addresses, and hosts -/

def ownP (t ip : Int) (b : BD) : Bool := b.Tenant == t && (b.Gateway != 0 && b.Gateway == ip)
def ownS (f : Fabric) (t ip : Int) : Bool := f.BDs.any (ownP t ip)
def knownP (bd ip : Int) (x : Known) : Bool := x.BD == bd && x.IP == ip
def hostS (h : Hop) (l : List Known) (ip : Int) : Option Int := if (h.MAC != 0) = true then some h.MAC else (l.find? (knownP h.BD ip)).map (·.MAC)

section
variable {β : Type} {n : Nat}
theorem to_Gateway (x : gateway_routing) (hl : x.fabric.BDs.length < n) (hs : x.fabric.BDs.length ≤ 4000) (k : c_gateway_routing_toGateway.sh.El → Option β) : (c_gateway_routing_toGateway.S n x).bind k = k (ownS x.fabric x.tenant x.frame.IP.Dst, x) := by
  have : c_gateway_routing_toGateway.S n x = some (ownS x.fabric x.tenant x.frame.IP.Dst, x) := by
    show (g_gateway_routing_toGateway x).run n = _
    simp only [g_gateway_routing_toGateway, G.run, tsOk, lenO_bind, idxO_bind, if_true]
    refine (bind_any x.fabric.BDs x.fabric.BDs.length (ownP x.tenant x.frame.IP.Dst) hl (Nat.le_refl _) (fun j b hj hx => ?_) ?_).trans ?_
    · have hlt : (j : Int) < (x.fabric.BDs.length : Int) := by omega
      simp only [hlt, decide_true, if_true, at?_nat, hx, Option.bind_some, wrap_nat (show j < 9223372036854775807 by omega), ownP]
      by_cases h1 : (b.Tenant == x.tenant) = true
      · by_cases h2 : (b.Gateway != 0) = true
        · by_cases h3 : (b.Gateway == x.frame.IP.Dst) = true
          · simp only [h1, h2, h3, if_true, Bool.and_self] <;> rfl
          · simp only [h1, h2, h3, if_true, Bool.true_and, Bool.false_eq_true, if_false] <;> rfl
        · simp only [h1, h2, if_true, Bool.true_and, Bool.false_and, Bool.false_eq_true, if_false] <;> rfl
      · simp only [h1, Bool.false_and, Bool.false_eq_true, if_false] <;> rfl
    · simp only [Int.lt_irrefl, decide_false, Bool.false_eq_true, if_false] <;> rfl
    · rw [List.take_length]; unfold ownS; split <;> rename_i h <;> simp only [h] <;> rfl
  rw [this]; rfl
theorem ref_own (f : Fabric) (t ip : Int) (hl : f.BDs.length < n) (hs : f.BDs.length ≤ 4000) (k : c_ref31_own.sh.El → Option β) : (c_ref31_own.S n (f, t, ip)).bind k = k (ownS f t ip) := by
  have : c_ref31_own.S n (f, t, ip) = some (ownS f t ip) := by
    show (g_ref31_own f t ip).run n = _
    simp only [g_ref31_own, G.run, tsOk, lenO_bind, idxO_bind, if_true]
    refine (bind_any f.BDs f.BDs.length (ownP t ip) hl (Nat.le_refl _) (fun j b hj hx => ?_) ?_).trans ?_
    · have hlt : (j : Int) < (f.BDs.length : Int) := by omega
      simp only [hlt, decide_true, if_true, at?_nat, hx, Option.bind_some, wrap_nat (show j < 9223372036854775807 by omega), ownP]
      by_cases h1 : (b.Tenant == t) = true
      · by_cases h2 : (b.Gateway != 0) = true
        · by_cases h3 : (b.Gateway == ip) = true
          · simp only [h1, h2, h3, if_true, Bool.and_self] <;> rfl
          · simp only [h1, h2, h3, if_true, Bool.true_and, Bool.false_eq_true, if_false] <;> rfl
        · simp only [h1, h2, if_true, Bool.true_and, Bool.false_and, Bool.false_eq_true, if_false] <;> rfl
      · simp only [h1, Bool.false_and, Bool.false_eq_true, if_false] <;> rfl
    · simp only [Int.lt_irrefl, decide_false, Bool.false_eq_true, if_false] <;> rfl
    · rw [List.take_length]; unfold ownS; split <;> rename_i h <;> simp only [h] <;> rfl
  rw [this]; rfl

def resS (x : gateway_routing) : Bool × gateway_routing := match hostS x.hop x.tables.Known x.frame.IP.Dst with
  | some m => (true, gateway_routing.mk x.fabric x.leaf x.tenant x.tables x.frame x.tunnel x.hop m)
  | none => (false, x)
theorem resolve_b (x : gateway_routing) (hl : x.tables.Known.length < n) (hs : x.tables.Known.length ≤ 4000) (k : c_gateway_routing_resolve.sh.El → Option β) : (c_gateway_routing_resolve.S n x).bind k = k (resS x) := by
  have : c_gateway_routing_resolve.S n x = some (resS x) := by
    show (g_gateway_routing_resolve x).run n = _
    simp only [g_gateway_routing_resolve, G.run, tsOk, lenO_bind, idxO_bind, if_true, resS, hostS]
    by_cases h : (x.hop.MAC != 0) = true
    · simp only [h, if_true]; rfl
    · simp only [h, if_false]
      refine (bind_find (fun j => (j : Int)) x.tables.Known (knownP x.hop.BD x.frame.IP.Dst) (fun y => .inl y.MAC) (.inr ()) hl (fun j b hx => ?_) ?_).trans ?_
      · have hj := (List.getElem?_eq_some_iff.1 hx).1
        have hlt : (j : Int) < (x.tables.Known.length : Int) := by omega
        simp only [hlt, decide_true, if_true, at?_nat, hx, Option.bind_some, wrap_nat (show j < 9223372036854775807 by omega), knownP]
        by_cases h1 : (b.BD == x.hop.BD) = true
        · by_cases h2 : (b.IP == x.frame.IP.Dst) = true
          · simp only [h1, h2, if_true, Bool.and_self] <;> rfl
          · simp only [h1, h2, if_true, Bool.true_and, Bool.false_eq_true, if_false] <;> rfl
        · simp only [h1, Bool.false_and, Bool.false_eq_true, if_false] <;> rfl
      · simp only [Int.lt_irrefl, decide_false, Bool.false_eq_true, if_false] <;> rfl
      · cases x.tables.Known.find? (knownP x.hop.BD x.frame.IP.Dst) <;> rfl
  rw [this]; rfl

theorem aged_b (x : gateway_rewritten) (k : c_gateway_rewritten_aged.sh.El → Option β) : (c_gateway_rewritten_aged.S n x).bind k = k (gateway_rewritten.mk x.Src x.Dst x.Kind x.ARP (Head.mk x.IP.Src x.IP.Dst (Go.IntKind.wrap .i64 (x.IP.TTL - (1 : Int))) x.IP.Proto x.IP.SrcPort x.IP.DstPort) x.Data) := rfl
theorem from_b (x : gateway_rewritten) (m : Int) (k : c_gateway_rewritten_from.sh.El → Option β) : (c_gateway_rewritten_from.S n (x, m)).bind k = k (gateway_rewritten.mk m x.Dst x.Kind x.ARP x.IP x.Data) := rfl
theorem to_b (x : gateway_rewritten) (m : Int) (k : c_gateway_rewritten_to.sh.El → Option β) : (c_gateway_rewritten_to.S n (x, m)).bind k = k (gateway_rewritten.mk x.Src m x.Kind x.ARP x.IP x.Data) := rfl
theorem frame_b (x : gateway_rewritten) (k : c_gateway_rewritten_frame.sh.El → Option β) : (c_gateway_rewritten_frame.S n x).bind k = k (Frame.mk x.Src x.Dst x.Kind x.ARP x.IP x.Data) := rfl
end
end Go.L
namespace Go.L
open Go.AM
set_option maxRecDepth 100000
set_option linter.unusedSimpArgs false
set_option linter.unusedVariables false
set_option linter.unusedSectionVars false
/-! ### Loopback -/

def lbS (x : Int) : Int := if x < 0 then 0 else if x ≥ 32 then 0 else Go.IntKind.wrap .u32 ((Go.IntKind.wrap .u32 ((184483840 : Int) + (Go.IntKind.wrap .u32 x))) + (1 : Int))
def lbE (x : Int) : Int := if x < 0 then 2 else if x ≥ 32 then 2 else 0

section
variable {β : Type} {n : Nat}
theorem addr_Loopback (x : Int) (k : c_addr_Loopback.sh.El → Option β) : (c_addr_Loopback.S n x).bind k = k (lbS x, lbE x) := by
  have : c_addr_Loopback.S n x = some (lbS x, lbE x) := by
    show (g_addr_Loopback x).run n = _
    simp only [g_addr_Loopback, G.run, tsOk, lbS, lbE, decide_eq_true_eq, if_true]
    split
    · rfl
    · split <;> rfl
  rw [this]; rfl
theorem ref_Loopback01 (x : Int) (k : c_ref01_Loopback.sh.El → Option β) : (c_ref01_Loopback.S n x).bind k = k (lbS x, lbE x) := by
  have e : c_ref01_Loopback.S n x = c_addr_Loopback.S n x := rfl
  exact (congrArg (fun o => Option.bind o k) e).trans (addr_Loopback x k)
end
def LoopbackS (f : Fabric) (x : Int) : Int := if okF f = true then if withinB x (f.Leaves + f.Spines) = true then lbS x else 0 else 0

theorem wrap_ls {f : Fabric} (h : okF f = true) : Go.IntKind.wrap .i64 (f.Leaves + f.Spines) = f.Leaves + f.Spines := by
  have z := ok_sizes h
  exact wrap_i64 (by have := z.l1; have := z.s1; omega) (by have := z.ls; omega)

section
variable {β : Type} {n : Nat} (hn : 5000 ≤ n) {f : Fabric} (hs : Small f)
include hn hs
theorem ref_Loopback (hr : Ranged f) (x : Int) (k : c_ref22_Loopback.sh.El → Option β) : (c_ref22_Loopback.S n (f, x)).bind k = k (LoopbackS f x) := by
  have : c_ref22_Loopback.S n (f, x) = some (LoopbackS f x) := by
    show (g_ref22_Loopback f x).run n = _
    simp only [g_ref22_Loopback, G.run, tsOk, ref_valid22 hn hs hr, ref_within, ref_Loopback01, LoopbackS, if_true]
    by_cases h : okF f = true
    · have z := ok_sizes h
      rw [wrap_ls h, out_lt x _ (by have := z.l1; have := z.s1; omega) (by have := z.ls; omega)]
      simp only [h, Bool.not_true, Bool.false_eq_true, if_false, if_true, Bool.not_not]
      show (if (!withinB x (f.Leaves + f.Spines)) = true then some 0 else some (lbS x)) = _
      cases withinB x (f.Leaves + f.Spines) <;> rfl
    · simp only [Bool.not_eq_true] at h
      simp only [h, Bool.not_false, if_true, Bool.false_eq_true, if_false]; rfl
  rw [this]; rfl
end

def zF : Frame := Frame.mk (0 : Int) (0 : Int) (0 : Int) (ARP.mk (0 : Int) (0 : Int) (0 : Int) (0 : Int) (0 : Int)) (Head.mk (0 : Int) (0 : Int) (0 : Int) (0 : Int) (0 : Int) (0 : Int)) (0 : Int)
def zP : Packet := Packet.mk (0 : Int) (0 : Int) (0 : Int) (0 : Int) (0 : Int) (0 : Int) zF
def zR : Routed := Routed.mk (0 : Int) (0 : Int) zF zP
def agedS (x : Frame) (s d : Int) : Frame := Frame.mk s d x.Kind x.ARP (Head.mk x.IP.Src x.IP.Dst (Go.IntKind.wrap .i64 (x.IP.TTL - (1 : Int))) x.IP.Proto x.IP.SrcPort x.IP.DstPort) x.Data
noncomputable def tunnelS (n : Nat) (leaf : Int) (h : Hop) (x : Frame) : Routed :=
  Routed.mk (2 : Int) (-1 : Int) zF (Packet.mk (lbS leaf) h.Next (16 : Int) (entS n (agedS x (rmS leaf) h.Router)) h.VNI (0 : Int) (agedS x (rmS leaf) h.Router))
noncomputable def hopS (n : Nat) (leaf : Int) (t : Tables) (h : Hop) (x : Frame) (tun : Bool) : Routed :=
  if (h.BD == (-1 : Int)) = true then if tun = true then zR else tunnelS n leaf h x
  else match hostS h t.Known x.IP.Dst with
    | some m => Routed.mk (1 : Int) h.BD (agedS x (1577058561 : Int) m) zP
    | none => zR
noncomputable def RouteS (n : Nat) (f : Fabric) (leaf tenant : Int) (t : Tables) (x : Frame) (tun : Bool) : Routed :=
  if okF f = true then if leaf < 0 then zR else if leaf ≥ f.Leaves then zR else if tenant < 0 then zR else if tenant ≥ (f.Tenants.length : Int) then zR
  else if (x.Kind != (2 : Int)) = true then zR else if x.IP.TTL < 2 then zR else if ownS f tenant x.IP.Dst = true then zR
  else if (lookS t.Hops tenant x.IP.Dst).ok = true then hopS n leaf t (lookS t.Hops tenant x.IP.Dst).Hop x tun else zR else zR

theorem lb_eq {f : Fabric} (h : okF f = true) {x : Int} (h1 : ¬ x < 0) (h2 : ¬ x ≥ f.Leaves) : LoopbackS f x = lbS x := by
  have z := ok_sizes h
  have : withinB x (f.Leaves + f.Spines) = true := by
    simp only [withinB, Bool.and_eq_true, decide_eq_true_eq]
    have := z.s1; omega
  simp only [LoopbackS, h, this, if_true]

section
variable {β : Type} {n : Nat} (hn : 5000 ≤ n) {f : Fabric} (hs : Small f)
include hn hs
theorem gateway_Route (leaf tenant : Int) (t : Tables) (x : Frame) (tun : Bool) (hh : t.Hops.length ≤ 4000) (hk : t.Known.length ≤ 4000) (k : c_gateway_Route.sh.El → Option β) :
    (c_gateway_Route.S n (f, leaf, tenant, t, x, tun)).bind k = k (RouteS n f leaf tenant t x tun) := by
  have hb := hs.bds
  have : c_gateway_Route.S n (f, leaf, tenant, t, x, tun) = some (RouteS n f leaf tenant t x tun) := by
    show (g_gateway_Route f leaf tenant t x tun).run n = _
    have e1 : ∀ {γ : Type} (k : c_gateway_routing_toGateway.sh.El → Option γ), (c_gateway_routing_toGateway.S n (Go.L.gateway_routing.mk f leaf tenant t x tun zHop 0)).bind k = k (ownS f tenant x.IP.Dst, Go.L.gateway_routing.mk f leaf tenant t x tun zHop 0) := fun k =>
      to_Gateway (n := n) (Go.L.gateway_routing.mk f leaf tenant t x tun zHop 0) (by show f.BDs.length < n; omega) (by show f.BDs.length ≤ 4000; omega) k
    have e2 : ∀ {γ : Type} (k : c_route_Lookup.sh.El → Option γ), (c_route_Lookup.S n (t.Hops, tenant, x.IP.Dst)).bind k = k ((lookS t.Hops tenant x.IP.Dst).Hop, (lookS t.Hops tenant x.IP.Dst).ok) := fun k => route_Lookup t.Hops tenant x.IP.Dst (by omega) hh k
    have e3 : ∀ {γ : Type} (h : Hop) (k : c_gateway_routing_resolve.sh.El → Option γ), (c_gateway_routing_resolve.S n (Go.L.gateway_routing.mk f leaf tenant t x tun h 0)).bind k = k (resS (Go.L.gateway_routing.mk f leaf tenant t x tun h 0)) := fun h k =>
      resolve_b (n := n) (Go.L.gateway_routing.mk f leaf tenant t x tun h 0) (by show t.Known.length < n; omega) hk k
    simp only [zHop] at e1
    simp only [g_gateway_Route, G.run, tsOk, gateway_valid hn hs, lenO_bind, idxO_bind, e1, e2, e3, aged_b, from_b, to_b, frame_b, addr_Loopback, addr_RouterMAC, ent_b hn, if_true, RouteS, decide_eq_true_eq]
    by_cases h : okF f = true
    · simp only [h, Bool.not_true, Bool.false_eq_true, if_false, if_true]
      by_cases h1 : leaf < 0
      · simp only [h1, if_true]; rfl
      · simp only [h1, if_false]
        by_cases h2 : leaf ≥ f.Leaves
        · simp only [h2, if_true]; rfl
        · simp only [h2, if_false]
          by_cases h3 : tenant < 0
          · simp only [h3, if_true]; rfl
          · simp only [h3, if_false]
            by_cases h4 : tenant ≥ (f.Tenants.length : Int)
            · simp only [h4, if_true]; rfl
            · simp only [h4, if_false]
              by_cases h5 : (x.Kind != (2 : Int)) = true
              · simp only [h5, if_true]; rfl
              · simp only [h5, if_false]
                by_cases h6 : x.IP.TTL < 2
                · simp only [h6, if_true]; rfl
                · simp only [h6, if_false]
                  by_cases h7 : ownS f tenant x.IP.Dst = true
                  · simp only [h7, if_true]; rfl
                  · simp only [h7, if_false]
                    generalize lookS t.Hops tenant x.IP.Dst = r
                    by_cases h8 : r.ok = true
                    · simp only [h8, Bool.not_true, Bool.false_eq_true, if_false, if_true, hopS]
                      by_cases h9 : (r.Hop.BD == (-1 : Int)) = true
                      · have h9' : (r.Hop.BD != (-1 : Int)) = false := by simp only [bne, h9, Bool.not_true]
                        simp only [h9, h9', Bool.false_eq_true, if_false, if_true]
                        cases tun <;> rfl
                      · simp only [Bool.not_eq_true] at h9
                        have h9' : (r.Hop.BD != (-1 : Int)) = true := by simp only [bne, h9, Bool.not_false]
                        simp only [h9, h9', Bool.false_eq_true, if_false, if_true]
                        obtain hh | ⟨m, hh⟩ : hostS r.Hop t.Known x.IP.Dst = none ∨ ∃ m, hostS r.Hop t.Known x.IP.Dst = some m := by
                          cases hostS r.Hop t.Known x.IP.Dst with
                          | none => exact Or.inl rfl
                          | some m => exact Or.inr ⟨m, rfl⟩
                        · have er : resS (Go.L.gateway_routing.mk f leaf tenant t x tun r.Hop 0) = (false, Go.L.gateway_routing.mk f leaf tenant t x tun r.Hop 0) := by
                            unfold resS; simp only [hh]
                          simp only [er, hh, Bool.not_false, if_true]; rfl
                        · have er : resS (Go.L.gateway_routing.mk f leaf tenant t x tun r.Hop 0) = (true, Go.L.gateway_routing.mk f leaf tenant t x tun r.Hop m) := by
                            unfold resS; simp only [hh]
                          simp only [er, hh, h9', Bool.not_true, Bool.false_eq_true, if_false, if_true]; rfl
                    · simp only [Bool.not_eq_true] at h8
                      simp only [h8, Bool.not_false, if_true, Bool.false_eq_true, if_false]; rfl
    · simp only [Bool.not_eq_true] at h
      simp only [h, Bool.not_false, if_true, Bool.false_eq_true, if_false]; rfl
  rw [this]; rfl

theorem ref_Route (hr : Ranged f) (leaf tenant : Int) (t : Tables) (x : Frame) (tun : Bool) (hh : t.Hops.length ≤ 4000) (hk : t.Known.length ≤ 4000) (k : c_ref31_Route.sh.El → Option β) :
    (c_ref31_Route.S n (f, leaf, tenant, t, x, tun)).bind k = k (RouteS n f leaf tenant t x tun) := by
  have hb := hs.bds
  have : c_ref31_Route.S n (f, leaf, tenant, t, x, tun) = some (RouteS n f leaf tenant t x tun) := by
    show (g_ref31_Route f leaf tenant t x tun).run n = _
    have e1 : ∀ {γ : Type} (k : c_ref31_own.sh.El → Option γ), (c_ref31_own.S n (f, tenant, x.IP.Dst)).bind k = k (ownS f tenant x.IP.Dst) := fun k => ref_own f tenant x.IP.Dst (by omega) (by omega) k
    have e2 : ∀ {γ : Type} (k : c_ref30_Lookup.sh.El → Option γ), (c_ref30_Lookup.S n (t.Hops, tenant, x.IP.Dst)).bind k = k ((lookS t.Hops tenant x.IP.Dst).Hop, (lookS t.Hops tenant x.IP.Dst).ok) := fun k => ref_Lookup t.Hops tenant x.IP.Dst (by omega) hh k
    simp only [g_ref31_Route, G.run, tsOk, ref_valid31 hn hs hr, lenO_bind, idxO_bind, e1, e2, ref_Loopback hn hs hr, ref_router, ref_ent_b hn, if_true, RouteS, decide_eq_true_eq]
    by_cases h : okF f = true
    · simp only [h, Bool.not_true, Bool.false_eq_true, if_false, if_true]
      by_cases h1 : leaf < 0
      · simp only [h1, if_true]; rfl
      · simp only [h1, if_false]
        by_cases h2 : leaf ≥ f.Leaves
        · simp only [h2, if_true]; rfl
        · simp only [h2, if_false, lb_eq h h1 h2]
          by_cases h3 : tenant < 0
          · simp only [h3, if_true]; rfl
          · simp only [h3, if_false]
            by_cases h4 : tenant ≥ (f.Tenants.length : Int)
            · simp only [h4, if_true]; rfl
            · simp only [h4, if_false]
              by_cases h5 : (x.Kind != (2 : Int)) = true
              · simp only [h5, if_true]; rfl
              · simp only [h5, if_false]
                by_cases h6 : x.IP.TTL < 2
                · simp only [h6, if_true]; rfl
                · simp only [h6, if_false]
                  by_cases h7 : ownS f tenant x.IP.Dst = true
                  · simp only [h7, if_true]; rfl
                  · simp only [h7, if_false]
                    generalize lookS t.Hops tenant x.IP.Dst = r
                    by_cases h8 : r.ok = true
                    · simp only [h8, Bool.not_true, Bool.false_eq_true, if_false, if_true, hopS]
                      by_cases h9 : (r.Hop.BD == (-1 : Int)) = true
                      · simp only [h9, Bool.false_eq_true, if_false, if_true]
                        cases tun <;> rfl
                      · simp only [Bool.not_eq_true] at h9
                        simp only [h9, Bool.false_eq_true, if_false, if_true, hostS]
                        by_cases h10 : (r.Hop.MAC != 0) = true
                        · have en : ∃ m, n = m + 1 := ⟨n - 1, by omega⟩
                          obtain ⟨m, rfl⟩ := en
                          simp only [h10, iterO, Bool.not_true, Bool.false_eq_true, if_false, if_true]; rfl
                        · simp only [Bool.not_eq_true] at h10
                          simp only [h10, Bool.false_eq_true, if_false]
                          refine (congrArg (fun o => Option.bind o _) (iterO_found t.Known (knownP r.Hop.BD x.IP.Dst) (·.MAC) r.Hop.MAC (fun j b hx => ?_) (fun a j => ?_) ?_ n (by omega))).trans ?_
                          · have hj := (List.getElem?_eq_some_iff.1 hx).1
                            have hlt : (j : Int) < (t.Known.length : Int) := by omega
                            simp only [hlt, if_true, Bool.not_false, at?_nat, hx, Option.bind_some, wrap_nat (show j < 9223372036854775807 by omega), knownP]
                            by_cases g1 : (b.BD == r.Hop.BD) = true
                            · by_cases g2 : (b.IP == x.IP.Dst) = true
                              · simp only [g1, g2, if_true, Bool.and_self] <;> rfl
                              · simp only [g1, g2, if_true, Bool.true_and, Bool.false_eq_true, if_false] <;> rfl
                            · simp only [g1, Bool.false_and, Bool.false_eq_true, if_false] <;> rfl
                          · simp only [Bool.not_true, Bool.false_eq_true, if_false] <;> rfl
                          · simp only [Int.lt_irrefl, Bool.not_false, if_true, if_false] <;> rfl
                          · cases t.Known.find? (knownP r.Hop.BD x.IP.Dst) <;> rfl
                    · simp only [Bool.not_eq_true] at h8
                      simp only [h8, Bool.not_false, if_true, Bool.false_eq_true, if_false]; rfl
    · simp only [Bool.not_eq_true] at h
      simp only [h, Bool.not_false, if_true, Bool.false_eq_true, if_false]; rfl
  rw [this]; rfl
end
end Go.L
namespace Go.L
open Go.AM
set_option maxRecDepth 100000
set_option linter.unusedSimpArgs false
set_option linter.unusedVariables false
set_option linter.unusedSectionVars false

theorem any_step {α : Type} {n : Nat} (l : List α) (p : α → Bool) {f : Int → Option (Int ⊕ (Unit ⊕ Unit))} {k : Unit ⊕ Unit → Option Bool} (hn : l.length < n)
    (hf : ∀ (j : Nat) x, j < l.length → l[j]? = some x → f (j : Int) = some (if p x = true then .inr (.inl ()) else .inl ((j + 1 : Nat) : Int))) (he : f (l.length : Int) = some (.inr (.inr ())))
    (h1 : k (.inl ()) = some true) (h2 : k (.inr ()) = some true ∨ k (.inr ()) = some false) : (iterO f n 0).bind k = some true ∨ (iterO f n 0).bind k = some false := by
  rw [bind_any l l.length p hn (Nat.le_refl _) hf he, List.take_length]
  split
  · exact Or.inl h1
  · exact h2
theorem many_small (n : Nat) (t : Tables) (hn : 5000 ≤ n) : ∃ b, c_kit_ManyTables.S n t = some b ∧ (b = false → t.Hops.length ≤ 4000 ∧ t.Known.length ≤ 4000) := by
  have key : ∀ o : Option Bool, (o = some true ∨ (o = some false ∧ t.Hops.length ≤ 4000 ∧ t.Known.length ≤ 4000)) → ∃ b, o = some b ∧ (b = false → t.Hops.length ≤ 4000 ∧ t.Known.length ≤ 4000) := by
    intro o h
    rcases h with h | ⟨h, hs⟩
    · exact ⟨true, h, by intro h; cases h⟩
    · exact ⟨false, h, fun _ => hs⟩
  apply key
  show (g_kit_ManyTables t).run n = some true ∨ ((g_kit_ManyTables t).run n = some false ∧ _)
  simp only [g_kit_ManyTables, G.run, tsOk, lenO_bind, idxO_bind, gt_iff_lt, if_true]
  by_cases h1 : decide ((60 : Int) < (t.Far.length : Int)) = true
  · left; rw [if_pos h1]; rfl
  by_cases h2 : decide ((60 : Int) < (t.Known.length : Int)) = true
  · left; rw [if_neg h1, if_pos h2]; rfl
  by_cases h3 : decide ((60 : Int) < (t.Flood.length : Int)) = true
  · left; rw [if_neg h1, if_neg h2, if_pos h3]; rfl
  by_cases h4 : decide ((60 : Int) < (t.Forwarders.length : Int)) = true
  · left; rw [if_neg h1, if_neg h2, if_neg h3, if_pos h4]; rfl
  by_cases h5 : decide ((60 : Int) < (t.Sharing.length : Int)) = true
  · left; rw [if_neg h1, if_neg h2, if_neg h3, if_neg h4, if_pos h5]; rfl
  by_cases h6 : decide ((60 : Int) < (t.Hops.length : Int)) = true
  · left; rw [if_neg h1, if_neg h2, if_neg h3, if_neg h4, if_neg h5, if_pos h6]; rfl
  rw [if_neg h1, if_neg h2, if_neg h3, if_neg h4, if_neg h5, if_neg h6]
  simp only [decide_eq_true_eq] at h1 h2 h3 h4 h5 h6
  refine (fun h => h.elim Or.inl fun h => Or.inr ⟨h, by omega, by omega⟩ : ∀ {o : Option Bool}, (o = some true ∨ o = some false) → o = some true ∨ (o = some false ∧ _)) ?_
  refine any_step t.Far (fun y => decide ((20 : Int) < (y.Next.length : Int))) (by omega) (fun j y hj hy => ?_) ?_ rfl ?_
  · have hlt : (j : Int) < (t.Far.length : Int) := by omega
    simp only [hlt, decide_true, if_true, at?_nat, hy, Option.bind_some, wrap_nat (show j < 9223372036854775807 by omega)]
    cases decide ((20 : Int) < (y.Next.length : Int)) <;> rfl
  · simp only [Int.lt_irrefl, decide_false, Bool.false_eq_true, if_false] <;> rfl
  refine any_step t.Flood (fun y => decide ((20 : Int) < (y.Peers.length : Int))) (by omega) (fun j y hj hy => ?_) ?_ rfl ?_
  · have hlt : (j : Int) < (t.Flood.length : Int) := by omega
    simp only [G.run, tsOk, lenO_bind, idxO_bind, gt_iff_lt, hlt, decide_true, if_true, at?_nat, hy, Option.bind_some, wrap_nat (show j < 9223372036854775807 by omega)]
    cases decide ((20 : Int) < (y.Peers.length : Int)) <;> rfl
  · simp only [G.run, tsOk, lenO_bind, idxO_bind, Int.lt_irrefl, decide_false, Bool.false_eq_true, if_false] <;> rfl
  refine any_step t.Sharing (fun y => decide ((20 : Int) < (y.Members.length : Int)) || decide ((20 : Int) < (y.Labels.length : Int))) (by omega) (fun j y hj hy => ?_) ?_ rfl (Or.inr rfl)
  · have hlt : (j : Int) < (t.Sharing.length : Int) := by omega
    simp only [G.run, tsOk, lenO_bind, idxO_bind, gt_iff_lt, hlt, decide_true, if_true, at?_nat, hy, Option.bind_some, wrap_nat (show j < 9223372036854775807 by omega)]
    cases decide ((20 : Int) < (y.Members.length : Int)) <;> cases decide ((20 : Int) < (y.Labels.length : Int)) <;> rfl
  · simp only [G.run, tsOk, lenO_bind, idxO_bind, Int.lt_irrefl, decide_false, Bool.false_eq_true, if_false] <;> rfl

theorem routes_run (f : Fabric) (hr : Ranged f) (leaf tenant : Int) (t : Tables) (x : Frame) (tun : Bool) : (g_law31_GatewayRoutes f leaf tenant t x tun).run 6000 = some true := by
  obtain ⟨b, hv, hs⟩ := vast_small 6000 f (by decide)
  have vast_b : ∀ {β : Type} (k : c_kit_Vast.sh.El → Option β), (c_kit_Vast.S 6000 f).bind k = k b := fun k => by rw [hv]; rfl
  obtain ⟨c, hw, ht⟩ := many_small 6000 t (by decide)
  have many_b : ∀ {β : Type} (k : c_kit_ManyTables.sh.El → Option β), (c_kit_ManyTables.S 6000 t).bind k = k c := fun k => by rw [hw]; rfl
  simp only [g_law31_GatewayRoutes, G.run, tsOk, vast_b, many_b]
  cases b with
  | true =>
    simp only [if_true, awake_b]; rfl
  | false =>
    have hs := hs rfl
    have hn : 5000 ≤ 6000 := by decide
    cases c with
    | true =>
      simp only [Bool.false_eq_true, if_false, if_true, awake_b]; rfl
    | false =>
      obtain ⟨hh, hk⟩ := ht rfl
      have e1 : ∀ {γ : Type} (k : c_gateway_Route.sh.El → Option γ), (c_gateway_Route.S 6000 (f, leaf, tenant, t, x, tun)).bind k = k (RouteS 6000 f leaf tenant t x tun) := fun k => gateway_Route hn hs leaf tenant t x tun hh hk k
      have e2 : ∀ {γ : Type} (k : c_ref31_Route.sh.El → Option γ), (c_ref31_Route.S 6000 (f, leaf, tenant, t, x, tun)).bind k = k (RouteS 6000 f leaf tenant t x tun) := fun k => ref_Route hn hs hr leaf tenant t x tun hh hk k
      simp only [Bool.false_eq_true, if_false, e1, e2, beq_self_eq_true, Bool.and_self, if_true, awake_b]
      rfl
end Go.L
namespace Go.L
open Go.AM
set_option linter.unusedVariables false
theorem wf_u32 {x : Int} (h : (Go.Lit.int .u32 x).wf = true) : 0 ≤ x ∧ x ≤ 4294967295 := by
  simp [Go.Lit.wf, Go.IntKind.min, Go.IntKind.max, Go.IntKind.signed, Go.IntKind.bits] at h
  omega
theorem ranged_ok {f : Fabric} (h : okFabric f) : Ranged f :=
  ⟨fun b hb => wf_u32 (h.2.2.2.2.1 b hb).2.2.2.1.1, fun x hx => wf_u32 (h.2.2.2.2.2.2.1 x hx).2.1⟩
theorem law_gatewayRoutes (f : Fabric) (leaf tenant : Int) (t : Tables) (x : Frame) (tun : Bool) (h : okFabric f) (h1 : (Go.Lit.int .i64 leaf).wf = true) (h2 : (Go.Lit.int .i64 tenant).wf = true) (h3 : okTables t) (h4 : okFrame x) (h5 : True) :
    FnVal prog 7 [.agg (eFabric f), .sc (.int .i64 leaf), .sc (.int .i64 tenant), .agg (eTables t), .agg (eFrame x), .sc (.bool tun)] (.ret (.sc (.bool true))) :=
  c_law31_GatewayRoutes.ok 6000 (f, leaf, tenant, t, x, tun) true (routes_run f (ranged_ok h) leaf tenant t x tun)
end Go.L
namespace Go.Proofs.YtomlhceogkfnlaaGreat.gatewayRoutes
open Go.ChangeShapes Go.WideShapes Go.ChangeAt Go.RowKit Go.AM Go.L
set_option linter.unusedVariables false

theorem own : ownKnob Tryz.prog.godebug = none := by kernel_rfl
theorem slices : ((List.range Tryz.prog.types.size).all fun t => match Tryz.prog.underlying t with | some (.slice e) => decide (0 < Tryz.prog.cellsOf e) | _ => true) = true := by kernel_rfl
theorem maps : mapsRowed Tryz.prog = true := by kernel_rfl
theorem inTable : (Tryz.f7.params.toList.all fun t => Nat.ble (t + 1) Tryz.prog.types.size) = true := by kernel_rfl
set_option maxRecDepth 100000 in
theorem contract (H : Type) (enc : TypeId × Value → H) (W : World) (base : Nat) (args : Array Value) (ds gs : List (DataW H)) (before : List MemPlace)
    (hval : ∀ (j : Nat) t v, Tryz.f7.params[j]? = some t → args[j]? = some v → Value.okWide Tryz.prog W .any base t v)
    (hW : DataW.Whole enc Tryz.prog Tryz.f7.params.toList Rows.gatewayRoutesSpec.vars false W args.toList ds gs before) :
    Calls Tryz.prog 7 args W fun e W' => ∃ v, e = .returned v ∧ Rows.gatewayRoutesSpec.post enc Tryz.prog Tryz.f7 false true false false W args v W' := by
  have hW' := hW
  have hlt := hW.lt
  obtain ⟨p, q, hA0, hV, rfl, hfz, hnd⟩ := hW
  have hA : DataW.TrodAll enc Tryz.prog W 0 (fun _ => true) true Tryz.f7.params.toList args.toList ds p := hA0
  clear hA0
  have hAll := hA
  rw [Tryz.params7] at hA hval
  obtain ⟨v0, r0, d0, e0, p0, q0, hv0, hd0, hp0, t0, hA⟩ := trodAll_cons hA
  obtain ⟨v1, r1, d1, e1, p1, q1, hv1, hd1, hp1, t1, hA⟩ := trodAll_cons hA
  obtain ⟨v2, r2, d2, e2, p2, q2, hv2, hd2, hp2, t2, hA⟩ := trodAll_cons hA
  obtain ⟨v3, r3, d3, e3, p3, q3, hv3, hd3, hp3, t3, hA⟩ := trodAll_cons hA
  obtain ⟨v4, r4, d4, e4, p4, q4, hv4, hd4, hp4, t4, hA⟩ := trodAll_cons hA
  obtain ⟨v5, r5, d5, e5, p5, q5, hv5, hd5, hp5, t5, hA⟩ := trodAll_cons hA
  obtain ⟨hr, hd, hq⟩ := trodAll_nil hA
  obtain rfl : args = #[v0, v1, v2, v3, v4, v5] := by apply Array.ext'; simp only [hv0, hv1, hv2, hv3, hv4, hv5, hr]
  obtain rfl : ds = [d0, d1, d2, d3, d4, d5] := by simp only [hd0, hd1, hd2, hd3, hd4, hd5, hd]
  obtain ⟨rfl, rfl⟩ := trodVars_none hV
  simp only [List.append_nil] at hW' hlt
  obtain ⟨a0, ok0, ra0⟩ := Rdb.agg rdFabric Tryz.underlying31 (hval 0 _ _ rfl rfl) t0
  obtain ⟨a1, ok1, ra1⟩ := Rdb.cell (c := (cI .i64)) (Rdb.int Tryz.underlying3 (by kernel_rfl)) (by kernel_rfl) (hval 1 _ _ rfl rfl) t1
  obtain ⟨a2, ok2, ra2⟩ := Rdb.cell (c := (cI .i64)) (Rdb.int Tryz.underlying3 (by kernel_rfl)) (by kernel_rfl) (hval 2 _ _ rfl rfl) t2
  obtain ⟨a3, ok3, ra3⟩ := Rdb.agg rdTables Tryz.underlying78 (hval 3 _ _ rfl rfl) t3
  obtain ⟨a4, ok4, ra4⟩ := Rdb.agg rdFrame Tryz.underlying85 (hval 4 _ _ rfl rfl) t4
  obtain ⟨a5, ok5, ra5⟩ := Rdb.cell (c := cB) (Rdb.bool Tryz.underlying4 (by kernel_rfl)) (by kernel_rfl) (hval 5 _ _ rfl rfl) t5
  refine (law_top (law_gatewayRoutes a0 a1 a2 a3 a4 a5 ok0 ok1 ok2 ok3 ok4 ok5) W (fun _ _ h => by cases h) _ ⟨_, _, rfl, ra0, ⟨_, _, rfl, ra1, ⟨_, _, rfl, ra2, ⟨_, _, rfl, ra3, ⟨_, _, rfl, ra4, ⟨_, _, rfl, ra5, rfl⟩⟩⟩⟩⟩⟩).mono fun e W' ⟨he, hg⟩ => ?_
  subst he
  exact ⟨_, rfl, post_of_below (pa := p) (pv := []) hW' (fun _ _ _ => (trodAll_cons_mk (shut_bool Tryz.underlying4 _) trodAll_mk0))
    (fun sp hsp => trodAll_kept laid maps (slices_full_of _ slices) hg (fun t ht => Nat.le_of_ble_eq_true (List.all_eq_true.1 inTable t ht)) hAll hlt hsp) (fun _ _ => rfl) (by simp)
    hg (ok_one (by kernel_rfl) rfl (okWide_bool_mk Tryz.underlying4 _))⟩

set_option maxRecDepth 100000 in
theorem lifted (os : Os) (started : os.Started) (H : Type) (enc : TypeId × Value → H) :
    ReturnsInHanded {} Tryz.checked os 7 .any (Rows.gatewayRoutesSpec.pre6 enc Tryz.prog Tryz.f7 Rows.gatewayRoutesRow.domain false) (Rows.gatewayRoutesSpec.post enc Tryz.prog Tryz.f7 false true false false) := by
  refine returnsInHanded_of_change (C := Tryz.checked) (s := Rows.gatewayRoutesSpec) own started (by kernel_rfl) Tryz.func7
    (ChangeSpec.witness6 (enc := enc) (C := Tryz.checked) (s := Rows.gatewayRoutesSpec) false ⟨#[], #[.agg #[.int .i64 0, .int .i64 0, .slice none 0 0, .slice none 0 0, .slice none 0 0, .slice none 0 0, .slice none 0 0, .slice none 0 0, .int .i64 0, .int .i64 0, .int .i64 0, .bool false, .bool false, .int .i64 0, .int .i64 0, .int .i64 0, .int .i64 0, .int .i64 0, .int .i64 0], .int .i64 0, .int .i64 0, .agg #[.slice none 0 0, .slice none 0 0, .slice none 0 0, .slice none 0 0, .slice none 0 0, .slice none 0 0], .agg #[.int .u64 0, .int .u64 0, .int .i64 0, .int .i64 0, .int .u64 0, .int .u32 0, .int .u64 0, .int .u32 0, .int .u32 0, .int .u32 0, .int .i64 0, .int .i64 0, .int .i64 0, .int .i64 0, .int .u64 0], .bool false], []⟩ 8 (by kernel_rfl) (by kernel_rfl) (by kernel_rfl) (by kernel_rfl) (by kernel_rfl)) ?_
  intro W base args ds gs before hval hW _ _
  exact contract H enc W base args ds gs before hval hW

theorem proved : Rows.GatewayRoutesSaid :=
  OpenClaim.holds_of_wide 7 Tryz.f7 rfl rfl rfl rfl rfl rfl rfl ⟨rfl, rfl, rfl, rfl, rfl⟩ rfl rfl rfl rfl rfl (by kernel_rfl) Tryz.func7 (by kernel_rfl)
    (of_decide_eq_true (by kernel_rfl)) (by unfold Func.isWrapper; first | (rw [if_pos (by decide +kernel)]; kernel_rfl) | (rw [if_neg (by decide +kernel)]; exact ⟨rfl, rfl⟩))
    (fun os started H enc _ => lifted os started H enc)
end Go.Proofs.YtomlhceogkfnlaaGreat.gatewayRoutes
