/- GatewayApart: a tenant without hops routes nothing, in any fabric that numbers select. No conditions. -/
import Derived.Test.YtomlhceogkfnlaaWp
import Derived.Test.YtomlhceogkfnlaaLb
import Derived.Test.YtomlhceogkfnlaaRe
import Derived.Test.YtomlhceogkfnlaaAmPl
import Derived.Test.YtomlhceogkfnlaaRows
import Derived.Deep.DeepHandedRow
/- GatewayKeeps: what a gateway changes in a frame that it routes. No conditions. -/
namespace Go.L
open Go.AM
set_option maxRecDepth 100000
set_option linter.unusedSimpArgs false
set_option linter.unusedVariables false
set_option linter.unusedSectionVars false

theorem firstErr_ne {α : Type} {E : Nat → α → Int} : ∀ (l : List α) (i : Nat) (e : Int) (j : Nat), firstErr E i l = some (e, j) → e ≠ 0
  | [], _, _, _, h => by simp [firstErr] at h
  | x :: xs, i, e, j, h => by
    simp only [firstErr] at h
    split at h
    · rename_i hne
      simp only [Option.some.injEq, Prod.mk.injEq] at h
      obtain ⟨rfl, _⟩ := h
      exact hne
    · exact firstErr_ne xs (i + 1) e j h

theorem outcome_ne {α : Type} {E : Nat → α → Int} {p : ByteArray} {m : Int} {b : Bool} {l : List α} {i : Nat} {t : Int × ByteArray × Int} (h : outcome p m b (firstErr E i l) = .inr t) : t.1 ≠ 0 := by
  unfold outcome at h
  split at h
  · simp only [Sum.inr.injEq] at h; subst h; simp
  · split at h
    · cases h
    · rename_i e j he
      simp only [Sum.inr.injEq] at h
      subst h
      exact firstErr_ne _ _ _ _ he

theorem thenR_ok {a : Res} {b : Int × ByteArray × Int} (ha : ∀ t, a = .inr t → t.1 ≠ 0) (h : (thenR a b).1 = 0) : a = .inl () ∧ b.1 = 0 := by
  cases a with
  | inl u => exact ⟨rfl, h⟩
  | inr t => exact absurd h (ha t rfl)

def okF (f : Fabric) : Bool := (checkS f).1 == 0

structure Parts (f : Fabric) : Prop where
  fabric : oFabric f = .inl ()
  timers : oTimers f = .inl ()
  links : oLinks f = .inl ()
  tenants : oTenants f = .inl ()
  domains : oDomains f = .inl ()
  segments : oSegments f = .inl ()
  hosts : oHosts f = .inl ()
  leaks : oLeaks f = .inl ()

theorem ok_parts {f : Fabric} (h : okF f = true) : Parts f := by
  simp only [okF, beq_iff_eq, checkS] at h
  have n1 : ∀ t, oFabric f = .inr t → t.1 ≠ 0 := by
    intro t ht; unfold oFabric at ht; split at ht
    · simp only [Sum.inr.injEq] at ht; subst ht; simp
    · cases ht
  have n2 : ∀ t, oTimers f = .inr t → t.1 ≠ 0 := by
    intro t ht; unfold oTimers at ht; split at ht
    · simp only [Sum.inr.injEq] at ht; subst ht; simp
    · cases ht
  obtain ⟨p1, h⟩ := thenR_ok n1 h
  obtain ⟨p2, h⟩ := thenR_ok n2 h
  obtain ⟨p3, h⟩ := thenR_ok (fun t ht => outcome_ne ht) h
  obtain ⟨p4, h⟩ := thenR_ok (fun t ht => outcome_ne ht) h
  obtain ⟨p5, h⟩ := thenR_ok (fun t ht => outcome_ne ht) h
  obtain ⟨p6, h⟩ := thenR_ok (fun t ht => outcome_ne ht) h
  obtain ⟨p7, h⟩ := thenR_ok (fun t ht => outcome_ne ht) h
  obtain ⟨p8, h⟩ := thenR_ok (fun t ht => outcome_ne ht) h
  exact ⟨p1, p2, p3, p4, p5, p6, p7, p8⟩

structure Sizes (f : Fabric) : Prop where
  l1 : 1 ≤ f.Leaves
  l2 : f.Leaves ≤ 32
  s1 : 0 ≤ f.Spines
  s2 : f.Spines ≤ 32
  ls : f.Leaves + f.Spines ≤ 32
  tenants : f.Tenants.length ≤ 16
  bds : f.BDs.length ≤ 32
  segments : f.Segments.length ≤ 64
  leaves : ∀ s ∈ f.Segments, ∀ x ∈ s.Leaves, 0 ≤ x ∧ x < f.Leaves
  horizon : 0 ≤ f.Horizon ∧ f.Horizon ≤ 1

theorem ok_sizes {f : Fabric} (h : okF f = true) : Sizes f := by
  have p := ok_parts h
  have hf := p.fabric
  unfold oFabric at hf
  split at hf
  · cases hf
  · rename_i hb
    simp only [badFabric, out, Bool.not_eq_true, Bool.or_eq_false_iff, decide_eq_false_iff_not] at hb
    have hw : Go.IntKind.wrap .i64 (f.Leaves + f.Spines) = f.Leaves + f.Spines := wrap_i64 (by omega) (by omega)
    rw [hw] at hb
    have t := (outcome_ok p.tenants).1
    have d := (outcome_ok p.domains).1
    have s := (outcome_ok p.segments).1
    simp only [decide_eq_false_iff_not] at t d s
    refine ⟨by omega, by omega, by omega, by omega, by omega, by omega, by omega, by omega, fun x hx y hy => ?_, by omega⟩
    have e := (outcome_ok p.segments).2
    rw [firstErr_none] at e
    obtain ⟨i, hi⟩ := List.getElem?_of_mem hx
    have := e i x hi
    simp only [Nat.zero_add] at this
    cases ha : (x.Leaves.any fun n => !(decide (0 ≤ n) && decide (n < f.Leaves))) with
    | true =>
      unfold segE at this
      rw [ha] at this
      simp only [if_true] at this
      repeat' split at this
      all_goals cases this
    | false =>
      rw [List.any_eq_false] at ha
      have := ha y hy
      simpa using this

section
variable {β : Type} {n : Nat} (hn : 5000 ≤ n) {f : Fabric} (hs : Small f)
include hn hs
theorem tenant_valid (k : c_tenant_valid.sh.El → Option β) : (c_tenant_valid.S n f).bind k = k (okF f) := by
  have : c_tenant_valid.S n f = some (okF f) := by
    show (g_tenant_valid f).run n = _
    simp only [g_tenant_valid, G.run, tsOk, tenant_Check n hn f hs, if_true]; rfl
  rw [this]; rfl
end
def withinB (x m : Int) : Bool := decide (0 ≤ x) && decide (x < m)

theorem at?_within {α : Type} (l : List α) (s : Int) (h : withinB s (l.length : Int) = true) : ∃ i : Nat, ∃ x, s = (i : Int) ∧ i < l.length ∧ l[i]? = some x ∧ at? l s = some x := by
  simp only [withinB, Bool.and_eq_true, decide_eq_true_eq] at h
  obtain ⟨i, rfl⟩ : ∃ i : Nat, s = (i : Int) := ⟨s.toNat, by omega⟩
  have hi : i < l.length := by omega
  exact ⟨i, l[i], rfl, hi, List.getElem?_eq_getElem hi, by rw [at?_nat]; exact List.getElem?_eq_getElem hi⟩


theorem wrap_u64 (x : Int) : Go.IntKind.wrap .u64 x = x % 18446744073709551616 := by
  simp [Go.IntKind.wrap, Go.IntKind.signed, Go.IntKind.bits]
theorem wrap_u64_id {x : Int} (h0 : 0 ≤ x) (h1 : x < 18446744073709551616) : Go.IntKind.wrap .u64 x = x := by rw [wrap_u64]; omega

def findS {α : Type} (p : α → Bool) (l : List α) : Int × Bool := match l.findIdx? p with
  | some i => ((i : Int), true)
  | none => (0, false)

theorem idxOf_neg {α : Type} (p : α → Bool) (l : List α) : (if decide (idxOf p l < 0) = true then some ((0 : Int), false) else some (idxOf p l, true)) = some (findS p l) := by
  unfold idxOf findS
  cases l.findIdx? p with
  | none => rfl
  | some i => simp

def OfS {α : Type} (f : Fabric) (p : α → Bool) (l : List α) : Int × Bool := if okF f = true then findS p l else (0, false)

section
variable {β : Type} {n : Nat}
theorem TenantOf_b (x : Tenant) (v : Int) (k : c_tenant_TenantOf_1.sh.El → Option β) : (c_tenant_TenantOf_1.S n (x, v)).bind k = k (x.VNI == v) := rfl
theorem index_TenantOf (l : List Tenant) (v : Int) (hn : l.length < n) (hs : l.length ≤ 4000) (k : c_slices_IndexFunc_Tenant_Tenant_3.sh.El → Option β) : (c_slices_IndexFunc_Tenant_Tenant_3.S n (l, v)).bind k = k (idxOf (fun x : Tenant => x.VNI == v) l) := by
  have : c_slices_IndexFunc_Tenant_Tenant_3.S n (l, v) = some (idxOf (fun x : Tenant => x.VNI == v) l) := by
    show (g_slices_IndexFunc_Tenant_Tenant_3 l v).run n = _
    simp only [g_slices_IndexFunc_Tenant_Tenant_3, G.run, tsOk, lenO_bind, idxO_bind, if_true, TenantOf_b]
    refine bind_index l (fun x : Tenant => x.VNI == v) hn (fun i x hx => ?_) ?_ ?_
    · have hi := (List.getElem?_eq_some_iff.1 hx).1
      have hlt : (i : Int) < l.length := by omega
      simp only [at?_nat, hx, Option.bind_some, hlt, decide_true, if_true, wrap_nat (show i < 9223372036854775807 by omega)]
      split <;> rfl
    · simp; rfl
    · unfold idxOf; cases l.findIdx? (fun x : Tenant => x.VNI == v) <;> rfl
  rw [this]; rfl
theorem find_TenantOf (l : List Tenant) (v : Int) (hn : l.length < n) (hs : l.length ≤ 4000) (k : c_tenant_find_Tenant.sh.El → Option β) : (c_tenant_find_Tenant.S n (l, v)).bind k = k (findS (fun x : Tenant => x.VNI == v) l) := by
  have : c_tenant_find_Tenant.S n (l, v) = some (findS (fun x : Tenant => x.VNI == v) l) := by
    show (g_tenant_find_Tenant l v).run n = _
    simp only [g_tenant_find_Tenant, G.run, tsOk, index_TenantOf l v hn hs, if_true]
    exact idxOf_neg _ _
  rw [this]; rfl
variable (hn : 5000 ≤ n) {f : Fabric} (hs : Small f)
include hn hs
theorem tenant_TenantOf (v : Int) (k : c_tenant_TenantOf.sh.El → Option β) : (c_tenant_TenantOf.S n (f, v)).bind k = k (OfS f (fun x : Tenant => x.VNI == v) f.Tenants) := by
  have hb := hs.tenants
  have : c_tenant_TenantOf.S n (f, v) = some (OfS f (fun x : Tenant => x.VNI == v) f.Tenants) := by
    show (g_tenant_TenantOf f v).run n = _
    simp only [g_tenant_TenantOf, G.run, tsOk, tenant_valid hn hs, find_TenantOf (n := n) f.Tenants v (by omega) hb, if_true, OfS]
    by_cases h : okF f = true
    · simp only [h, Bool.not_true, Bool.false_eq_true, if_false, if_true]; rfl
    · simp only [Bool.not_eq_true] at h
      simp only [h, Bool.not_false, if_true, Bool.false_eq_true, if_false]; rfl
  rw [this]; rfl
end


section
variable {β : Type} {n : Nat} (hn : 5000 ≤ n) {f : Fabric} (hs : Small f)
include hn hs
theorem gateway_valid (k : c_gateway_valid.sh.El → Option β) : (c_gateway_valid.S n f).bind k = k (okF f) := by
  have : c_gateway_valid.S n f = some (okF f) := by
    show (g_gateway_valid f).run n = _
    simp only [g_gateway_valid, G.run, tsOk, tenant_Check n hn f hs, if_true]; rfl
  rw [this]; rfl
end

def rmS (x : Int) : Int := if x < 0 then 0 else if x ≥ 32 then 0 else Go.IntKind.wrap .u64 ((2199023255552 : Int) + (Go.IntKind.wrap .u64 x))
def rmE (x : Int) : Int := if x < 0 then 2 else if x ≥ 32 then 2 else 0

section
variable {β : Type} {n : Nat}
theorem addr_RouterMAC (x : Int) (k : c_addr_RouterMAC.sh.El → Option β) : (c_addr_RouterMAC.S n x).bind k = k (rmS x, rmE x) := by
  have : c_addr_RouterMAC.S n x = some (rmS x, rmE x) := by
    show (g_addr_RouterMAC x).run n = _
    simp only [g_addr_RouterMAC, G.run, tsOk, rmS, rmE, decide_eq_true_eq, if_true]
    split
    · rfl
    · split <;> rfl
  rw [this]; rfl
end

def ArrivesS (f : Fabric) (leaf : Int) (p : Packet) : Int × Bool :=
  if okF f = true then if leaf < 0 then (0, false) else if leaf ≥ f.Leaves then (0, false) else if (p.Inner.Dst != rmS leaf) = true then (0, false) else if (p.Inner.Kind != 2) = true then (0, false) else findS (fun x : Tenant => x.VNI == p.VNI) f.Tenants else (0, false)

section
variable {β : Type} {n : Nat} (hn : 5000 ≤ n) {f : Fabric} (hs : Small f)
include hn hs
theorem gateway_Arrives (leaf : Int) (p : Packet) (k : c_gateway_Arrives.sh.El → Option β) : (c_gateway_Arrives.S n (f, leaf, p)).bind k = k (ArrivesS f leaf p) := by
  have : c_gateway_Arrives.S n (f, leaf, p) = some (ArrivesS f leaf p) := by
    show (g_gateway_Arrives f leaf p).run n = _
    simp only [g_gateway_Arrives, G.run, tsOk, gateway_valid hn hs, addr_RouterMAC, tenant_TenantOf hn hs, if_true, ArrivesS, decide_eq_true_eq]
    by_cases h : okF f = true
    · have z := ok_sizes h
      simp only [h, Bool.not_true, Bool.false_eq_true, if_false, if_true, OfS]
      by_cases h1 : leaf < 0
      · simp only [h1, if_true]; rfl
      · by_cases h2 : leaf ≥ f.Leaves
        · simp only [h1, h2, if_true, if_false]; rfl
        · have hl := z.l2
          have he : rmE leaf = 0 := by unfold rmE; rw [if_neg h1, if_neg (by omega)]
          simp only [h1, h2, if_false, he, bne_self_eq_false, Bool.false_eq_true]
          by_cases h3 : (p.Inner.Dst != rmS leaf) = true
          · simp only [h3, if_true]; rfl
          · simp only [h3, if_false]
            by_cases h4 : (p.Inner.Kind != 2) = true
            · simp only [h4, if_true]; rfl
            · simp only [h4, if_false]; rfl
    · simp only [Bool.not_eq_true] at h
      simp only [h, Bool.not_false, if_true, Bool.false_eq_true, if_false]; rfl
  rw [this]; rfl
end

/-! ### Lookup -/

def zHop : Hop := Go.L.Hop.mk (0 : Int) (Go.L.Prefix.mk (0 : Int) (0 : Int)) (0 : Int) (0 : Int) (0 : Int) (0 : Int) (0 : Int)
def stepL (t ip : Int) (b : route_found) (x : Hop) : route_found :=
  if (x.Tenant != t) = true then b else if containsS x.Prefix ip = true then if b.ok = true then if decide (x.Prefix.Len ≤ b.Hop.Prefix.Len) = true then b else ⟨x, true⟩ else ⟨x, true⟩ else b
def lookS (l : List Hop) (t ip : Int) : route_found := l.foldl (stepL t ip) ⟨zHop, false⟩

theorem take_fold {α β : Type} (g : β → α → β) (b : β) (l : List α) (j : Nat) (x : α) (h : l[j]? = some x) : (l.take (j + 1)).foldl g b = g ((l.take j).foldl g b) x := by
  have ht : l.take (j + 1) = l.take j ++ [x] := by rw [List.take_add_one, h]; rfl
  rw [ht, List.foldl_append]; rfl

section
variable {β : Type} {n : Nat}
theorem look1 (b : route_found) (x : Hop) (t ip : Int) (k : c_route_Lookup_1.sh.El → Option β) : (c_route_Lookup_1.S n (b, x, t, ip)).bind k = k (stepL t ip b x) := by
  have : c_route_Lookup_1.S n (b, x, t, ip) = some (stepL t ip b x) := by
    show (g_route_Lookup_1 b x t ip).run n = _
    simp only [g_route_Lookup_1, G.run, tsOk, addr_Contains, if_true, stepL]
    by_cases h1 : (x.Tenant != t) = true
    · simp only [h1, if_true]; rfl
    · simp only [h1, if_false]
      by_cases h2 : containsS x.Prefix ip = true
      · simp only [h2, Bool.not_true, Bool.false_eq_true, if_false, if_true]
        by_cases h3 : b.ok = true
        · simp only [h3, if_true]
          by_cases h4 : decide (x.Prefix.Len ≤ b.Hop.Prefix.Len) = true
          · simp only [h4, if_true]; rfl
          · simp only [h4, if_false]; rfl
        · simp only [h3, if_false]; rfl
      · simp only [Bool.not_eq_true] at h2
        simp only [h2, Bool.not_false, if_true, Bool.false_eq_true, if_false]; rfl
  rw [this]; rfl

theorem fold_look (l : List Hop) (t ip : Int) (hl : l.length < n) (hs : l.length ≤ 4000) (k : c_route_fold_Hop_route_found.sh.El → Option β) : (c_route_fold_Hop_route_found.S n (l, ⟨zHop, false⟩, t, ip)).bind k = k (lookS l t ip) := by
  have : c_route_fold_Hop_route_found.S n (l, ⟨zHop, false⟩, t, ip) = some (lookS l t ip) := by
    show (g_route_fold_Hop_route_found l ⟨zHop, false⟩ t ip).run n = _
    simp only [g_route_fold_Hop_route_found, G.run, tsOk, lenO_bind, idxO_bind, if_true]
    refine (congrArg (fun o => Option.bind o _) (iterO_list (fun j (s : route_found) => ((j : Int), s.Hop.Tenant, s.Hop.Prefix.IP, s.Hop.Prefix.Len, s.Hop.BD, s.Hop.Next, s.Hop.VNI, s.Hop.MAC, s.Hop.Router, s.ok)) l (fun j => (l.take j).foldl (stepL t ip) ⟨zHop, false⟩)
      ((lookS l t ip).Hop.Tenant, (lookS l t ip).Hop.Prefix.IP, (lookS l t ip).Hop.Prefix.Len, (lookS l t ip).Hop.BD, (lookS l t ip).Hop.Next, (lookS l t ip).Hop.VNI, (lookS l t ip).Hop.MAC, (lookS l t ip).Hop.Router, (lookS l t ip).ok) (fun j x hx => ?_) ?_ n hl)).trans ?_
    · have hj := (List.getElem?_eq_some_iff.1 hx).1
      have hlt : (j : Int) < (l.length : Int) := by omega
      simp only [hlt, decide_true, if_true, at?_nat, hx, Option.bind_some, wrap_nat (show j < 9223372036854775807 by omega)]
      refine (look1 ((l.take j).foldl (stepL t ip) ⟨zHop, false⟩) x t ip _).trans ?_
      rw [take_fold _ _ _ _ _ hx]; rfl
    · rw [List.take_length]
      simp only [Int.lt_irrefl, decide_false, Bool.false_eq_true, if_false]; rfl
    · rfl
  rw [this]; rfl

theorem route_Lookup (l : List Hop) (t ip : Int) (hl : l.length < n) (hs : l.length ≤ 4000) (k : c_route_Lookup.sh.El → Option β) : (c_route_Lookup.S n (l, t, ip)).bind k = k ((lookS l t ip).Hop, (lookS l t ip).ok) := by
  have : c_route_Lookup.S n (l, t, ip) = some ((lookS l t ip).Hop, (lookS l t ip).ok) := by
    show (g_route_Lookup l t ip).run n = _
    simp only [g_route_Lookup, G.run, tsOk, if_true]
    exact fold_look l t ip hl hs _
  rw [this]; rfl

/-! ### Entropy -/

theorem hash_some (l : List Int) (hl : l.length < n) (hs : l.length ≤ 4000) : ∃ v, c_vxlan_hash_byte.S n l = some v := by
  let g : Int → Int → Int := fun a x => (Go.IntKind.wrap .u32 ((Go.IntKind.wrap .u32 (((@BitVec.toNat (Go.IntKind.bits .u32) ((BitVec.ofInt (Go.IntKind.bits .u32) a) ^^^ (BitVec.ofInt (Go.IntKind.bits .u32) (Go.IntKind.wrap .u32 x)))) : Nat) : Int)) * (16777619 : Int)))
  refine ⟨(l.foldl g (2166136261 : Int) : Int), ?_⟩
  show (g_vxlan_hash_byte l).run n = _
  simp only [g_vxlan_hash_byte, G.run, tsOk, lenO_bind, idxO_bind, if_true]
  refine (congrArg (fun o => Option.bind o _) (iterO_list (fun j (s : Int) => (s, (j : Int))) l (fun j => (l.take j).foldl g 2166136261) (l.foldl g 2166136261) (fun j x hx => ?_) ?_ n hl)).trans ?_
  · have hj := (List.getElem?_eq_some_iff.1 hx).1
    have hlt : (j : Int) < (l.length : Int) := by omega
    simp only [hlt, decide_true, if_true, at?_nat, hx, Option.bind_some, wrap_nat (show j < 9223372036854775807 by omega), take_fold _ _ _ _ _ hx]; rfl
  · rw [List.take_length]
    simp only [Int.lt_irrefl, decide_false, Bool.false_eq_true, if_false]; rfl
  · rfl
end
end Go.L

namespace Go.L
open Go.AM
set_option maxRecDepth 100000
set_option linter.unusedSimpArgs false
set_option linter.unusedVariables false
set_option linter.unusedSectionVars false

theorem bind_find {α τ γ ST : Type} {f : ST → Option (ST ⊕ τ)} (mk : Nat → ST) (l : List α) (p : α → Bool) (hit : α → τ) (fin : τ) {k : τ → Option γ} {n : Nat} (hn : l.length < n)
    (hs : ∀ (j : Nat) x, l[j]? = some x → f (mk j) = some (if p x = true then .inr (hit x) else .inl (mk (j + 1)))) (he : f (mk l.length) = some (.inr fin)) :
    (iterO f n (mk 0)).bind k = k (match l.find? p with | some x => hit x | none => fin) := by
  rw [iterO_scan (σ := Unit) (fun j _ => mk j) (fun _ x _ => if p x = true then .inr (hit x) else .inl ()) (fun _ => fin) l (fun i x _ hx => by rw [hs i x hx]; cases p x <;> rfl) (fun _ => he) n () hn]
  have : ∀ (l : List α) (i : Nat), scan (fun _ x (_ : Unit) => if p x = true then (.inr (hit x) : Unit ⊕ τ) else .inl ()) i l () = (match l.find? p with | some x => .inr (hit x) | none => .inl ()) := by
    intro l
    induction l with
    | nil => intro i; rfl
    | cons x xs ih =>
      intro i
      simp only [scan, List.find?_cons]
      cases p x with
      | true => rfl
      | false => exact ih (i + 1)
  rw [Option.bind_some, this l 0]
  cases l.find? p <;> rfl

/-! ### Entropy -/
section
variable {β : Type} {n : Nat}
theorem ent_some (x : Frame) (hn : 5000 ≤ n) : ∃ v, c_vxlan_Entropy.S n x = some v := by
  show ∃ v, (g_vxlan_Entropy x).run n = some v
  simp only [g_vxlan_Entropy, G.run, tsOk, if_true]
  have key : ∀ (L : List Int) (e : Int → Int), L.length ≤ 40 → ∃ v, ((c_vxlan_hash_byte.S n L).bind fun r => some (e r)) = some v := fun L e hL => by
    obtain ⟨v, hv⟩ := hash_some L (n := n) (by omega) (by omega)
    exact ⟨e v, by rw [hv]; rfl⟩
  split
  · refine key _ (fun r => (Go.IntKind.wrap .i64 ((49152 : Int) + (Go.IntKind.wrap .i64 (Int.tmod r (16384 : Int)))))) ?_
    simp only [List.length_cons, List.length_nil]; omega
  · refine key _ (fun r => (Go.IntKind.wrap .i64 ((49152 : Int) + (Go.IntKind.wrap .i64 (Int.tmod r (16384 : Int)))))) ?_
    simp only [List.length_cons, List.length_nil]; omega
noncomputable def entS (n : Nat) (x : Frame) : Int := Option.getD (α := Int) (c_vxlan_Entropy.S n x) (0 : Int)
theorem ent_b (hn : 5000 ≤ n) (x : Frame) (k : c_vxlan_Entropy.sh.El → Option β) : (c_vxlan_Entropy.S n x).bind k = k (entS n x) := by
  obtain ⟨v, hv⟩ := ent_some (n := n) x hn
  have : entS n x = v := by unfold entS; rw [hv]; rfl
  rw [hv, this]; rfl
end

/-! ### The gateway's own addresses, and hosts -/

def ownP (t ip : Int) (b : BD) : Bool := b.Tenant == t && (b.Gateway != 0 && b.Gateway == ip)
def ownS (f : Fabric) (t ip : Int) : Bool := f.BDs.any (ownP t ip)
def knownP (bd ip : Int) (x : Known) : Bool := x.BD == bd && x.IP == ip
def hostS (h : Hop) (l : List Known) (ip : Int) : Option Int := if (h.MAC != 0) = true then some h.MAC else (l.find? (knownP h.BD ip)).map (·.MAC)

section
variable {β : Type} {n : Nat}
theorem to_Gateway (x : gateway_routing) (hl : x.fabric.BDs.length < n) (hs : x.fabric.BDs.length ≤ 4000) (k : c_gateway_routing_toGateway.sh.El → Option β) : (c_gateway_routing_toGateway.S n x).bind k = k (ownS x.fabric x.tenant x.frame.IP.Dst, x) := by
  have : c_gateway_routing_toGateway.S n x = some (ownS x.fabric x.tenant x.frame.IP.Dst, x) := by
    show (g_gateway_routing_toGateway x).run n = _
    simp only [g_gateway_routing_toGateway, G.run, tsOk, lenO_bind, idxO_bind, if_true]
    refine (bind_any x.fabric.BDs x.fabric.BDs.length (ownP x.tenant x.frame.IP.Dst) hl (Nat.le_refl _) (fun j b hj hx => ?_) ?_).trans ?_
    · have hlt : (j : Int) < (x.fabric.BDs.length : Int) := by omega
      simp only [hlt, decide_true, if_true, at?_nat, hx, Option.bind_some, wrap_nat (show j < 9223372036854775807 by omega), ownP]
      by_cases h1 : (b.Tenant == x.tenant) = true
      · by_cases h2 : (b.Gateway != 0) = true
        · by_cases h3 : (b.Gateway == x.frame.IP.Dst) = true
          · simp only [h1, h2, h3, if_true, Bool.and_self] <;> rfl
          · simp only [h1, h2, h3, if_true, Bool.true_and, Bool.false_eq_true, if_false] <;> rfl
        · simp only [h1, h2, if_true, Bool.true_and, Bool.false_and, Bool.false_eq_true, if_false] <;> rfl
      · simp only [h1, Bool.false_and, Bool.false_eq_true, if_false] <;> rfl
    · simp only [Int.lt_irrefl, decide_false, Bool.false_eq_true, if_false] <;> rfl
    · rw [List.take_length]; unfold ownS; split <;> rename_i h <;> simp only [h] <;> rfl
  rw [this]; rfl
def resS (x : gateway_routing) : Bool × gateway_routing := match hostS x.hop x.tables.Known x.frame.IP.Dst with
  | some m => (true, gateway_routing.mk x.fabric x.leaf x.tenant x.tables x.frame x.tunnel x.hop m)
  | none => (false, x)
theorem resolve_b (x : gateway_routing) (hl : x.tables.Known.length < n) (hs : x.tables.Known.length ≤ 4000) (k : c_gateway_routing_resolve.sh.El → Option β) : (c_gateway_routing_resolve.S n x).bind k = k (resS x) := by
  have : c_gateway_routing_resolve.S n x = some (resS x) := by
    show (g_gateway_routing_resolve x).run n = _
    simp only [g_gateway_routing_resolve, G.run, tsOk, lenO_bind, idxO_bind, if_true, resS, hostS]
    by_cases h : (x.hop.MAC != 0) = true
    · simp only [h, if_true]; rfl
    · simp only [h, if_false]
      refine (bind_find (fun j => (j : Int)) x.tables.Known (knownP x.hop.BD x.frame.IP.Dst) (fun y => .inl y.MAC) (.inr ()) hl (fun j b hx => ?_) ?_).trans ?_
      · have hj := (List.getElem?_eq_some_iff.1 hx).1
        have hlt : (j : Int) < (x.tables.Known.length : Int) := by omega
        simp only [hlt, decide_true, if_true, at?_nat, hx, Option.bind_some, wrap_nat (show j < 9223372036854775807 by omega), knownP]
        by_cases h1 : (b.BD == x.hop.BD) = true
        · by_cases h2 : (b.IP == x.frame.IP.Dst) = true
          · simp only [h1, h2, if_true, Bool.and_self] <;> rfl
          · simp only [h1, h2, if_true, Bool.true_and, Bool.false_eq_true, if_false] <;> rfl
        · simp only [h1, Bool.false_and, Bool.false_eq_true, if_false] <;> rfl
      · simp only [Int.lt_irrefl, decide_false, Bool.false_eq_true, if_false] <;> rfl
      · cases x.tables.Known.find? (knownP x.hop.BD x.frame.IP.Dst) <;> rfl
  rw [this]; rfl

theorem aged_b (x : gateway_rewritten) (k : c_gateway_rewritten_aged.sh.El → Option β) : (c_gateway_rewritten_aged.S n x).bind k = k (gateway_rewritten.mk x.Src x.Dst x.Kind x.ARP (Head.mk x.IP.Src x.IP.Dst (Go.IntKind.wrap .i64 (x.IP.TTL - (1 : Int))) x.IP.Proto x.IP.SrcPort x.IP.DstPort) x.Data) := rfl
theorem from_b (x : gateway_rewritten) (m : Int) (k : c_gateway_rewritten_from.sh.El → Option β) : (c_gateway_rewritten_from.S n (x, m)).bind k = k (gateway_rewritten.mk m x.Dst x.Kind x.ARP x.IP x.Data) := rfl
theorem to_b (x : gateway_rewritten) (m : Int) (k : c_gateway_rewritten_to.sh.El → Option β) : (c_gateway_rewritten_to.S n (x, m)).bind k = k (gateway_rewritten.mk x.Src m x.Kind x.ARP x.IP x.Data) := rfl
theorem frame_b (x : gateway_rewritten) (k : c_gateway_rewritten_frame.sh.El → Option β) : (c_gateway_rewritten_frame.S n x).bind k = k (Frame.mk x.Src x.Dst x.Kind x.ARP x.IP x.Data) := rfl
end
end Go.L

namespace Go.L
open Go.AM
set_option maxRecDepth 100000
set_option linter.unusedSimpArgs false
set_option linter.unusedVariables false
set_option linter.unusedSectionVars false
/-! ### Loopback -/

def lbS (x : Int) : Int := if x < 0 then 0 else if x ≥ 32 then 0 else Go.IntKind.wrap .u32 ((Go.IntKind.wrap .u32 ((184483840 : Int) + (Go.IntKind.wrap .u32 x))) + (1 : Int))
def lbE (x : Int) : Int := if x < 0 then 2 else if x ≥ 32 then 2 else 0

section
variable {β : Type} {n : Nat}
theorem addr_Loopback (x : Int) (k : c_addr_Loopback.sh.El → Option β) : (c_addr_Loopback.S n x).bind k = k (lbS x, lbE x) := by
  have : c_addr_Loopback.S n x = some (lbS x, lbE x) := by
    show (g_addr_Loopback x).run n = _
    simp only [g_addr_Loopback, G.run, tsOk, lbS, lbE, decide_eq_true_eq, if_true]
    split
    · rfl
    · split <;> rfl
  rw [this]; rfl
end
section
variable {β : Type} {n : Nat} (hn : 5000 ≤ n) {f : Fabric} (hs : Small f)
include hn hs
end

def zF : Frame := Frame.mk (0 : Int) (0 : Int) (0 : Int) (ARP.mk (0 : Int) (0 : Int) (0 : Int) (0 : Int) (0 : Int)) (Head.mk (0 : Int) (0 : Int) (0 : Int) (0 : Int) (0 : Int) (0 : Int)) (0 : Int)
def zP : Packet := Packet.mk (0 : Int) (0 : Int) (0 : Int) (0 : Int) (0 : Int) (0 : Int) zF
def zR : Routed := Routed.mk (0 : Int) (0 : Int) zF zP
def agedS (x : Frame) (s d : Int) : Frame := Frame.mk s d x.Kind x.ARP (Head.mk x.IP.Src x.IP.Dst (Go.IntKind.wrap .i64 (x.IP.TTL - (1 : Int))) x.IP.Proto x.IP.SrcPort x.IP.DstPort) x.Data
noncomputable def tunnelS (n : Nat) (leaf : Int) (h : Hop) (x : Frame) : Routed :=
  Routed.mk (2 : Int) (-1 : Int) zF (Packet.mk (lbS leaf) h.Next (16 : Int) (entS n (agedS x (rmS leaf) h.Router)) h.VNI (0 : Int) (agedS x (rmS leaf) h.Router))
noncomputable def hopS (n : Nat) (leaf : Int) (t : Tables) (h : Hop) (x : Frame) (tun : Bool) : Routed :=
  if (h.BD == (-1 : Int)) = true then if tun = true then zR else tunnelS n leaf h x
  else match hostS h t.Known x.IP.Dst with
    | some m => Routed.mk (1 : Int) h.BD (agedS x (1577058561 : Int) m) zP
    | none => zR
noncomputable def RouteS (n : Nat) (f : Fabric) (leaf tenant : Int) (t : Tables) (x : Frame) (tun : Bool) : Routed :=
  if okF f = true then if leaf < 0 then zR else if leaf ≥ f.Leaves then zR else if tenant < 0 then zR else if tenant ≥ (f.Tenants.length : Int) then zR
  else if (x.Kind != (2 : Int)) = true then zR else if x.IP.TTL < 2 then zR else if ownS f tenant x.IP.Dst = true then zR
  else if (lookS t.Hops tenant x.IP.Dst).ok = true then hopS n leaf t (lookS t.Hops tenant x.IP.Dst).Hop x tun else zR else zR

section
variable {β : Type} {n : Nat} (hn : 5000 ≤ n) {f : Fabric} (hs : Small f)
include hn hs
theorem gateway_Route (leaf tenant : Int) (t : Tables) (x : Frame) (tun : Bool) (hh : t.Hops.length ≤ 4000) (hk : t.Known.length ≤ 4000) (k : c_gateway_Route.sh.El → Option β) :
    (c_gateway_Route.S n (f, leaf, tenant, t, x, tun)).bind k = k (RouteS n f leaf tenant t x tun) := by
  have hb := hs.bds
  have : c_gateway_Route.S n (f, leaf, tenant, t, x, tun) = some (RouteS n f leaf tenant t x tun) := by
    show (g_gateway_Route f leaf tenant t x tun).run n = _
    have e1 : ∀ {γ : Type} (k : c_gateway_routing_toGateway.sh.El → Option γ), (c_gateway_routing_toGateway.S n (Go.L.gateway_routing.mk f leaf tenant t x tun zHop 0)).bind k = k (ownS f tenant x.IP.Dst, Go.L.gateway_routing.mk f leaf tenant t x tun zHop 0) := fun k =>
      to_Gateway (n := n) (Go.L.gateway_routing.mk f leaf tenant t x tun zHop 0) (by show f.BDs.length < n; omega) (by show f.BDs.length ≤ 4000; omega) k
    have e2 : ∀ {γ : Type} (k : c_route_Lookup.sh.El → Option γ), (c_route_Lookup.S n (t.Hops, tenant, x.IP.Dst)).bind k = k ((lookS t.Hops tenant x.IP.Dst).Hop, (lookS t.Hops tenant x.IP.Dst).ok) := fun k => route_Lookup t.Hops tenant x.IP.Dst (by omega) hh k
    have e3 : ∀ {γ : Type} (h : Hop) (k : c_gateway_routing_resolve.sh.El → Option γ), (c_gateway_routing_resolve.S n (Go.L.gateway_routing.mk f leaf tenant t x tun h 0)).bind k = k (resS (Go.L.gateway_routing.mk f leaf tenant t x tun h 0)) := fun h k =>
      resolve_b (n := n) (Go.L.gateway_routing.mk f leaf tenant t x tun h 0) (by show t.Known.length < n; omega) hk k
    simp only [zHop] at e1
    simp only [g_gateway_Route, G.run, tsOk, gateway_valid hn hs, lenO_bind, idxO_bind, e1, e2, e3, aged_b, from_b, to_b, frame_b, addr_Loopback, addr_RouterMAC, ent_b hn, if_true, RouteS, decide_eq_true_eq]
    by_cases h : okF f = true
    · simp only [h, Bool.not_true, Bool.false_eq_true, if_false, if_true]
      by_cases h1 : leaf < 0
      · simp only [h1, if_true]; rfl
      · simp only [h1, if_false]
        by_cases h2 : leaf ≥ f.Leaves
        · simp only [h2, if_true]; rfl
        · simp only [h2, if_false]
          by_cases h3 : tenant < 0
          · simp only [h3, if_true]; rfl
          · simp only [h3, if_false]
            by_cases h4 : tenant ≥ (f.Tenants.length : Int)
            · simp only [h4, if_true]; rfl
            · simp only [h4, if_false]
              by_cases h5 : (x.Kind != (2 : Int)) = true
              · simp only [h5, if_true]; rfl
              · simp only [h5, if_false]
                by_cases h6 : x.IP.TTL < 2
                · simp only [h6, if_true]; rfl
                · simp only [h6, if_false]
                  by_cases h7 : ownS f tenant x.IP.Dst = true
                  · simp only [h7, if_true]; rfl
                  · simp only [h7, if_false]
                    generalize lookS t.Hops tenant x.IP.Dst = r
                    by_cases h8 : r.ok = true
                    · simp only [h8, Bool.not_true, Bool.false_eq_true, if_false, if_true, hopS]
                      by_cases h9 : (r.Hop.BD == (-1 : Int)) = true
                      · have h9' : (r.Hop.BD != (-1 : Int)) = false := by simp only [bne, h9, Bool.not_true]
                        simp only [h9, h9', Bool.false_eq_true, if_false, if_true]
                        cases tun <;> rfl
                      · simp only [Bool.not_eq_true] at h9
                        have h9' : (r.Hop.BD != (-1 : Int)) = true := by simp only [bne, h9, Bool.not_false]
                        simp only [h9, h9', Bool.false_eq_true, if_false, if_true]
                        obtain hh | ⟨m, hh⟩ : hostS r.Hop t.Known x.IP.Dst = none ∨ ∃ m, hostS r.Hop t.Known x.IP.Dst = some m := by
                          cases hostS r.Hop t.Known x.IP.Dst with
                          | none => exact Or.inl rfl
                          | some m => exact Or.inr ⟨m, rfl⟩
                        · have er : resS (Go.L.gateway_routing.mk f leaf tenant t x tun r.Hop 0) = (false, Go.L.gateway_routing.mk f leaf tenant t x tun r.Hop 0) := by
                            unfold resS; simp only [hh]
                          simp only [er, hh, Bool.not_false, if_true]; rfl
                        · have er : resS (Go.L.gateway_routing.mk f leaf tenant t x tun r.Hop 0) = (true, Go.L.gateway_routing.mk f leaf tenant t x tun r.Hop m) := by
                            unfold resS; simp only [hh]
                          simp only [er, hh, h9', Bool.not_true, Bool.false_eq_true, if_false, if_true]; rfl
                    · simp only [Bool.not_eq_true] at h8
                      simp only [h8, Bool.not_false, if_true, Bool.false_eq_true, if_false]; rfl
    · simp only [Bool.not_eq_true] at h
      simp only [h, Bool.not_false, if_true, Bool.false_eq_true, if_false]; rfl
  rw [this]; rfl

end
end Go.L

namespace Go.L
open Go.AM
set_option maxRecDepth 100000
set_option linter.unusedSimpArgs false
set_option linter.unusedVariables false
set_option linter.unusedSectionVars false

theorem any_step {α : Type} {n : Nat} (l : List α) (p : α → Bool) {f : Int → Option (Int ⊕ (Unit ⊕ Unit))} {k : Unit ⊕ Unit → Option Bool} (hn : l.length < n)
    (hf : ∀ (j : Nat) x, j < l.length → l[j]? = some x → f (j : Int) = some (if p x = true then .inr (.inl ()) else .inl ((j + 1 : Nat) : Int))) (he : f (l.length : Int) = some (.inr (.inr ())))
    (h1 : k (.inl ()) = some true) (h2 : k (.inr ()) = some true ∨ k (.inr ()) = some false) : (iterO f n 0).bind k = some true ∨ (iterO f n 0).bind k = some false := by
  rw [bind_any l l.length p hn (Nat.le_refl _) hf he, List.take_length]
  split
  · exact Or.inl h1
  · exact h2
theorem many_small (n : Nat) (t : Tables) (hn : 5000 ≤ n) : ∃ b, c_kit_ManyTables.S n t = some b ∧ (b = false → t.Hops.length ≤ 4000 ∧ t.Known.length ≤ 4000) := by
  have key : ∀ o : Option Bool, (o = some true ∨ (o = some false ∧ t.Hops.length ≤ 4000 ∧ t.Known.length ≤ 4000)) → ∃ b, o = some b ∧ (b = false → t.Hops.length ≤ 4000 ∧ t.Known.length ≤ 4000) := by
    intro o h
    rcases h with h | ⟨h, hs⟩
    · exact ⟨true, h, by intro h; cases h⟩
    · exact ⟨false, h, fun _ => hs⟩
  apply key
  show (g_kit_ManyTables t).run n = some true ∨ ((g_kit_ManyTables t).run n = some false ∧ _)
  simp only [g_kit_ManyTables, G.run, tsOk, lenO_bind, idxO_bind, gt_iff_lt, if_true]
  by_cases h1 : decide ((60 : Int) < (t.Far.length : Int)) = true
  · left; rw [if_pos h1]; rfl
  by_cases h2 : decide ((60 : Int) < (t.Known.length : Int)) = true
  · left; rw [if_neg h1, if_pos h2]; rfl
  by_cases h3 : decide ((60 : Int) < (t.Flood.length : Int)) = true
  · left; rw [if_neg h1, if_neg h2, if_pos h3]; rfl
  by_cases h4 : decide ((60 : Int) < (t.Forwarders.length : Int)) = true
  · left; rw [if_neg h1, if_neg h2, if_neg h3, if_pos h4]; rfl
  by_cases h5 : decide ((60 : Int) < (t.Sharing.length : Int)) = true
  · left; rw [if_neg h1, if_neg h2, if_neg h3, if_neg h4, if_pos h5]; rfl
  by_cases h6 : decide ((60 : Int) < (t.Hops.length : Int)) = true
  · left; rw [if_neg h1, if_neg h2, if_neg h3, if_neg h4, if_neg h5, if_pos h6]; rfl
  rw [if_neg h1, if_neg h2, if_neg h3, if_neg h4, if_neg h5, if_neg h6]
  simp only [decide_eq_true_eq] at h1 h2 h3 h4 h5 h6
  refine (fun h => h.elim Or.inl fun h => Or.inr ⟨h, by omega, by omega⟩ : ∀ {o : Option Bool}, (o = some true ∨ o = some false) → o = some true ∨ (o = some false ∧ _)) ?_
  refine any_step t.Far (fun y => decide ((20 : Int) < (y.Next.length : Int))) (by omega) (fun j y hj hy => ?_) ?_ rfl ?_
  · have hlt : (j : Int) < (t.Far.length : Int) := by omega
    simp only [hlt, decide_true, if_true, at?_nat, hy, Option.bind_some, wrap_nat (show j < 9223372036854775807 by omega)]
    cases decide ((20 : Int) < (y.Next.length : Int)) <;> rfl
  · simp only [Int.lt_irrefl, decide_false, Bool.false_eq_true, if_false] <;> rfl
  refine any_step t.Flood (fun y => decide ((20 : Int) < (y.Peers.length : Int))) (by omega) (fun j y hj hy => ?_) ?_ rfl ?_
  · have hlt : (j : Int) < (t.Flood.length : Int) := by omega
    simp only [G.run, tsOk, lenO_bind, idxO_bind, gt_iff_lt, hlt, decide_true, if_true, at?_nat, hy, Option.bind_some, wrap_nat (show j < 9223372036854775807 by omega)]
    cases decide ((20 : Int) < (y.Peers.length : Int)) <;> rfl
  · simp only [G.run, tsOk, lenO_bind, idxO_bind, Int.lt_irrefl, decide_false, Bool.false_eq_true, if_false] <;> rfl
  refine any_step t.Sharing (fun y => decide ((20 : Int) < (y.Members.length : Int)) || decide ((20 : Int) < (y.Labels.length : Int))) (by omega) (fun j y hj hy => ?_) ?_ rfl (Or.inr rfl)
  · have hlt : (j : Int) < (t.Sharing.length : Int) := by omega
    simp only [G.run, tsOk, lenO_bind, idxO_bind, gt_iff_lt, hlt, decide_true, if_true, at?_nat, hy, Option.bind_some, wrap_nat (show j < 9223372036854775807 by omega)]
    cases decide ((20 : Int) < (y.Members.length : Int)) <;> cases decide ((20 : Int) < (y.Labels.length : Int)) <;> rfl
  · simp only [G.run, tsOk, lenO_bind, idxO_bind, Int.lt_irrefl, decide_false, Bool.false_eq_true, if_false] <;> rfl

end Go.L

namespace Go.L
open Go.AM
set_option maxRecDepth 100000
set_option linter.unusedSimpArgs false
set_option linter.unusedVariables false
set_option linter.unusedSectionVars false

/-! ### What comes out, whatever it is, is so -/

def Good {γ : Type} (o : Option γ) (Q : γ → Prop) : Prop := ∃ v, o = some v ∧ Q v
theorem Good.bind {γ δ : Type} {o : Option γ} {Q : γ → Prop} {k : γ → Option δ} {R : δ → Prop} (h : Good o Q) (hk : ∀ v, Q v → Good (k v) R) : Good (o.bind k) R := by
  obtain ⟨v, rfl, hv⟩ := h
  exact hk v hv
theorem Good.mono {γ : Type} {o : Option γ} {Q R : γ → Prop} (h : Good o Q) (hk : ∀ v, Q v → R v) : Good o R := by
  obtain ⟨v, e, hv⟩ := h
  exact ⟨v, e, hk v hv⟩
theorem Good.some {γ : Type} {v : γ} {Q : γ → Prop} (h : Q v) : Good (some v) Q := ⟨v, rfl, h⟩

/-- A loop that ends after N rounds at the latest. -/
theorem good_iter {ST τ : Type} {f : ST → Option (ST ⊕ τ)} {Q : τ → Prop} (I : Nat → ST → Prop) (N : Nat)
    (hf : ∀ j s, j < N → I j s → Good (f s) fun r => match r with | .inl s' => I (j + 1) s' | .inr t => Q t)
    (he : ∀ s, I N s → Good (f s) fun r => match r with | .inl _ => False | .inr t => Q t) {n : Nat} (hn : N < n) {s0 : ST} (h0 : I 0 s0) : Good (iterO f n s0) Q := by
  have key : ∀ (k j n : Nat) (s : ST), j + k = N → k < n → I j s → Good (iterO f n s) Q := by
    intro k
    induction k with
    | zero =>
      intro j n s hj hn hs
      obtain ⟨n, rfl⟩ : ∃ m, n = m + 1 := ⟨n - 1, by omega⟩
      have : j = N := by omega
      subst this
      obtain ⟨r, hr, h⟩ := he s hs
      cases r with
      | inl s' => exact h.elim
      | inr t => exact ⟨t, by simp only [iterO, hr], h⟩
    | succ k ih =>
      intro j n s hj hn hs
      obtain ⟨n, rfl⟩ : ∃ m, n = m + 1 := ⟨n - 1, by omega⟩
      obtain ⟨r, hr, h⟩ := hf j s (by omega) hs
      cases r with
      | inl s' =>
        obtain ⟨t, ht, hq⟩ := ih (j + 1) n s' (by omega) (by omega) h
        exact ⟨t, by simp only [iterO, hr]; exact ht, hq⟩
      | inr t => exact ⟨t, by simp only [iterO, hr], h⟩
  exact key N 0 n s0 (by omega) hn h0

/-- A taker of which at most c elements are taken. -/
def Tk (c : Int) (x : kit_taker) : Prop := 0 ≤ x.at_ ∧ x.at_ ≤ c

end Go.L

namespace Go.L
open Go.AM
set_option maxRecDepth 100000
set_option linter.unusedSimpArgs false
set_option linter.unusedVariables false
set_option linter.unusedSectionVars false

theorem kit_Mod (n : Nat) (x k : Int) (hk : 0 < k) (hk2 : k ≤ 4000000000000000000) : c_kit_Mod.S n (x, k) = some (x % k) := by
  show (g_kit_Mod x k).run n = _
  have h1 : ¬ k ≤ 0 := by omega
  have h2 : k ≠ 0 := by omega
  simp only [g_kit_Mod, G.run, tsOk, remO, binO, decide_eq_true_eq, h1, if_false, h2, ne_eq, not_false_eq_true, decide_true, if_true, Option.bind_some, wrap_tmod hk hk2, emod_tmod hk] <;> rfl

section
variable {n : Nat}
theorem take_good (x : kit_taker) (m c : Int) (hx : Tk c x) (hc : c ≤ 1000000) (h1 : 1 ≤ m) (h2 : m ≤ 1000000) :
    Good (γ := Int × kit_taker) (c_kit_taker_take.S n (x, m)) fun r => 0 ≤ r.1 ∧ r.1 < m ∧ Tk (c + 1) r.2 := by
  obtain ⟨ha, hb⟩ := hx
  show Good (γ := Int × kit_taker) ((g_kit_taker_take x m).run n) _
  have w1 : Go.IntKind.wrap .i64 (x.at_ + 1) = x.at_ + 1 := wrap_i64 (by omega) (by omega)
  have w2 : Go.IntKind.wrap .i64 (x.at_ + 1 - 1) = x.at_ := by rw [wrap_i64 (by omega) (by omega)]; omega
  have eM : ∀ {γ : Type} (a : Int) (k : c_kit_Mod.sh.El → Option γ), (c_kit_Mod.S n (a, m)).bind k = k (a % m) := fun a k => by rw [kit_Mod n a m (by omega) (by omega)]; rfl
  simp only [g_kit_taker_take, G.run, tsOk, lenO_bind, idxO_bind, w1, w2, eM, if_true, decide_eq_true_eq]
  by_cases h : x.at_ ≥ (x.l.length : Int)
  · rw [if_pos h]
    exact .some ⟨by show (0 : Int) ≤ 0; omega, by show (0 : Int) < m; omega, ha, by show x.at_ ≤ c + 1; omega⟩
  · rw [if_neg h]
    obtain ⟨i, hi⟩ : ∃ i : Nat, x.at_ = (i : Int) := ⟨x.at_.toNat, by omega⟩
    have hlt : i < x.l.length := by omega
    rw [hi, at?_nat, List.getElem?_eq_getElem hlt, Option.bind_some]
    exact .some ⟨Int.emod_nonneg _ (by omega), Int.emod_lt_of_pos _ (by omega), by show (0 : Int) ≤ (i : Int) + 1; omega, by show (i : Int) + 1 ≤ c + 1; omega⟩
end
end Go.L

namespace Go.L
open Go.AM
set_option maxRecDepth 100000
set_option linter.unusedSimpArgs false
set_option linter.unusedVariables false
set_option linter.unusedSectionVars false

section
variable {n : Nat}
theorem links_good (x : kit_taker) (L S c : Int) (hx : Tk c x) (hc : c ≤ 100000) (hL : 0 ≤ L ∧ L ≤ 8) (hS : 0 ≤ S ∧ S ≤ 4) (hn : 5000 ≤ n) :
    Good (γ := List Link × kit_taker) (c_kit_links.S n (x, L, S)) fun r => r.1.length ≤ 32 ∧ Tk (c + 64) r.2 := by
  show Good (γ := List Link × kit_taker) ((g_kit_links x L S).run n) _
  simp only [g_kit_links, G.run, tsOk, appO_bind, if_true, decide_eq_true_eq]
  refine Good.bind (γ := List Int × Int × List Link) (Q := fun t => t.2.2.length ≤ 32 ∧ 0 ≤ t.2.1 ∧ t.2.1 ≤ c + 64) ?_ (fun t ht => ?_)
  · refine good_iter (fun j (s : Int × List Int × Int × List Link) => s.1 = (j : Int) ∧ 0 ≤ s.2.2.1 ∧ s.2.2.1 ≤ c + 8 * (j : Int) ∧ (s.2.2.2.length : Int) ≤ 4 * (j : Int)) L.toNat (fun j s hj hs => ?_) (fun s hs => ?_) (by omega) ⟨rfl, hx.1, by have := hx.2; simp; omega, by simp⟩
    · obtain ⟨h1, h2, h3, h4⟩ := hs
      have hlt : s.1 < L := by omega
      simp only [hlt, if_true]
      refine Good.bind (γ := List Int × Int × List Link) (Q := fun t => 0 ≤ t.2.1 ∧ t.2.1 ≤ c + 8 * ((j : Int) + 1) ∧ (t.2.2.length : Int) ≤ 4 * ((j : Int) + 1)) ?_ (fun t ht => ?_)
      · refine good_iter (fun i (q : Int × List Int × Int × List Link) => q.1 = (i : Int) ∧ 0 ≤ q.2.2.1 ∧ q.2.2.1 ≤ c + 8 * (j : Int) + 2 * (i : Int) ∧ (q.2.2.2.length : Int) ≤ 4 * (j : Int) + (i : Int)) S.toNat (fun i q hi hq => ?_) (fun q hq => ?_) (by omega) ⟨rfl, h2, by simp; omega, by simp; omega⟩
        · obtain ⟨g1, g2, g3, g4⟩ := hq
          have hlt : q.1 < S := by omega
          simp only [hlt, if_true]
          refine Good.bind (take_good _ 8 (c + 8 * (j : Int) + 2 * (i : Int)) ⟨g2, g3⟩ (by omega) (by decide) (by decide)) (fun r hr => ?_)
          obtain ⟨r1, r2, r3⟩ := hr
          by_cases h7 : (r.1 != 7) = true
          · simp only [h7, if_true]
            refine Good.bind (take_good r.2 2 (c + 8 * (j : Int) + 2 * (i : Int) + 1) r3 (by omega) (by decide) (by decide)) (fun r' hr' => ?_)
            obtain ⟨s1, s2, s3⟩ := hr'
            obtain ⟨s3, s4⟩ := s3
            have w : Go.IntKind.wrap .i64 (q.1 + 1) = q.1 + 1 := wrap_i64 (by omega) (by omega)
            have hroom : roomy (q.2.2.2.length + 1) 24 = true := by simp [roomy]; omega
            rw [if_pos ⟨trivial, hroom⟩, w]
            refine .some ⟨?_, ?_, ?_, ?_⟩ <;> (try simp only [List.length_append, List.length_cons, List.length_nil]) <;> omega
          · simp only [h7, Bool.false_eq_true, if_false]
            obtain ⟨s3, s4⟩ := r3
            have w : Go.IntKind.wrap .i64 (q.1 + 1) = q.1 + 1 := wrap_i64 (by omega) (by omega)
            rw [w]
            refine .some ⟨?_, ?_, ?_, ?_⟩ <;> (try simp only [List.length_append, List.length_cons, List.length_nil]) <;> omega
        · obtain ⟨g1, g2, g3, g4⟩ := hq
          have hlt : ¬ q.1 < S := by omega
          simp only [hlt, if_false]
          refine .some ⟨?_, ?_, ?_⟩ <;> (try simp only [List.length_append, List.length_cons, List.length_nil]) <;> omega
      · obtain ⟨t1, t2, t3⟩ := ht
        have w : Go.IntKind.wrap .i64 (s.1 + 1) = s.1 + 1 := wrap_i64 (by omega) (by omega)
        rw [w]
        refine .some ⟨?_, ?_, ?_, ?_⟩ <;> (try simp only [List.length_append, List.length_cons, List.length_nil]) <;> omega
    · obtain ⟨h1, h2, h3, h4⟩ := hs
      have hlt : ¬ s.1 < L := by omega
      simp only [hlt, if_false]
      exact .some ⟨by show s.2.2.2.length ≤ 32; omega, h2, by show s.2.2.1 ≤ c + 64; omega⟩
  · obtain ⟨h1, h2, h3⟩ := ht
    simp [fzRow]
    refine .some ⟨h1, h2, h3⟩
end
end Go.L

namespace Go.L
open Go.AM
set_option maxRecDepth 100000
set_option linter.unusedSimpArgs false
set_option linter.unusedVariables false
set_option linter.unusedSectionVars false

theorem remO_bind {β : Type} (a b : Int) (hb : b ≠ 0) (k : Unit → Option β) : (remO .i64 a b).run.bind k = k () := by
  simp only [remO, binO, ne_eq, hb, not_false_eq_true, decide_true, if_true, Option.bind_some]

section
variable {n : Nat}
theorem some_good (x : kit_taker) (m q c : Int) (hx : Tk c x) (hc : c ≤ 100000) (hm : 1 ≤ m ∧ m ≤ 8) (hn : 5000 ≤ n) :
    Good (γ := List Int × kit_taker) (c_kit_some.S n (x, m, q)) fun r => 1 ≤ r.1.length ∧ r.1.length ≤ 8 ∧ (∀ y ∈ r.1, 0 ≤ y ∧ y < m) ∧ Tk (c + 9) r.2 := by
  show Good (γ := List Int × kit_taker) ((g_kit_some x m q).run n) _
  simp only [g_kit_some, G.run, tsOk, appO_bind, if_true, decide_eq_true_eq]
  refine Good.bind (take_good x m c hx (by omega) (by omega) (by omega)) (fun r hr => ?_)
  obtain ⟨r1, r2, r3, r4⟩ := hr
  refine Good.bind (γ := List Int × Int × List Int) (Q := fun t => t.2.2.length ≤ 8 ∧ (∀ y ∈ t.2.2, 0 ≤ y ∧ y < m) ∧ 0 ≤ t.2.1 ∧ t.2.1 ≤ c + 9) ?_ (fun t ht => ?_)
  · refine good_iter (fun j (s : Int × List Int × Int × List Int) => s.1 = (j : Int) ∧ 0 ≤ s.2.2.1 ∧ s.2.2.1 ≤ c + 1 + (j : Int) ∧ (s.2.2.2.length : Int) ≤ (j : Int) ∧ ∀ y ∈ s.2.2.2, 0 ≤ y ∧ y < m) m.toNat (fun j s hj hs => ?_) (fun s hs => ?_) (by omega) ⟨rfl, r3, by simp; omega, by simp, by simp⟩
    · obtain ⟨h1, h2, h3, h4, h5⟩ := hs
      have hlt : s.1 < m := by omega
      have w : Go.IntKind.wrap .i64 (s.1 + 1) = s.1 + 1 := wrap_i64 (by omega) (by omega)
      have hroom : roomy (s.2.2.2.length + 1) 8 = true := by simp [roomy]; omega
      have h6 : ∀ y ∈ s.2.2.2 ++ [s.1], 0 ≤ y ∧ y < m := by
        intro y hy
        rcases List.mem_append.1 hy with hy | hy
        · exact h5 y hy
        · simp only [List.mem_singleton] at hy; subst hy; omega
      simp only [hlt, if_true, w]
      by_cases hq : (s.2.2.2.length : Int) < q
      · simp only [hq, if_true]
        by_cases he : (s.1 == r.1) = true
        · simp only [he, if_true]
          rw [if_pos ⟨trivial, hroom⟩]
          refine .some ⟨?_, ?_, ?_, ?_, h6⟩ <;> (try simp only [List.length_append, List.length_cons, List.length_nil]) <;> omega
        · simp only [he, Bool.false_eq_true, if_false]
          refine Good.bind (take_good _ 3 (c + 1 + (j : Int)) ⟨h2, h3⟩ (by omega) (by decide) (by decide)) (fun r' hr' => ?_)
          obtain ⟨s1, s2, s3, s4⟩ := hr'
          by_cases hz : (r'.1 == 1) = true
          · simp only [hz, if_true]
            rw [if_pos ⟨trivial, hroom⟩]
            refine .some ⟨?_, ?_, ?_, ?_, h6⟩ <;> (try simp only [List.length_append, List.length_cons, List.length_nil]) <;> omega
          · simp only [hz, Bool.false_eq_true, if_false]
            refine .some ⟨?_, ?_, ?_, ?_, h5⟩ <;> (try simp only [List.length_append, List.length_cons, List.length_nil]) <;> omega
      · simp only [hq, if_false]
        refine .some ⟨?_, h5, ?_, ?_⟩ <;> (try simp only [List.length_append, List.length_cons, List.length_nil]) <;> omega
    · obtain ⟨h1, h2, h3, h4, h5⟩ := hs
      have hlt : ¬ s.1 < m := by omega
      simp only [hlt, if_false]
      refine .some ⟨?_, h5, ?_, ?_⟩ <;> (try simp only [List.length_append, List.length_cons, List.length_nil]) <;> omega
  · obtain ⟨t1, t2, t3, t4⟩ := ht
    by_cases hz : ((t.2.2.length : Int) == 0) = true
    · simp only [hz, if_true]
      simp [fzRow]
      refine .some ⟨?_, ?_, ?_, t3, t4⟩ <;> simp <;> omega
    · simp only [hz, Bool.false_eq_true, if_false]
      simp [fzRow]
      refine .some ⟨?_, ?_, t2, t3, t4⟩
      · simp only [beq_iff_eq] at hz
        show 1 ≤ t.2.2.length
        omega
      · exact t1

theorem domain_good (x : kit_taker) (i m c : Int) (hx : Tk c x) (hc : c ≤ 100000) (hm : 1 ≤ m ∧ m ≤ 8) :
    Good (γ := BD × kit_taker) (c_kit_domain.S n (x, i, m)) fun r => Tk (c + 2) r.2 := by
  show Good (γ := BD × kit_taker) ((g_kit_domain x i m).run n) _
  simp only [g_kit_domain, G.run, tsOk, if_true, decide_eq_true_eq]
  refine Good.bind (take_good x m c hx (by omega) (by omega) (by omega)) (fun r hr => ?_)
  refine Good.bind (take_good r.2 4 (c + 1) hr.2.2 (by omega) (by decide) (by decide)) (fun r' hr' => ?_)
  have h : Tk (c + 2) r'.2 := by have := hr'.2.2; unfold Tk at *; omega
  split
  · exact .some h
  · exact .some h

theorem leak_good (x : kit_taker) (m c : Int) (hx : Tk c x) (hc : c ≤ 100000) (hm : 2 ≤ m ∧ m ≤ 8) :
    Good (γ := Leak × kit_taker) (c_kit_leak.S n (x, m)) fun r => Tk (c + 4) r.2 := by
  show Good (γ := Leak × kit_taker) ((g_kit_leak x m).run n) _
  have w : Go.IntKind.wrap .i64 (m - 1) = m - 1 := wrap_i64 (by omega) (by omega)
  have e := fun {γ : Type} (a : Int) (k : Unit → Option γ) => remO_bind a m (by omega) k
  simp only [g_kit_leak, G.run, tsOk, if_true, decide_eq_true_eq, w, e]
  refine Good.bind (take_good x m c hx (by omega) (by omega) (by omega)) (fun r hr => ?_)
  refine Good.bind (take_good r.2 (m - 1) (c + 1) hr.2.2 (by omega) (by omega) (by omega)) (fun r' hr' => ?_)
  refine Good.bind (take_good r'.2 2 (c + 1 + 1) hr'.2.2 (by omega) (by decide) (by decide)) (fun q hq => ?_)
  split
  · refine Good.bind (take_good q.2 4 (c + 1 + 1 + 1) hq.2.2 (by omega) (by decide) (by decide)) (fun p hp => ?_)
    exact .some (by have := hp.2.2; unfold Tk at *; show 0 ≤ p.2.at_ ∧ p.2.at_ ≤ c + 4; omega)
  · exact .some (by have := hq.2.2; unfold Tk at *; show 0 ≤ q.2.at_ ∧ q.2.at_ ≤ c + 4; omega)
end
end Go.L

namespace Go.L
open Go.AM
set_option maxRecDepth 100000
set_option linter.unusedSimpArgs false
set_option linter.unusedVariables false
set_option linter.unusedSectionVars false

theorem at_in {α : Type} (l : List α) (i : Int) (h0 : 0 ≤ i) (h1 : i < (l.length : Int)) : ∃ x, at? l i = some x ∧ x ∈ l := by
  obtain ⟨j, rfl⟩ : ∃ j : Nat, i = (j : Int) := ⟨i.toNat, by omega⟩
  have hj : j < l.length := by omega
  exact ⟨l[j], by rw [at?_nat]; exact List.getElem?_eq_getElem hj, List.getElem_mem hj⟩

def SegOk (nb : Int) (s : Segment) : Prop := s.Leaves.length ≤ 8 ∧ 1 ≤ s.BDs.length ∧ s.BDs.length ≤ 8 ∧ ∀ y ∈ s.BDs, 0 ≤ y ∧ y < nb

theorem idxS_bind {β : Type} (len m b ver : Nat) (i : Int) (k : Unit → Option β) (h0 : 0 ≤ i) (h1 : i < (len : Int)) : (idxS len m b ver i).run.bind k = k () := by
  simp [idxS, h0, h1]
theorem tk_le {c d : Int} {x : kit_taker} (h : Tk c x) (hd : c ≤ d) : Tk d x := ⟨h.1, Int.le_trans h.2 hd⟩

section
variable {n : Nat}
theorem host_good (x : kit_taker) (L S : Int) (links : List Link) (ten : List Tenant) (bds : List BD) (segs : List Segment) (a8 a9 a10 : Int) (b11 b12 : Bool) (a13 a14 a15 a16 a17 a18 a19 c : Int) (hx : Tk c x) (hc : c ≤ 100000)
    (h1 : 1 ≤ segs.length ∧ segs.length ≤ 8) (h2 : ∀ s ∈ segs, SegOk (bds.length : Int) s) :
    Good (γ := Host × kit_taker) (c_kit_host_2.S n (x, L, S, links, ten, bds, segs, a8, a9, a10, b11, b12, a13, a14, a15, a16, a17, a18, a19)) fun r => Tk (c + 4) r.2 := by
  show Good (γ := Host × kit_taker) ((g_kit_host_2 x L S links ten bds segs a8 a9 a10 b11 b12 a13 a14 a15 a16 a17 a18 a19).run n) _
  simp only [g_kit_host_2, G.run, tsOk, lenO_bind, idxO_bind, if_true, decide_eq_true_eq]
  refine Good.bind (take_good x (segs.length : Int) c hx (by omega) (by omega) (by omega)) (fun r hr => ?_)
  obtain ⟨s, hs, hm⟩ := at_in segs r.1 hr.1 hr.2.1
  have hso := h2 s hm
  rw [hs, Option.bind_some]
  refine Good.bind (take_good r.2 (s.BDs.length : Int) (c + 1) hr.2.2 (by omega) (by have := hso.2.1; omega) (by have := hso.2.2.1; omega)) (fun r' hr' => ?_)
  obtain ⟨d, hd, hdm⟩ := at_in s.BDs r'.1 hr'.1 hr'.2.1
  rw [hd, Option.bind_some]
  obtain ⟨b, hb, _⟩ := at_in bds d (hso.2.2.2 d hdm).1 (hso.2.2.2 d hdm).2
  rw [hb, Option.bind_some]
  have h3 : Tk (c + 1 + 1) r'.2 := hr'.2.2
  split
  · refine Good.bind (take_good r'.2 6 (c + 1 + 1) h3 (by omega) (by decide) (by decide)) (fun q hq => ?_)
    split
    · rw [Option.bind_some]
      refine Good.bind (take_good q.2 10 (c + 1 + 1 + 1) hq.2.2 (by omega) (by decide) (by decide)) (fun p hp => ?_)
      split <;> exact .some (tk_le hp.2.2 (by omega))
    · refine Good.bind (take_good q.2 10 (c + 1 + 1 + 1) hq.2.2 (by omega) (by decide) (by decide)) (fun p hp => ?_)
      split <;> exact .some (tk_le hp.2.2 (by omega))
  · refine Good.bind (take_good r'.2 10 (c + 1 + 1) h3 (by omega) (by decide) (by decide)) (fun p hp => ?_)
    split <;> exact .some (tk_le hp.2.2 (by omega))

structure Sz (f : Fabric) : Prop where
  leaves : 2 ≤ f.Leaves ∧ f.Leaves ≤ 4
  spines : 1 ≤ f.Spines ∧ f.Spines ≤ 3
  links : f.Links.length ≤ 32
  tenants : 1 ≤ f.Tenants.length ∧ f.Tenants.length ≤ 3
  bds : 1 ≤ f.BDs.length ∧ f.BDs.length ≤ 4
  segments : 2 ≤ f.Segments.length ∧ f.Segments.length ≤ 6
  hosts : f.Hosts.length ≤ 8
  leaks : f.Leaks.length ≤ 2
  seg : ∀ s ∈ f.Segments, SegOk (f.BDs.length : Int) s

theorem fabric_good (l : List Int) (hn : 5000 ≤ n) : Good (γ := Fabric) (c_kit_Fabric.S n l) Sz := by
  show Good (γ := Fabric) ((g_kit_Fabric l).run n) _
  simp only [g_kit_Fabric, G.run, tsOk, lenO_bind, idxO_bind, appO_bind, if_true, decide_eq_true_eq]
  refine Good.bind (take_good (n := n) (Go.L.kit_taker.mk l 0) 3 0 ⟨Int.le_refl _, Int.le_refl _⟩ (by decide) (by decide) (by decide)) (fun r2 h2 => ?_)
  refine Good.bind (take_good r2.2 3 1 h2.2.2 (by decide) (by decide) (by decide)) (fun r3 h3 => ?_)
  refine Good.bind (take_good r3.2 3 2 h3.2.2 (by decide) (by decide) (by decide)) (fun r4 h4 => ?_)
  refine Good.bind (take_good r4.2 2 3 h4.2.2 (by decide) (by decide) (by decide)) (fun r5 h5 => ?_)
  refine Good.bind (take_good r5.2 2 4 h5.2.2 (by decide) (by decide) (by decide)) (fun r6 h6 => ?_)
  refine Good.bind (take_good r6.2 2 5 h6.2.2 (by decide) (by decide) (by decide)) (fun r7 h7 => ?_)
  refine Good.bind (take_good r7.2 3 6 h7.2.2 (by decide) (by decide) (by decide)) (fun r8 h8 => ?_)
  refine Good.bind (take_good r8.2 3 7 h8.2.2 (by decide) (by decide) (by decide)) (fun r9 h9 => ?_)
  refine Good.bind (take_good r9.2 30 8 h9.2.2 (by decide) (by decide) (by decide)) (fun r10 h10 => ?_)
  obtain ⟨l1, l2, -⟩ := h2
  obtain ⟨p1, p2, -⟩ := h3
  have wl : Go.IntKind.wrap .i64 (2 + r2.1) = 2 + r2.1 := wrap_i64 (by omega) (by omega)
  have wp : Go.IntKind.wrap .i64 (1 + r3.1) = 1 + r3.1 := wrap_i64 (by omega) (by omega)
  rw [wl, wp]
  refine Good.bind (links_good r10.2 (2 + r2.1) (1 + r3.1) 9 h10.2.2 (by decide) (by omega) (by omega) hn) (fun r11 h11 => ?_)
  refine Good.bind (γ := List Int × Int × List Tenant) (Q := fun t => 1 ≤ t.2.2.length ∧ t.2.2.length ≤ 3 ∧ 0 ≤ t.2.1 ∧ t.2.1 ≤ 77) ?_ (fun t1 ht1 => ?_)
  · obtain ⟨k1, k2⟩ := h11.2
    refine good_iter (fun j (s : Int × List Int × Int × List Tenant) => s.1 = (j : Int) ∧ 0 ≤ s.2.2.1 ∧ s.2.2.1 ≤ 73 + (j : Int) ∧ (s.2.2.2.length : Int) = (j : Int)) 3 (fun j s hj hs => ?_) (fun s hs => ?_) (by omega) ⟨rfl, k1, by simp; omega, by simp⟩
    · obtain ⟨g1, g2, g3, g4⟩ := hs
      refine Good.bind (take_good (n := n) (Go.L.kit_taker.mk s.2.1 s.2.2.1) 3 (73 + (j : Int)) ⟨g2, g3⟩ (by omega) (by decide) (by decide)) (fun r hr => ?_)
      obtain ⟨s1, s2, s3, s4⟩ := hr
      have w : Go.IntKind.wrap .i64 (s.1 + 1) = s.1 + 1 := wrap_i64 (by omega) (by omega)
      have hroom : roomy (s.2.2.2.length + 1) 8 = true := by simp [roomy]; omega
      by_cases hle : s.1 ≤ r.1
      · rw [if_pos hle, if_pos ⟨trivial, hroom⟩, w]
        refine .some ⟨?_, ?_, ?_, ?_⟩ <;> (try simp only [List.length_append, List.length_cons, List.length_nil]) <;> omega
      · rw [if_neg hle]
        refine .some ⟨?_, ?_, ?_, ?_⟩ <;> (try simp only [List.length_append, List.length_cons, List.length_nil]) <;> omega
    · obtain ⟨g1, g2, g3, g4⟩ := hs
      refine Good.bind (take_good (n := n) (Go.L.kit_taker.mk s.2.1 s.2.2.1) 3 76 ⟨g2, by simpa using g3⟩ (by omega) (by decide) (by decide)) (fun r hr => ?_)
      obtain ⟨s1, s2, s3, s4⟩ := hr
      have hle : ¬ s.1 ≤ r.1 := by omega
      rw [if_neg hle]
      refine .some ⟨?_, ?_, ?_, ?_⟩ <;> (try simp only [List.length_append, List.length_cons, List.length_nil]) <;> omega
  obtain ⟨u1, u2, u3, u4⟩ := ht1
  refine Good.bind (take_good (n := n) (Go.L.kit_taker.mk t1.1 t1.2.1) 4 77 ⟨u3, u4⟩ (by decide) (by decide) (by decide)) (fun r25 h25 => ?_)
  obtain ⟨q1, q2, q3⟩ := h25
  have w25 : Go.IntKind.wrap .i64 (1 + r25.1) = 1 + r25.1 := wrap_i64 (by omega) (by omega)
  rw [w25]
  simp [fzRow]
  refine Good.bind (γ := List Int × Int × List BD) (Q := fun t => 1 ≤ t.2.2.length ∧ t.2.2.length ≤ 4 ∧ 0 ≤ t.2.1 ∧ t.2.1 ≤ 86) ?_ (fun t2 ht2 => ?_)
  · refine good_iter (fun j (s : Int × List Int × Int × List BD) => s.1 = (j : Int) ∧ 0 ≤ s.2.2.1 ∧ s.2.2.1 ≤ 78 + 2 * (j : Int) ∧ (s.2.2.2.length : Int) = (j : Int)) (1 + r25.1).toNat (fun j s hj hs => ?_) (fun s hs => ?_) (by omega) ⟨rfl, q3.1, by have := q3.2; simp; omega, by simp⟩
    · obtain ⟨g1, g2, g3, g4⟩ := hs
      have hlt : s.1 < 1 + r25.1 := by omega
      rw [if_pos hlt]
      refine Good.bind (domain_good (n := n) (Go.L.kit_taker.mk s.2.1 s.2.2.1) s.1 (t1.2.2.length : Int) (78 + 2 * (j : Int)) ⟨g2, g3⟩ (by omega) (by omega)) (fun r hr => ?_)
      obtain ⟨s3, s4⟩ := hr
      have w : Go.IntKind.wrap .i64 (s.1 + 1) = s.1 + 1 := wrap_i64 (by omega) (by omega)
      have hroom : roomy (s.2.2.2.length + 1) 40 = true := by simp [roomy]; omega
      rw [if_pos hroom, w]
      refine .some ⟨?_, ?_, ?_, ?_⟩ <;> (try simp only [List.length_append, List.length_cons, List.length_nil]) <;> omega
    · obtain ⟨g1, g2, g3, g4⟩ := hs
      have hlt : ¬ s.1 < 1 + r25.1 := by omega
      rw [if_neg hlt]
      refine .some ⟨?_, ?_, ?_, ?_⟩ <;> (try simp only [List.length_append, List.length_cons, List.length_nil]) <;> omega
  obtain ⟨b1, b2, b3, b4⟩ := ht2
  refine Good.bind (take_good (n := n) (Go.L.kit_taker.mk t2.1 t2.2.1) 5 86 ⟨b3, b4⟩ (by decide) (by decide) (by decide)) (fun r39 h39 => ?_)
  obtain ⟨q1', q2', q3'⟩ := h39
  have w39 : Go.IntKind.wrap .i64 (2 + r39.1) = 2 + r39.1 := wrap_i64 (by omega) (by omega)
  rw [w39]
  refine Good.bind (γ := List Int × Int × List Segment) (Q := fun t => 2 ≤ t.2.2.length ∧ t.2.2.length ≤ 6 ∧ (∀ y ∈ t.2.2, SegOk (t2.2.2.length : Int) y) ∧ 0 ≤ t.2.1 ∧ t.2.1 ≤ 195) ?_ (fun t3 ht3 => ?_)
  · refine good_iter (fun j (s : Int × List Int × Int × List Segment) => s.1 = (j : Int) ∧ 0 ≤ s.2.2.1 ∧ s.2.2.1 ≤ 87 + 18 * (j : Int) ∧ (s.2.2.2.length : Int) = (j : Int) ∧ ∀ y ∈ s.2.2.2, SegOk (t2.2.2.length : Int) y) (2 + r39.1).toNat (fun j s hj hs => ?_) (fun s hs => ?_) (by omega) ⟨rfl, q3'.1, by have := q3'.2; simp; omega, by simp, by simp⟩
    · obtain ⟨g1, g2, g3, g4, g5⟩ := hs
      have hlt : s.1 < 2 + r39.1 := by omega
      rw [if_pos hlt]
      refine Good.bind (some_good (n := n) (Go.L.kit_taker.mk s.2.1 s.2.2.1) (2 + r2.1) 3 (87 + 18 * (j : Int)) ⟨g2, g3⟩ (by omega) (by omega) hn) (fun r hr => ?_)
      obtain ⟨e1, e2, e3, e4⟩ := hr
      refine Good.bind (some_good (n := n) r.2 (t2.2.2.length : Int) 4 (87 + 18 * (j : Int) + 9) e4 (by omega) (by omega) hn) (fun r' hr' => ?_)
      obtain ⟨e5, e6, e7, e8, e9⟩ := hr'
      have w : Go.IntKind.wrap .i64 (s.1 + 1) = s.1 + 1 := wrap_i64 (by omega) (by omega)
      have hroom : roomy (s.2.2.2.length + 1) 48 = true := by simp [roomy]; omega
      rw [if_pos hroom, w]
      refine .some ⟨?_, ?_, ?_, ?_, fun y hy => ?_⟩
      · omega
      · exact e8
      · show r'.2.at_ ≤ 87 + 18 * ((j + 1 : Nat) : Int); omega
      · simp only [List.length_append, List.length_cons, List.length_nil]; omega
      · rcases List.mem_append.1 hy with hy | hy
        · exact g5 y hy
        · simp only [List.mem_singleton] at hy
          subst hy
          exact ⟨e2, e5, e6, e7⟩
    · obtain ⟨g1, g2, g3, g4, g5⟩ := hs
      have hlt : ¬ s.1 < 2 + r39.1 := by omega
      rw [if_neg hlt]
      refine .some ⟨?_, ?_, g5, g2, ?_⟩ <;> (try simp only [List.length_append, List.length_cons, List.length_nil]) <;> omega
  obtain ⟨c1, c2, c3, c4, c5⟩ := ht3
  refine Good.bind (take_good (n := n) (Go.L.kit_taker.mk t3.1 t3.2.1) 9 195 ⟨c4, c5⟩ (by decide) (by decide) (by decide)) (fun r56 h56 => ?_)
  obtain ⟨v1, v2, v3⟩ := h56
  refine Good.bind (γ := List Int × Int × List Host) (Q := fun t => t.2.2.length ≤ 8 ∧ 0 ≤ t.2.1 ∧ t.2.1 ≤ 228) ?_ (fun t4 ht4 => ?_)
  · refine good_iter (fun j (s : Int × List Int × Int × List Host) => s.1 = (j : Int) ∧ 0 ≤ s.2.2.1 ∧ s.2.2.1 ≤ 196 + 4 * (j : Int) ∧ (s.2.2.2.length : Int) = (j : Int)) r56.1.toNat (fun j s hj hs => ?_) (fun s hs => ?_) (by omega) ⟨rfl, v3.1, by have := v3.2; simp; omega, by simp⟩
    · obtain ⟨g1, g2, g3, g4⟩ := hs
      have hlt : s.1 < r56.1 := by omega
      rw [if_pos hlt]
      refine Good.bind (host_good (n := n) (Go.L.kit_taker.mk s.2.1 s.2.2.1) _ _ _ _ t2.2.2 t3.2.2 _ _ _ _ _ _ _ _ _ _ _ _ (196 + 4 * (j : Int)) ⟨g2, g3⟩ (by omega) (by omega) c3) (fun r hr => ?_)
      obtain ⟨s3, s4⟩ := hr
      have w : Go.IntKind.wrap .i64 (s.1 + 1) = s.1 + 1 := wrap_i64 (by omega) (by omega)
      have hroom : roomy (s.2.2.2.length + 1) 32 = true := by simp [roomy]; omega
      rw [if_pos hroom, w]
      refine .some ⟨?_, ?_, ?_, ?_⟩ <;> (try simp only [List.length_append, List.length_cons, List.length_nil]) <;> omega
    · obtain ⟨g1, g2, g3, g4⟩ := hs
      have hlt : ¬ s.1 < r56.1 := by omega
      rw [if_neg hlt]
      refine .some ⟨?_, ?_, ?_⟩ <;> (try simp only [List.length_append, List.length_cons, List.length_nil]) <;> omega
  obtain ⟨d1, d2, d3⟩ := ht4
  have hsz : ∀ lk : List Leak, lk.length ≤ 2 → Sz { Leaves := 2 + r2.1, Spines := 1 + r3.1, Links := r11.1, Tenants := t1.2.2, BDs := t2.2.2, Segments := t3.2.2, Hosts := t4.2.2, Leaks := lk, Elect := r4.1, Horizon := r5.1, Router := r6.1, Suppress := r7.1 == 0, Trees := r8.1 == 1, Timers := { Detect := Go.IntKind.wrap .i64 (1 + r9.1), Hold := 9, Age := Go.IntKind.wrap .i64 (40 + r10.1), Restart := 20, Moves := 5, Window := 30 } } := fun lk hlk =>
    ⟨⟨by show 2 ≤ 2 + r2.1; omega, by show 2 + r2.1 ≤ 4; omega⟩, ⟨by show 1 ≤ 1 + r3.1; omega, by show 1 + r3.1 ≤ 3; omega⟩, h11.1, ⟨u1, u2⟩, ⟨b1, b2⟩, ⟨c1, c2⟩, d1, hlk, c3⟩
  by_cases hm : (1 : Int) < (t1.2.2.length : Int)
  · rw [if_pos (by simpa using hm)]
    refine Good.bind (take_good (n := n) (Go.L.kit_taker.mk t4.1 t4.2.1) 3 228 ⟨d2, d3⟩ (by decide) (by decide) (by decide)) (fun r70 h70 => ?_)
    obtain ⟨v1', v2', v3'⟩ := h70
    refine Good.bind (γ := List Int × Int × List Leak) (Q := fun t => t.2.2.length ≤ 2) ?_ (fun t5 ht5 => ?_)
    · refine good_iter (fun j (s : Int × List Int × Int × List Leak) => s.1 = (j : Int) ∧ 0 ≤ s.2.2.1 ∧ s.2.2.1 ≤ 229 + 4 * (j : Int) ∧ (s.2.2.2.length : Int) ≤ (j : Int)) r70.1.toNat (fun j s hj hs => ?_) (fun s hs => ?_) (by omega) ⟨rfl, v3'.1, by have := v3'.2; simp; omega, by simp⟩
      · obtain ⟨g1, g2, g3, g4⟩ := hs
        have hlt : s.1 < r70.1 := by omega
        rw [if_pos hlt]
        refine Good.bind (leak_good (n := n) (Go.L.kit_taker.mk s.2.1 s.2.2.1) (t1.2.2.length : Int) (229 + 4 * (j : Int)) ⟨g2, g3⟩ (by omega) (by omega)) (fun r hr => ?_)
        obtain ⟨s3, s4⟩ := hr
        have w : Go.IntKind.wrap .i64 (s.1 + 1) = s.1 + 1 := wrap_i64 (by omega) (by omega)
        have hroom : roomy (s.2.2.2.length + 1) 32 = true := by simp [roomy]; omega
        refine Good.bind (γ := Unit ⊕ Unit) (Q := fun _ => True) ?_ (fun t _ => ?_)
        · refine good_iter (fun i (q : Int) => q = (i : Int)) s.2.2.2.length (fun i q hi hq => ?_) (fun q hq => ?_) (by omega) rfl
          · subst hq
            have hlt : (i : Int) < (s.2.2.2.length : Int) := by omega
            rw [if_pos hlt, idxS_bind _ _ _ _ _ _ (by omega) hlt]
            simp only [ldO_bind, Int.toNat_natCast, List.getElem?_eq_getElem hi, Option.bind_some]
            split
            · exact .some trivial
            · exact .some (wrap_nat (by omega))
          · subst hq
            simp only [Int.lt_irrefl, if_false]
            exact .some trivial
        · cases t with
          | inl _ =>
            simp only [Sum.elim, G.run, tsOk, if_true]
            rw [w]
            refine .some ⟨?_, ?_, ?_, ?_⟩ <;> (try simp only [List.length_append, List.length_cons, List.length_nil]) <;> omega
          | inr _ =>
            simp only [Sum.elim, G.run, tsOk, appO_bind, if_true]
            rw [if_pos ⟨trivial, hroom⟩, w]
            refine .some ⟨?_, ?_, ?_, ?_⟩ <;> (try simp only [List.length_append, List.length_cons, List.length_nil]) <;> omega
      · obtain ⟨g1, g2, g3, g4⟩ := hs
        have hlt : ¬ s.1 < r70.1 := by omega
        rw [if_neg hlt]
        exact .some (by show s.2.2.2.length ≤ 2; omega)
    · exact .some (hsz _ ht5)
  · rw [if_neg (by simpa using hm)]
    exact .some (hsz [] (by simp))
end
end Go.L
namespace Go.L
open Go.AM
set_option maxRecDepth 100000
set_option linter.unusedSimpArgs false
set_option linter.unusedVariables false
set_option linter.unusedSectionVars false

theorem known_b {β : Type} {n : Nat} (k : c_law31_GatewayKnown.sh.El → Option β) : (c_law31_GatewayKnown.S n ()).bind k = k true := rfl
def nodeS (m : Int) : Int × Bool := if m < 2199023255552 then (0, false) else if m ≥ 2199023255584 then (0, false) else (Go.IntKind.wrap .i64 (Go.IntKind.wrap .u64 (m - 2199023255552)), true)
section
variable {β : Type} {n : Nat}
theorem loopback31 (x : Int) (k : c_law31_loopback.sh.El → Option β) : (c_law31_loopback.S n x).bind k = k (lbS x) := by
  have : c_law31_loopback.S n x = some (lbS x) := by
    show (g_law31_loopback x).run n = _
    simp only [g_law31_loopback, G.run, tsOk, addr_Loopback, if_true] <;> rfl
  rw [this]; rfl
theorem router31 (x : Int) (k : c_law31_router.sh.El → Option β) : (c_law31_router.S n x).bind k = k (rmS x) := by
  have : c_law31_router.S n x = some (rmS x) := by
    show (g_law31_router x).run n = _
    simp only [g_law31_router, G.run, tsOk, addr_RouterMAC, if_true] <;> rfl
  rw [this]; rfl
theorem node_b (m : Int) (k : c_addr_RouterNode.sh.El → Option β) : (c_addr_RouterNode.S n m).bind k = k (nodeS m) := by
  have : c_addr_RouterNode.S n m = some (nodeS m) := by
    show (g_addr_RouterNode m).run n = _
    simp only [g_addr_RouterNode, G.run, tsOk, nodeS, decide_eq_true_eq, if_true]
    split
    · rfl
    · split <;> rfl
  rw [this]; rfl
theorem named_b (f : Fabric) (v : Int) (hl : f.Tenants.length < n) (hs : f.Tenants.length ≤ 4000) (k : c_law31_named.sh.El → Option β) : (c_law31_named.S n (f, v)).bind k = k (idxOf (fun x : Tenant => x.VNI == v) f.Tenants) := by
  have : c_law31_named.S n (f, v) = some (idxOf (fun x : Tenant => x.VNI == v) f.Tenants) := by
    show (g_law31_named f v).run n = _
    simp only [g_law31_named, G.run, tsOk, lenO_bind, idxO_bind, if_true]
    refine bind_index f.Tenants (fun x : Tenant => x.VNI == v) hl (fun i x hx => ?_) ?_ ?_
    · have hi := (List.getElem?_eq_some_iff.1 hx).1
      have hlt : (i : Int) < f.Tenants.length := by omega
      simp only [at?_nat, hx, Option.bind_some, hlt, decide_true, if_true, wrap_nat (show i < 9223372036854775807 by omega)]
      split <;> rfl
    · simp only [Int.lt_irrefl, decide_false, Bool.false_eq_true, if_false] <;> rfl
    · unfold idxOf; cases f.Tenants.findIdx? (fun x : Tenant => x.VNI == v) <;> rfl
  rw [this]; rfl
end

/-- What becomes of a frame: dropped, bridged, or sent. -/
theorem route_cases (n : Nat) (f : Fabric) (leaf tenant : Int) (t : Tables) (x : Frame) (tun : Bool) :
    RouteS n f leaf tenant t x tun = zR ∨
    (2 ≤ x.IP.TTL ∧ ∃ bd m, RouteS n f leaf tenant t x tun = Routed.mk (1 : Int) bd (agedS x (1577058561 : Int) m) zP) ∨
    (2 ≤ x.IP.TTL ∧ okF f = true ∧ x.Kind = 2 ∧ tun = false ∧ ∃ h, RouteS n f leaf tenant t x tun = tunnelS n leaf h x) := by
  unfold RouteS
  split
  · rename_i hok
    split
    · exact Or.inl rfl
    split
    · exact Or.inl rfl
    split
    · exact Or.inl rfl
    split
    · exact Or.inl rfl
    split
    · exact Or.inl rfl
    rename_i hk
    split
    · exact Or.inl rfl
    rename_i ht
    have hk2 : x.Kind = 2 := by simpa using hk
    split
    · exact Or.inl rfl
    split
    · unfold hopS
      split
      · split
        · exact Or.inl rfl
        · rename_i htun
          exact Or.inr (Or.inr ⟨by omega, hok, hk2, by simpa using htun, _, rfl⟩)
      · cases hostS (lookS t.Hops tenant x.IP.Dst).Hop t.Known x.IP.Dst with
        | none => exact Or.inl rfl
        | some m => exact Or.inr (Or.inl ⟨by omega, _, m, rfl⟩)
    · exact Or.inl rfl
  · exact Or.inl rfl

theorem node_in {m k : Int} (h : nodeS m = (k, true)) : 0 ≤ k ∧ k < 32 ∧ rmS k = m := by
  unfold nodeS at h
  split at h
  · cases h
  · split at h
    · cases h
    · simp only [Prod.mk.injEq, and_true] at h
      have w1 : Go.IntKind.wrap .u64 (m - 2199023255552) = m - 2199023255552 := wrap_u64_id (by omega) (by omega)
      rw [w1, wrap_i64 (by omega) (by omega)] at h
      subst h
      refine ⟨by omega, by omega, ?_⟩
      unfold rmS
      rw [if_neg (by omega), if_neg (by omega), wrap_u64_id (by omega) (by omega), wrap_u64_id (by omega) (by omega)]
      omega
end Go.L
namespace Go.L
open Go.AM
set_option maxRecDepth 100000
set_option linter.unusedSimpArgs false
set_option linter.unusedVariables false
set_option linter.unusedSectionVars false

theorem sz_small {f : Fabric} (h : Sz f) : Small f := by
  have h1 := h.links; have h2 := h.tenants; have h3 := h.bds; have h4 := h.segments; have h5 := h.hosts; have h6 := h.leaks
  refine ⟨by omega, by omega, by omega, by omega, by omega, by omega, fun s hs => ?_⟩
  have := h.seg s hs
  exact ⟨by have := this.1; omega, by have := this.2.2.1; omega⟩

theorem look_none {l : List Hop} {t ip : Int} (h : ∀ x ∈ l, x.Tenant ≠ t) : (lookS l t ip).ok = false := by
  have key : ∀ (l : List Hop) (b : route_found), b.ok = false → (∀ x ∈ l, x.Tenant ≠ t) → (l.foldl (stepL t ip) b).ok = false := by
    intro l
    induction l with
    | nil => intro b hb _; exact hb
    | cons x l ih =>
      intro b hb hx
      refine ih _ ?_ fun y hy => hx y (by simp [hy])
      have hne : x.Tenant ≠ t := hx x (by simp)
      simp [stepL, hne, hb]
  exact key l _ rfl h

theorem route_none {n : Nat} {f : Fabric} {leaf tenant : Int} {t : Tables} {x : Frame} {tun : Bool} (h : (lookS t.Hops tenant x.IP.Dst).ok = false) : RouteS n f leaf tenant t x tun = zR := by
  unfold RouteS
  repeat' split
  all_goals first | rfl | simp_all
theorem route_old {n : Nat} {f : Fabric} {leaf tenant : Int} {t : Tables} {x : Frame} {tun : Bool} (h : x.IP.TTL < 2) : RouteS n f leaf tenant t x tun = zR := by
  unfold RouteS
  repeat' split
  all_goals first | rfl | simp_all
theorem route_kind {n : Nat} {f : Fabric} {leaf tenant : Int} {t : Tables} {x : Frame} {tun : Bool} (h : x.Kind ≠ 2) : RouteS n f leaf tenant t x tun = zR := by
  unfold RouteS
  repeat' split
  all_goals first | rfl | simp_all
theorem route_own {n : Nat} {f : Fabric} {leaf tenant : Int} {t : Tables} {x : Frame} {tun : Bool} (h : ownS f tenant x.IP.Dst = true) : RouteS n f leaf tenant t x tun = zR := by
  unfold RouteS
  repeat' split
  all_goals first | rfl | simp_all

theorem apart_run (l : List Int) (leaf tenant bd : Int) (t : Tables) (x : Frame) : (g_law31_GatewayApart l leaf tenant bd t x).run 6000 = some true := by
  obtain ⟨c, hw, ht⟩ := many_small 6000 t (by decide)
  have many_b : ∀ {β : Type} (k : c_kit_ManyTables.sh.El → Option β), (c_kit_ManyTables.S 6000 t).bind k = k c := fun k => by rw [hw]; rfl
  obtain ⟨f, hf, hz⟩ := fabric_good (n := 6000) l (by decide)
  have fab_b : ∀ {β : Type} (k : c_kit_Fabric.sh.El → Option β), (c_kit_Fabric.S 6000 l).bind k = k f := fun k => (congrArg (fun o => Option.bind o k) hf).trans rfl
  have hs := sz_small hz
  have hn : 5000 ≤ 6000 := by decide
  have hL := hz.leaves
  have hT := hz.tenants
  have hB := hz.bds
  have m1 : ∀ {β : Type} (k : c_kit_Mod.sh.El → Option β), (c_kit_Mod.S 6000 (leaf, f.Leaves)).bind k = k (leaf % f.Leaves) := fun k => by rw [kit_Mod 6000 leaf f.Leaves (by omega) (by omega)]; rfl
  have m2 : ∀ {β : Type} (k : c_kit_Mod.sh.El → Option β), (c_kit_Mod.S 6000 (tenant, (f.Tenants.length : Int))).bind k = k (tenant % (f.Tenants.length : Int)) := fun k => by rw [kit_Mod 6000 tenant (f.Tenants.length : Int) (by omega) (by omega)]; rfl
  have m3 : ∀ {β : Type} (k : c_kit_Mod.sh.El → Option β), (c_kit_Mod.S 6000 (bd, (f.BDs.length : Int))).bind k = k (bd % (f.BDs.length : Int)) := fun k => by rw [kit_Mod 6000 bd (f.BDs.length : Int) (by omega) (by omega)]; rfl
  simp only [g_law31_GatewayApart, G.run, tsOk, known_b, many_b, fab_b, m1, m2, m3, lenO_bind, idxO_bind, appO_bind, if_true]
  cases c with
  | true => simp only [if_true]; rfl
  | false =>
    obtain ⟨hh, hk⟩ := ht rfl
    generalize hlf : leaf % f.Leaves = lf
    generalize htn : tenant % (f.Tenants.length : Int) = tn
    obtain ⟨b, hb, hbm⟩ := at_in f.BDs (bd % (f.BDs.length : Int)) (Int.emod_nonneg _ (by omega)) (Int.emod_lt_of_pos _ (by omega))
    have e1 : ∀ {γ : Type} (tn : Int) (u : Tables) (y : Frame) (k : c_gateway_Route.sh.El → Option γ), u.Hops.length ≤ 4000 → u.Known.length ≤ 4000 → (c_gateway_Route.S 6000 (f, lf, tn, u, y, false)).bind k = k (RouteS 6000 f lf tn u y false) := fun tn u y k hh hk => gateway_Route hn hs lf tn u y false hh hk k
    simp only [Bool.false_eq_true, if_false, hb, Option.bind_some]
    have hgood : ∀ {o : Option Bool}, Good (γ := Bool) o (fun r => r = true) → o = some true := fun ⟨v, e, hv⟩ => by rw [e, hv]
    refine hgood ?_
    refine Good.bind (γ := List Hop) (Q := fun q => q.length ≤ 4000 ∧ ∀ h ∈ q, h.Tenant ≠ tn) ?_ (fun q hq => ?_)
    · refine good_iter (fun j (s : Int × List Hop) => s.1 = (j : Int) ∧ s.2.length ≤ j ∧ ∀ h ∈ s.2, h.Tenant ≠ tn) t.Hops.length (fun j s hj hs => ?_) (fun s hs => ?_) (by omega) ⟨rfl, by simp, by simp⟩
      · obtain ⟨h1, h2, h3⟩ := hs
        have hlt : s.1 < (t.Hops.length : Int) := by omega
        have w : Go.IntKind.wrap .i64 (s.1 + 1) = s.1 + 1 := wrap_i64 (by omega) (by omega)
        have hat : at? t.Hops s.1 = some t.Hops[j] := by rw [h1, at?_nat]; exact List.getElem?_eq_getElem hj
        have hroom : roomy (s.2.length + 1) 56 = true := by simp [roomy]; omega
        simp only [hlt, decide_true, if_true, hat, Option.bind_some, w]
        by_cases hne : (t.Hops[j].Tenant != tn) = true
        · simp only [hne, if_true]
          rw [if_pos ⟨trivial, hroom⟩]
          refine .some ⟨by show s.1 + 1 = ((j + 1 : Nat) : Int); omega, by simp; omega, fun h hm => ?_⟩
          rcases List.mem_append.1 hm with hm | hm
          · exact h3 h hm
          · simp only [List.mem_singleton] at hm; subst hm; simpa using hne
        · simp only [hne, Bool.false_eq_true, if_false]
          exact .some ⟨by show s.1 + 1 = ((j + 1 : Nat) : Int); omega, by show s.2.length ≤ j + 1; omega, h3⟩
      · obtain ⟨h1, h2, h3⟩ := hs
        have hlt : ¬ s.1 < (t.Hops.length : Int) := by omega
        simp only [hlt, decide_false, Bool.false_eq_true, if_false]
        exact .some ⟨by show s.2.length ≤ 4000; omega, h3⟩
    · obtain ⟨q1, q2⟩ := hq
      have fz : ∀ {γ : Type} (k : Unit → Option γ), tsOk [TS.frz (fzRow (.s 64) 3 0 8 (List.length q) q Go.L.eHop fun _ => rfl)] = true := fun _ => by simp [tsOk, fzRow]
      rw [if_pos (by simp [tsOk, fzRow])]
      rw [e1 tn ⟨t.Far, t.Known, t.Flood, t.Forwarders, t.Sharing, q⟩ x _ q1 hk, route_none (look_none q2)]
      simp only [zR, zF, zP, beq_self_eq_true, Bool.and_self, Bool.not_true, Bool.false_eq_true, if_false]
      rw [e1 tn t (Go.L.Frame.mk x.Src x.Dst x.Kind x.ARP (Go.L.Head.mk x.IP.Src x.IP.Dst (@ite Int ((1 : Int) < x.IP.TTL) (Int.decLt (1 : Int) x.IP.TTL) (1 : Int) x.IP.TTL) x.IP.Proto x.IP.SrcPort x.IP.DstPort) x.Data) _ hh hk, route_old (by show (if (1 : Int) < x.IP.TTL then (1 : Int) else x.IP.TTL) < 2; split <;> omega)]
      simp only [zR, zF, zP, beq_self_eq_true, Bool.and_self, Bool.not_true, Bool.false_eq_true, if_false]
      rw [e1 tn t (Go.L.Frame.mk x.Src x.Dst (1 : Int) x.ARP x.IP x.Data) _ hh hk, route_kind (by show (1 : Int) ≠ 2; decide)]
      simp only [zR, zF, zP, beq_self_eq_true, Bool.and_self, Bool.not_true, Bool.false_eq_true, if_false]
      split
      · rename_i hg
        rw [e1 b.Tenant _ _ _ hh hk, route_own]
        · simp only [zR, zF, zP, beq_self_eq_true, Bool.and_self]
          exact .some rfl
        · simp only [ownS, List.any_eq_true]
          exact ⟨b, hbm, by simp [ownP]; simpa using hg⟩
      · exact .some rfl
end Go.L
namespace Go.L
open Go.AM
theorem law_gatewayApart (l : List Int) (leaf tenant bd : Int) (t : Tables) (x : Frame) (h : ∀ a ∈ l, (Go.Lit.int .i64 a).wf = true) (h1 : (Go.Lit.int .i64 leaf).wf = true) (h2 : (Go.Lit.int .i64 tenant).wf = true) (h3 : (Go.Lit.int .i64 bd).wf = true) (h4 : okTables t) (h5 : okFrame x) :
    FnVal prog 9 [.lst (l.map (eI .i64)), .sc (.int .i64 leaf), .sc (.int .i64 tenant), .sc (.int .i64 bd), .agg (eTables t), .agg (eFrame x)] (.ret (.sc (.bool true))) :=
  c_law31_GatewayApart.ok 6000 (l, leaf, tenant, bd, t, x) true (apart_run l leaf tenant bd t x)
end Go.L
namespace Go.Proofs.Ytomlhceogkfnlaa.gatewayApart
open Go.ChangeShapes Go.WideShapes Go.ChangeAt Go.RowKit Go.AM Go.L
set_option linter.unusedVariables false

theorem own : ownKnob Try.prog.godebug = none := by kernel_rfl
theorem slices : ((List.range Try.prog.types.size).all fun t => match Try.prog.underlying t with | some (.slice e) => decide (0 < Try.prog.cellsOf e) | _ => true) = true := by kernel_rfl
theorem maps : mapsRowed Try.prog = true := by kernel_rfl
theorem inTable : (Try.f9.params.toList.all fun t => Nat.ble (t + 1) Try.prog.types.size) = true := by kernel_rfl
set_option maxRecDepth 100000 in
theorem contract (H : Type) (enc : TypeId × Value → H) (W : World) (base : Nat) (args : Array Value) (ds gs : List (DataW H)) (before : List MemPlace)
    (hval : ∀ (j : Nat) t v, Try.f9.params[j]? = some t → args[j]? = some v → Value.okWide Try.prog W .any base t v)
    (hW : DataW.Whole enc Try.prog Try.f9.params.toList Rows.gatewayApartSpec.vars false W args.toList ds gs before) :
    Calls Try.prog 9 args W fun e W' => ∃ v, e = .returned v ∧ Rows.gatewayApartSpec.post enc Try.prog Try.f9 false true false false W args v W' := by
  have hW' := hW
  have hlt := hW.lt
  obtain ⟨p, q, hA0, hV, rfl, hfz, hnd⟩ := hW
  have hA : DataW.TrodAll enc Try.prog W 0 (fun _ => true) true Try.f9.params.toList args.toList ds p := hA0
  clear hA0
  have hAll := hA
  rw [Try.params9] at hA hval
  obtain ⟨v0, r0, d0, e0, p0, q0, hv0, hd0, hp0, t0, hA⟩ := trodAll_cons hA
  obtain ⟨v1, r1, d1, e1, p1, q1, hv1, hd1, hp1, t1, hA⟩ := trodAll_cons hA
  obtain ⟨v2, r2, d2, e2, p2, q2, hv2, hd2, hp2, t2, hA⟩ := trodAll_cons hA
  obtain ⟨v3, r3, d3, e3, p3, q3, hv3, hd3, hp3, t3, hA⟩ := trodAll_cons hA
  obtain ⟨v4, r4, d4, e4, p4, q4, hv4, hd4, hp4, t4, hA⟩ := trodAll_cons hA
  obtain ⟨v5, r5, d5, e5, p5, q5, hv5, hd5, hp5, t5, hA⟩ := trodAll_cons hA
  obtain ⟨hr, hd, hq⟩ := trodAll_nil hA
  obtain rfl : args = #[v0, v1, v2, v3, v4, v5] := by apply Array.ext'; simp only [hv0, hv1, hv2, hv3, hv4, hv5, hr]
  obtain rfl : ds = [d0, d1, d2, d3, d4, d5] := by simp only [hd0, hd1, hd2, hd3, hd4, hd5, hd]
  obtain ⟨rfl, rfl⟩ := trodVars_none hV
  simp only [List.append_nil] at hW' hlt
  obtain ⟨a0, ok0, ra0⟩ := Rdb.cell (c := (cL (eI .i64))) (Rdb.slice Try.underlying42 (by kernel_rfl) (by kernel_rfl) (Rdb.int Try.underlying3 (by kernel_rfl))) (by kernel_rfl) (hval 0 _ _ rfl rfl) t0
  obtain ⟨a1, ok1, ra1⟩ := Rdb.cell (c := (cI .i64)) (Rdb.int Try.underlying3 (by kernel_rfl)) (by kernel_rfl) (hval 1 _ _ rfl rfl) t1
  obtain ⟨a2, ok2, ra2⟩ := Rdb.cell (c := (cI .i64)) (Rdb.int Try.underlying3 (by kernel_rfl)) (by kernel_rfl) (hval 2 _ _ rfl rfl) t2
  obtain ⟨a3, ok3, ra3⟩ := Rdb.cell (c := (cI .i64)) (Rdb.int Try.underlying3 (by kernel_rfl)) (by kernel_rfl) (hval 3 _ _ rfl rfl) t3
  obtain ⟨a4, ok4, ra4⟩ := Rdb.agg rdTables Try.underlying86 (hval 4 _ _ rfl rfl) t4
  obtain ⟨a5, ok5, ra5⟩ := Rdb.agg rdFrame Try.underlying92 (hval 5 _ _ rfl rfl) t5
  refine (law_top (law_gatewayApart a0 a1 a2 a3 a4 a5 ok0 ok1 ok2 ok3 ok4 ok5) W (fun _ _ h => by cases h) _ ⟨_, _, rfl, ra0, ⟨_, _, rfl, ra1, ⟨_, _, rfl, ra2, ⟨_, _, rfl, ra3, ⟨_, _, rfl, ra4, ⟨_, _, rfl, ra5, rfl⟩⟩⟩⟩⟩⟩).mono fun e W' ⟨he, hg⟩ => ?_
  subst he
  exact ⟨_, rfl, post_of_below (pa := p) (pv := []) hW' (fun _ _ _ => (trodAll_cons_mk (shut_bool Try.underlying4 _) trodAll_mk0))
    (fun sp hsp => trodAll_kept laid maps (slices_full_of _ slices) hg (fun t ht => Nat.le_of_ble_eq_true (List.all_eq_true.1 inTable t ht)) hAll hlt hsp) (fun _ _ => rfl) (by simp)
    hg (ok_one (by kernel_rfl) rfl (okWide_bool_mk Try.underlying4 _))⟩

set_option maxRecDepth 100000 in
theorem lifted (os : Os) (started : os.Started) (H : Type) (enc : TypeId × Value → H) :
    ReturnsInHanded {} Try.checked os 9 .any (Rows.gatewayApartSpec.pre6 enc Try.prog Try.f9 Rows.gatewayApartRow.domain false) (Rows.gatewayApartSpec.post enc Try.prog Try.f9 false true false false) := by
  refine returnsInHanded_of_change (C := Try.checked) (s := Rows.gatewayApartSpec) own started (by kernel_rfl) Try.func9
    (ChangeSpec.witness6 (enc := enc) (C := Try.checked) (s := Rows.gatewayApartSpec) false ⟨#[], #[.slice none 0 0, .int .i64 0, .int .i64 0, .int .i64 0, .agg #[.slice none 0 0, .slice none 0 0, .slice none 0 0, .slice none 0 0, .slice none 0 0, .slice none 0 0], .agg #[.int .u64 0, .int .u64 0, .int .i64 0, .int .i64 0, .int .u64 0, .int .u32 0, .int .u64 0, .int .u32 0, .int .u32 0, .int .u32 0, .int .i64 0, .int .i64 0, .int .i64 0, .int .i64 0, .int .u64 0]], []⟩ 8 (by kernel_rfl) (by kernel_rfl) (by kernel_rfl) (by kernel_rfl) (by kernel_rfl)) ?_
  intro W base args ds gs before hval hW _ _
  exact contract H enc W base args ds gs before hval hW

theorem proved : Rows.GatewayApartSaid :=
  OpenClaim.holds_of_wide 9 Try.f9 rfl rfl rfl rfl rfl rfl rfl ⟨rfl, rfl, rfl, rfl, rfl⟩ rfl rfl rfl rfl rfl (by kernel_rfl) Try.func9 (by kernel_rfl)
    (of_decide_eq_true (by kernel_rfl)) (by unfold Func.isWrapper; first | (rw [if_pos (by decide +kernel)]; kernel_rfl) | (rw [if_neg (by decide +kernel)]; exact ⟨rfl, rfl⟩))
    (fun os started H enc _ => lifted os started H enc)
end Go.Proofs.Ytomlhceogkfnlaa.gatewayApart
