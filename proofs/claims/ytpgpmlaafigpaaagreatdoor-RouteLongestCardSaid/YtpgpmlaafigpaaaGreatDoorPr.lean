/- The law of the longest prefix: whatever the hops, the tenant and the address. No conditions. -/
import Derived.Test.YtpgpmlaafigpaaaGreatDoorWr
import Derived.Test.YtpgpmlaafigpaaaGreatDoorAmPl
import Derived.Test.YtpgpmlaafigpaaaGreatDoorWh
namespace Go.L
open Go.AM
set_option maxRecDepth 100000
set_option linter.unusedSimpArgs false
set_option linter.unusedVariables false
set_option linter.unusedSectionVars false
theorem wrap_u32 (x : Int) : Go.IntKind.wrap .u32 x = x % 4294967296 := by
  simp [Go.IntKind.wrap, Go.IntKind.bits, Go.IntKind.signed]
theorem shlO_bind {β : Type} (k1 k2 : Go.IntKind) (a b : Int) (k : Unit → Option β) : (shlO k1 k2 a b).run.bind k = if decide (0 ≤ b) = true then k () else none := by
  show (if decide (0 ≤ b) = true then some () else none).bind k = _
  split <;> rfl
def okPre (p : Prefix) : Bool := decide (0 ≤ p.Len) && decide (p.Len ≤ 32)
def band (a b : Int) : Int := Go.IntKind.wrap .u32 (((BitVec.ofInt 32 a) &&& (BitVec.ofInt 32 b)).toNat : Int)
def bxor (a b : Int) : Int := Go.IntKind.wrap .u32 (((BitVec.ofInt 32 a) ^^^ (BitVec.ofInt 32 b)).toNat : Int)
def maskP (n : Int) : Int := Go.IntKind.wrap .u32 ((4294967295 : Int) * ((2 : Int) ^ (min (Int.toNat (Go.IntKind.wrap .i64 ((32 : Int) - n))) (Go.IntKind.bits .u32))))
def lowP (n : Int) : Int := Go.IntKind.wrap .u32 ((Go.IntKind.wrap .u32 ((1 : Int) * ((2 : Int) ^ (min (Int.toNat (Go.IntKind.wrap .i64 ((32 : Int) - n))) (Go.IntKind.bits .u32))))) - (1 : Int))
def maskR (n : Int) : Int := Go.IntKind.wrap .u32 (((BitVec.ofInt 32 4294967295) ^^^ (BitVec.ofInt 32 (lowP n))).toNat : Int)
theorem mask_eq {n : Int} (h0 : 0 ≤ n) (h1 : n ≤ 32) : maskR n = maskP n := by
  have key : ((List.range 33).all fun k => maskR (k : Int) == maskP (k : Int)) = true := by decide +kernel
  have := List.all_eq_true.1 key n.toNat (List.mem_range.2 (by omega))
  rw [Int.toNat_of_nonneg h0] at this
  simpa using this
def containsS (p : Prefix) (ip : Int) : Bool := okPre p && (band (bxor p.IP ip) (maskP p.Len) == 0)
theorem wrap32 {x : Int} (h0 : 0 ≤ x) (h1 : x ≤ 32) : Go.IntKind.wrap .i64 (32 - x) = 32 - x := wrap_i64 (by omega) (by omega)
theorem wrap_bv (x : BitVec 32) : Go.IntKind.wrap .u32 (x.toNat : Int) = (x.toNat : Int) := by
  rw [wrap_u32]; have := x.isLt; omega
theorem ofInt_toNat (x : BitVec 32) : BitVec.ofInt 32 (x.toNat : Int) = x := by
  apply BitVec.eq_of_toNat_eq
  rw [BitVec.toNat_ofInt]
  have := x.isLt
  omega
theorem toNat_ofInt32 {x : Int} (h0 : 0 ≤ x) (h1 : x ≤ 4294967295) : ((BitVec.ofInt 32 x).toNat : Int) = x := by
  rw [BitVec.toNat_ofInt]; omega
theorem xor_and_zero (a b m : BitVec 32) : (a ^^^ b) &&& m = 0 ↔ a &&& m = b &&& m := by
  constructor
  · intro h
    apply BitVec.eq_of_getElem_eq
    intro i hi
    have := congrArg (fun v : BitVec 32 => v[i]) h
    simp only [BitVec.getElem_and, BitVec.getElem_xor, BitVec.getElem_zero] at this ⊢
    revert this; cases a[i] <;> cases b[i] <;> cases m[i] <;> simp
  · intro h
    apply BitVec.eq_of_getElem_eq
    intro i hi
    have := congrArg (fun v : BitVec 32 => v[i]) h
    simp only [BitVec.getElem_and, BitVec.getElem_xor, BitVec.getElem_zero] at this ⊢
    revert this; cases a[i] <;> cases b[i] <;> cases m[i] <;> simp
theorem band_xor (a b m : Int) : (band (bxor a b) m == 0) = (band a m == band b m) := by
  unfold band bxor
  simp only [wrap_bv, ofInt_toNat]
  rw [Bool.eq_iff_iff]
  simp only [beq_iff_eq]
  constructor
  · intro h
    have h2 : ((BitVec.ofInt 32 a ^^^ BitVec.ofInt 32 b) &&& BitVec.ofInt 32 m) = 0 := by
      apply BitVec.eq_of_toNat_eq; simpa using h
    rw [(xor_and_zero _ _ _).1 h2]
  · intro h
    have h2 : (BitVec.ofInt 32 a &&& BitVec.ofInt 32 m) = (BitVec.ofInt 32 b &&& BitVec.ofInt 32 m) := by
      apply BitVec.eq_of_toNat_eq; omega
    rw [(xor_and_zero _ _ _).2 h2]; rfl

section
variable {β : Type} (n : Nat)
theorem addr_valid (p : Prefix) (k : c_addr_valid.sh.El → Option β) : (c_addr_valid.S n p).bind k = k (okPre p) := by
  have : c_addr_valid.S n p = some (okPre p) := by
    show (g_addr_valid p).run n = _
    simp only [g_addr_valid, G.run, tsOk, okPre, ge_iff_le]
    by_cases h : 0 ≤ p.Len <;> simp [h] <;> rfl
  rw [this]; rfl
theorem addr_mask (x : Int) (h0 : 0 ≤ x) (h1 : x ≤ 32) (k : c_addr_mask.sh.El → Option β) : (c_addr_mask.S n x).bind k = k (maskP x) := by
  have : c_addr_mask.S n x = some (maskP x) := by
    show (g_addr_mask x).run n = _
    simp only [g_addr_mask, G.run, tsOk, shlO_bind, maskP]
    rw [if_pos (by rw [wrap32 h0 h1]; simp; omega)]
    rfl
  rw [this]; rfl
theorem addr_Contains (p : Prefix) (ip : Int) (k : c_addr_Contains.sh.El → Option β) : (c_addr_Contains.S n (p, ip)).bind k = k (containsS p ip) := by
  have : c_addr_Contains.S n (p, ip) = some (containsS p ip) := by
    show (g_addr_Contains p ip).run n = _
    simp only [g_addr_Contains, G.run, tsOk, addr_valid, containsS]
    by_cases h : okPre p = true
    · simp only [h, if_true, Bool.true_and]
      simp only [okPre, Bool.and_eq_true, decide_eq_true_eq] at h
      rw [addr_mask n p.Len h.1 h.2]; rfl
    · simp [h]; rfl
  rw [this]; rfl
theorem ref_valid (p : Prefix) (k : c_ref01_valid.sh.El → Option β) : (c_ref01_valid.S n p).bind k = k (okPre p) := by
  have : c_ref01_valid.S n p = some (okPre p) := by
    show (g_ref01_valid p).run n = _
    simp only [g_ref01_valid, G.run, tsOk, okPre, ge_iff_le]
    by_cases h : 0 ≤ p.Len <;> simp [h] <;> rfl
  rw [this]; rfl
theorem ref_mask (x : Int) (h0 : 0 ≤ x) (h1 : x ≤ 32) (k : c_ref01_mask.sh.El → Option β) : (c_ref01_mask.S n x).bind k = k (maskP x) := by
  have : c_ref01_mask.S n x = some (maskR x) := by
    show (g_ref01_mask x).run n = _
    simp only [g_ref01_mask, G.run, tsOk, shlO_bind]
    rw [if_pos (by rw [wrap32 h0 h1]; simp; omega)]
    rfl
  rw [this, mask_eq h0 h1]; rfl
theorem ref_Contains (p : Prefix) (ip : Int) (k : c_ref01_Contains.sh.El → Option β) : (c_ref01_Contains.S n (p, ip)).bind k = k (containsS p ip) := by
  have : c_ref01_Contains.S n (p, ip) = some (containsS p ip) := by
    show (g_ref01_Contains p ip).run n = _
    simp only [g_ref01_Contains, G.run, tsOk, ref_valid, containsS, band_xor]
    by_cases h : okPre p = true
    · simp only [h, if_true, Bool.true_and]
      simp only [okPre, Bool.and_eq_true, decide_eq_true_eq] at h
      simp only [ref_mask n p.Len h.1 h.2]; rfl
    · simp [h]; rfl
  rw [this]; rfl
end

theorem idx_at {X : Type} (l : List X) (enc : X → List AVal) (m : Nat) (i : Int) (h0 : 0 ≤ i) (h1 : i < (l.length : Int)) : ∃ x, (idxO l enc m i).run = some x ∧ l[i.toNat]? = some x := by
  have h2 : i.toNat < l.length := by omega
  refine ⟨l[i.toNat], ?_, List.getElem?_eq_getElem h2⟩
  show at? l i = _
  simp [at?, h0, h2]
theorem contains_at (n : Nat) (p : Prefix) (ip : Int) : At (c_addr_Contains.S n (p, ip)) fun (b : Bool) => b = containsS p ip := At.eq fun k => addr_Contains n p ip k
theorem rcontains_at (n : Nat) (p : Prefix) (ip : Int) : At (c_ref01_Contains.S n (p, ip)) fun (b : Bool) => b = containsS p ip := At.eq fun k => ref_Contains n p ip k
/-- A hop of the tenant that contains the address. -/
def Hit (t ip : Int) (x : Hop) : Prop := x.Tenant = t ∧ containsS x.Prefix ip = true
def zeroH : Hop := Go.L.Hop.mk (0 : Int) (Go.L.Prefix.mk (0 : Int) (0 : Int)) (0 : Int) (0 : Int) (0 : Int) (0 : Int) (0 : Int)
theorem step_at (n : Nat) (b : route_found) (x : Hop) (t ip : Int) : At (c_route_Lookup_1.S n (b, x, t, ip)) fun (r : route_found) =>
    (r = b ∧ (Hit t ip x → b.ok = true ∧ x.Prefix.Len ≤ b.Hop.Prefix.Len)) ∨ (r = Go.L.route_found.mk x true ∧ Hit t ip x ∧ (b.ok = true → b.Hop.Prefix.Len < x.Prefix.Len)) := by
  refine (?_ : AtG n (g_route_Lookup_1 b x t ip) _)
  unfold g_route_Lookup_1
  refine .skip (.br (fun h1 => .skip (.done rfl ?_)) fun h1 => .skip (.call _ (contains_at n _ _) fun (c : Bool) hc => .skip (.br (fun h2 => .skip (.done rfl ?_)) fun h2 => .skip (.br (fun h3 => .skip (.br (fun h4 => .skip (.done rfl ?_)) fun h4 => .skip (.done rfl ?_))) fun h3 => .skip (.done rfl ?_)))))
  · exact .inl ⟨rfl, fun h => absurd h.1 (by simpa using h1)⟩
  · refine .inl ⟨rfl, fun h => ?_⟩
    rw [hc, h.2] at h2; cases h2
  · exact .inl ⟨rfl, fun _ => ⟨h3, by simpa using h4⟩⟩
  · refine .inr ⟨rfl, ⟨by simpa using h1, by rw [← hc]; simpa using h2⟩, fun _ => ?_⟩
    simp only [decide_eq_false_iff_not] at h4; omega
  · refine .inr ⟨rfl, ⟨by simpa using h1, by rw [← hc]; simpa using h2⟩, fun h => ?_⟩
    rw [h] at h3; cases h3
/-- What has been found among the first hops. -/
def Fnd (l : List Hop) (t ip : Int) (i : Int) (b : route_found) : Prop :=
  (b.ok = false → b.Hop = zeroH ∧ ∀ (j : Nat) z, j < i.toNat → l[j]? = some z → ¬ Hit t ip z) ∧
  (b.ok = true → ∃ (j : Nat), j < i.toNat ∧ l[j]? = some b.Hop ∧ Hit t ip b.Hop ∧ (∀ (k : Nat) z, k < i.toNat → l[k]? = some z → Hit t ip z → z.Prefix.Len ≤ b.Hop.Prefix.Len) ∧ (∀ (k : Nat) z, k < j → l[k]? = some z → Hit t ip z → z.Prefix.Len < b.Hop.Prefix.Len))
theorem Fnd.step {l : List Hop} {t ip i : Int} {b r : route_found} {x : Hop} (h0 : 0 ≤ i) (hg : l[i.toNat]? = some x) (h : Fnd l t ip i b)
    (hr : (r = b ∧ (Hit t ip x → b.ok = true ∧ x.Prefix.Len ≤ b.Hop.Prefix.Len)) ∨ (r = Go.L.route_found.mk x true ∧ Hit t ip x ∧ (b.ok = true → b.Hop.Prefix.Len < x.Prefix.Len))) : Fnd l t ip (i + 1) r := by
  have e1 : (i + 1).toNat = i.toNat + 1 := by omega
  rcases hr with ⟨rfl, hn⟩ | ⟨rfl, hh, hlt⟩
  · refine ⟨fun hk => ⟨(h.1 hk).1, fun j z hj hz hit => ?_⟩, fun hk => ?_⟩
    · by_cases hje : j = i.toNat
      · subst hje; rw [hg] at hz; cases hz
        rw [(hn hit).1] at hk; cases hk
      · exact (h.1 hk).2 j z (by omega) hz hit
    · obtain ⟨j, q1, q2, q3, q4, q5⟩ := h.2 hk
      refine ⟨j, by omega, q2, q3, fun k z hkk hz hit => ?_, q5⟩
      by_cases hje : k = i.toNat
      · subst hje; rw [hg] at hz; cases hz
        exact (hn hit).2
      · exact q4 k z (by omega) hz hit
  · refine ⟨fun hk => (by cases hk), fun _ => ⟨i.toNat, by omega, hg, hh, fun k z hkk hz hit => ?_, fun k z hkk hz hit => ?_⟩⟩
    · by_cases hje : k = i.toNat
      · subst hje; rw [hg] at hz; cases hz
        exact Int.le_refl _
      · cases hb : b.ok with
        | false => exact absurd hit ((h.1 hb).2 k z (by omega) hz)
        | true =>
          obtain ⟨j, q1, q2, q3, q4, q5⟩ := h.2 hb
          have := q4 k z (by omega) hz hit
          have := hlt hb
          show z.Prefix.Len ≤ x.Prefix.Len; omega
    · cases hb : b.ok with
      | false => exact absurd hit ((h.1 hb).2 k z hkk hz)
      | true =>
        obtain ⟨j, q1, q2, q3, q4, q5⟩ := h.2 hb
        have := q4 k z hkk hz hit
        have := hlt hb
        show z.Prefix.Len < x.Prefix.Len; omega
abbrev St9 := Prod Int (Prod Int (Prod Int (Prod Int (Prod Int (Prod Int (Prod Int (Prod Int (Prod Int Bool))))))))
def toF (a : St9) : route_found := Go.L.route_found.mk (Go.L.Hop.mk a.2.1 (Go.L.Prefix.mk a.2.2.1 a.2.2.2.1) a.2.2.2.2.1 a.2.2.2.2.2.1 a.2.2.2.2.2.2.1 a.2.2.2.2.2.2.2.1 a.2.2.2.2.2.2.2.2.1) a.2.2.2.2.2.2.2.2.2
theorem lookup_at (l : List Hop) (t ip : Int) (hl : l.length ≤ 60) : At (c_route_Lookup.S 1000 (l, t, ip)) fun (r : Prod Hop Bool) => Fnd l t ip (l.length : Int) (Go.L.route_found.mk r.1 r.2) := by
  refine (?_ : AtG 1000 (g_route_Lookup l t ip) _)
  unfold g_route_Lookup
  refine .skip (.call (fun (r : route_found) => Fnd l t ip (l.length : Int) r) ?_ fun r hr => .skip (.done rfl hr))
  refine (?_ : AtG 1000 (g_route_fold_Hop_route_found l _ t ip) _)
  unfold g_route_fold_Hop_route_found
  refine .skip (.op () rfl (.skip (.loop (fun (a : St9) => 0 ≤ a.1 ∧ a.1 ≤ (l.length : Int) ∧ Fnd l t ip a.1 (toF a)) (fun a => ((l.length : Int) - a.1).toNat)
    (fun (u : Prod Int (Prod Int (Prod Int (Prod Int (Prod Int (Prod Int (Prod Int (Prod Int Bool)))))))) => Fnd l t ip (l.length : Int) (toF ((0 : Int), u))) rfl ⟨Int.le_refl _, by simp, ⟨fun _ => ⟨rfl, fun j z hj => by simp at hj⟩, fun h => by cases h⟩⟩ (by simp; omega) ?_ ?_)))
  · rintro a ⟨h0, h1, h2⟩
    refine .skip (.br (fun h => .skip ?_) fun h => .skip (.done rfl ?_))
    · have hlt : a.1 < (l.length : Int) := by simpa using h
      obtain ⟨x, hx, hg⟩ := idx_at l eHop 8 a.1 h0 hlt
      refine .op x hx (.skip (.call _ (step_at 1000 (toF a) x t ip) fun (r : route_found) hr => .skip (.done rfl ?_)))
      rw [wrap_i64 (by omega) (by omega)]
      exact ⟨⟨by show 0 ≤ a.1 + 1; omega, by show a.1 + 1 ≤ _; omega, Fnd.step h0 hg h2 hr⟩, by (try simp only); omega⟩
    · have hge : ¬ a.1 < (l.length : Int) := by simpa using h
      have e : a.1 = (l.length : Int) := by omega
      show Fnd l t ip (l.length : Int) (toF a)
      rw [← e]; exact h2
  · intro u hu
    exact .skip (.done rfl hu)
theorem longest_run (l : List Hop) (t ip : Int) : AtG 1000 (g_law30_RouteLongest l t ip) fun b => b = true := by
  unfold g_law30_RouteLongest
  refine .skip (.call _ lives30_at fun r hr => .skip (.br (fun h => by rw [hr] at h; cases h) fun _ => .skip (.op () rfl (.skip (.br (fun _ => .skip (.done rfl rfl)) fun hlen => .skip ?_)))))
  have hl : l.length ≤ 60 := by simp only [decide_eq_false_iff_not] at hlen; omega
  refine .call _ (lookup_at l t ip hl) fun (r : Prod Hop Bool) hf => .skip ?_
  obtain ⟨h, is⟩ := r
  refine .loop (fun (a : Bool × Int) => 0 ≤ a.2 ∧ a.2 ≤ (l.length : Int) ∧ (a.1 = true ↔ ∀ (j : Nat) z, j < a.2.toNat → l[j]? = some z → Hit t ip z → z.Prefix.Len ≠ h.Prefix.Len)) (fun a => ((l.length : Int) - a.2).toNat)
    (fun (u : Unit ⊕ Bool) => match u with | .inl _ => False | .inr b => (b = true ↔ ∀ (j : Nat) z, j < (l.length : Int).toNat → l[j]? = some z → Hit t ip z → z.Prefix.Len ≠ h.Prefix.Len)) rfl
    ⟨Int.le_refl _, by simp, ⟨fun _ j z hj => by simp at hj, fun _ => rfl⟩⟩ (by simp; omega) ?_ ?_
  · rintro a ⟨h0, h1, h2⟩
    refine .skip (.op () rfl (.skip (.br (fun hh => .skip ?_) fun hh => .skip (.done rfl ?_))))
    · have hlt : a.2 < (l.length : Int) := by simpa using hh
      obtain ⟨x, hx, hg⟩ := idx_at l eHop 8 a.2 h0 hlt
      have hin : a.2.toNat < (l.length : Int).toNat := by omega
      have step : ∀ c, (c = true ↔ (a.1 = true ∧ (Hit t ip x → x.Prefix.Len ≠ h.Prefix.Len))) → RoundAt (fun (a : Bool × Int) => 0 ≤ a.2 ∧ a.2 ≤ (l.length : Int) ∧ (a.1 = true ↔ ∀ (j : Nat) z, j < a.2.toNat → l[j]? = some z → Hit t ip z → z.Prefix.Len ≠ h.Prefix.Len)) (fun a => ((l.length : Int) - a.2).toNat)
          (fun (u : Unit ⊕ Bool) => match u with | .inl _ => False | .inr b => (b = true ↔ ∀ (j : Nat) z, j < (l.length : Int).toNat → l[j]? = some z → Hit t ip z → z.Prefix.Len ≠ h.Prefix.Len)) a (.inl (c, Go.IntKind.wrap .i64 (a.2 + 1))) := by
        intro c hc
        rw [wrap_i64 (by omega) (by omega)]
        refine ⟨⟨by show 0 ≤ a.2 + 1; omega, by show a.2 + 1 ≤ _; omega, ?_⟩, by (try simp only); omega⟩
        show c = true ↔ _
        rw [hc, h2]
        constructor
        · rintro ⟨q1, q2⟩ j z hj hz
          by_cases he : j = a.2.toNat
          · subst he; rw [hg] at hz; cases hz; exact q2
          · exact q1 j z (by have hj : j < (a.2 + 1).toNat := hj; omega) hz
        · intro q
          exact ⟨fun j z hj hz => q j z (by show j < (a.2 + 1).toNat; omega) hz, fun hit => q a.2.toNat x (by show a.2.toNat < (a.2 + 1).toNat; omega) hg hit⟩
      refine .op x hx (.skip (.br (fun k1 => .skip (.done rfl (step _ ?_))) fun k1 => .skip (.call _ (rcontains_at 1000 _ _) fun (c : Bool) hc => .skip (.br (fun k2 => .skip (.done rfl (step _ ?_))) fun k2 => .skip ?_))))
      · exact ⟨fun q => ⟨q, fun hit => absurd hit.1 (by simpa using k1)⟩, fun q => q.1⟩
      · refine ⟨fun q => ⟨q, fun hit => ?_⟩, fun q => q.1⟩
        rw [hc, hit.2] at k2; cases k2
      · have hit : Hit t ip x := ⟨by simpa using k1, by rw [← hc]; simpa using k2⟩
        have hk : is = true := by
          cases is with
          | true => rfl
          | false => exact absurd hit ((hf.1 rfl).2 a.2.toNat x hin hg)
        obtain ⟨j, q1, q2, q3, q4, q5⟩ := hf.2 hk
        have hle := q4 a.2.toNat x hin hg hit
        have hle' : x.Prefix.Len ≤ h.Prefix.Len := hle
        refine .br (fun k3 => by rw [hk] at k3; cases k3) fun _ => .skip (.br (fun k4 => ?_) fun k4 => .skip (.br (fun k5 => .skip (.br (fun k6 => .skip (.br (fun k7 => ?_) fun k7 => .skip (.br (fun k8 => .skip (.done rfl (step _ ?_))) fun k8 => ?_))) fun k6 => .skip (.br (fun k8 => ?_) fun k8 => .skip (.done rfl (step _ ?_))))) fun k5 => .skip (.br (fun k8 => .skip (.done rfl (step _ ?_))) fun k8 => .skip (.done rfl (step _ ?_)))))
        · have : x.Prefix.Len > h.Prefix.Len := by simpa using k4
          omega
        · exfalso
          have e6 : x.Prefix.Len = h.Prefix.Len := by simpa using k6
          have hj : j = a.2.toNat := by
            have hfirst := h2.1 k5
            rcases Nat.lt_trichotomy j a.2.toNat with hlt2 | he | hgt
            · exact absurd rfl (hfirst j h hlt2 q2 q3)
            · exact he
            · have := q5 a.2.toNat x hgt hg hit
              have : x.Prefix.Len < h.Prefix.Len := this
              omega
          rw [hj, hg] at q2
          have e : x = h := Option.some.inj q2
          rw [e] at k7
          simp at k7
        · have e6 : x.Prefix.Len = h.Prefix.Len := by simpa using k6
          exact ⟨fun q => by (first | cases q | exact absurd q Bool.false_ne_true), fun q => absurd e6 (q.2 hit)⟩
        · rw [k6] at k8; cases k8
        · rw [k6] at k8; cases k8
        · have e6 : x.Prefix.Len ≠ h.Prefix.Len := by simpa using k6
          exact ⟨fun q => ⟨q, fun _ => e6⟩, fun q => q.1⟩
        · have e6 : x.Prefix.Len = h.Prefix.Len := by simpa using k8
          exact ⟨fun q => by (first | cases q | exact absurd q Bool.false_ne_true), fun q => absurd e6 (q.2 hit)⟩
        · have e6 : x.Prefix.Len ≠ h.Prefix.Len := by simpa using k8
          exact ⟨fun q => ⟨q, fun _ => e6⟩, fun q => q.1⟩
    · have hge : ¬ a.2 < (l.length : Int) := by simpa using hh
      have e : a.2 = (l.length : Int) := by omega
      show a.1 = true ↔ _
      rw [h2, e]
  · intro u hu
    match u, hu with
    | .inr b, hb =>
      refine .skip (.br (fun k1 => .skip (.done rfl ?_)) fun k1 => .skip (.br (fun k2 => .skip (.br (fun k3 => .skip (.call _ (rcontains_at 1000 _ _) fun (c : Bool) hc => .skip (.done rfl ?_))) fun k3 => ?_)) fun k2 => ?_))
      · have hk : is = false := by simpa using k1
        have e : h = zeroH := (hf.1 hk).1
        subst e
        rfl
      · have hk : is = true := by simpa using k1
        obtain ⟨j, q1, q2, q3, q4, q5⟩ := hf.2 hk
        rw [hc]; exact q3.2
      · exfalso
        have hk : is = true := by simpa using k1
        obtain ⟨j, q1, q2, q3, q4, q5⟩ := hf.2 hk
        have : h.Tenant = t := q3.1
        simp [this] at k3
      · exfalso
        have hk : is = true := by simpa using k1
        obtain ⟨j, q1, q2, q3, q4, q5⟩ := hf.2 hk
        have hbt : b = true := by cases b with | true => rfl | false => cases k2
        exact hb.1 hbt j h q1 q2 q3 rfl
end Go.L
