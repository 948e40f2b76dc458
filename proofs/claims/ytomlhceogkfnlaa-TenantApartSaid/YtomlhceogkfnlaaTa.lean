import Derived.Test.YtomlhceogkfnlaaTn
import Derived.Test.YtomlhceogkfnlaaVk
namespace Go.L
open Go.AM
set_option maxRecDepth 100000
set_option linter.unusedSimpArgs false
set_option linter.unusedVariables false
set_option linter.unusedSectionVars false

/-! ### Laws about any fabric of the kit's -/

theorem known22_b {β : Type} {n : Nat} (k : c_law22_TenantKnown.sh.El → Option β) : (c_law22_TenantKnown.S n ()).bind k = k true := rfl
theorem vf_ok {f : Fabric} (hv : Vf f) : okF f = true := by unfold okF; rw [vf_check hv]; rfl
theorem good_true {o : Option Bool} (h : Good (γ := Bool) o (fun r => r = true)) : o = some true := by
  obtain ⟨v, e, rfl⟩ := h; exact e

theorem findIdx_first {α : Type} {p : α → Bool} : ∀ {l : List α} {j : Nat} {x : α}, l[j]? = some x → p x = true → (∀ (i : Nat) y, i < j → l[i]? = some y → p y = false) → l.findIdx? p = some j
  | [], _, _, h, _, _ => by simp at h
  | a :: l, 0, x, h, hp, _ => by
    simp at h; subst h
    simp [List.findIdx?_cons, hp]
  | a :: l, j + 1, x, h, hp, hq => by
    have ha : p a = false := hq 0 a (by omega) (by simp)
    have := findIdx_first (l := l) (j := j) (x := x) (by simpa using h) hp fun i y hi hy => hq (i + 1) y (by omega) (by simpa using hy)
    simp [List.findIdx?_cons, ha, this]
theorem findS_first {α : Type} {p : α → Bool} {l : List α} {j : Nat} {x : α} (h : l[j]? = some x) (hp : p x = true) (hq : ∀ (i : Nat) y, i < j → l[i]? = some y → p y = false) : findS p l = ((j : Int), true) := by
  unfold findS; rw [findIdx_first h hp hq]
theorem findS_none {α : Type} {p : α → Bool} {l : List α} (h : ∀ y ∈ l, p y = false) : findS p l = (0, false) := by
  unfold findS
  rw [List.findIdx?_eq_none_iff.2 h]

/-! #### the numbers -/
def rdK (m x : Int) : Int := 281474976710656 + (184483841 + m) * 65536 + x
theorem rd_k {f : Fabric} (hv : Vf f) {m x : Int} (h0 : 0 ≤ m) (h1 : m < f.Leaves) : RdS f m x true = rdK m x := by
  have hl := hv.leaves
  have hw : withinB m f.Leaves = true := by simp [withinB, h0, h1]
  have hlb : lbS m = 184483841 + m := by
    unfold lbS
    rw [if_neg (by omega), if_neg (by omega), wrap_u32_id (x := m) h0 (by omega), wrap_u32_id (x := 184483840 + m) (by omega) (by omega), wrap_u32_id (by omega) (by omega)]
    omega
  unfold RdS rdS rdK
  rw [vf_ok hv, hw, hlb]
  simp

section
variable {n : Nat} (hn : 5000 ≤ n) {f : Fabric} (hv : Vf f)
include hn hv

theorem rds_good : Good (γ := List Int) (c_law22_rds.S n f) fun l => Asc l ∧ (∀ y ∈ l, 0 < y) ∧ l.length ≤ 100 := by
  have hs := vf_small hv
  have hL := hv.leaves
  have hB := hv.bds
  have hT := hv.tenants
  show Good (γ := List Int) ((g_law22_rds f).run n) _
  simp only [g_law22_rds, G.run, tsOk, lenO_bind, appO_bind, if_true, decide_eq_true_eq, tenant_SegmentRD hn hs, tenant_BDRD hn hs, tenant_TenantRD hn hs]
  have P : ∀ (l : List Int) (b c : Int), (∀ y ∈ l, 0 < y ∧ y < b) → b ≤ c → ∀ y ∈ l, 0 < y ∧ y < c := fun l b c h hbc y hy => ⟨(h y hy).1, Int.lt_of_lt_of_le (h y hy).2 hbc⟩
  have Q : ∀ (l : List Int) (b : Int), 0 < b → (∀ y ∈ l, 0 < y ∧ y < b) → ∀ y ∈ l ++ [b], 0 < y ∧ y < b + 1 := by
    intro l b h0 h y hy
    rcases List.mem_append.1 hy with hy | hy
    · have := h y hy; omega
    · simp only [List.mem_singleton] at hy; omega
  refine Good.bind (γ := List Int) (Q := fun l => Asc l ∧ (∀ y ∈ l, 0 < y) ∧ l.length ≤ 100) ?_ (fun l hl => ?_)
  · refine good_iter (fun j (s : Int × List Int) => s.1 = (j : Int) ∧ s.2.length ≤ 12 * j ∧ Asc s.2 ∧ ∀ y ∈ s.2, 0 < y ∧ y < rdK (j : Int) 0) f.Leaves.toNat (fun j s hj hs' => ?_) (fun s hs' => ?_) (by omega) ⟨rfl, by simp, by simp [Asc], by simp⟩
    · obtain ⟨h1, h2, h3, h4⟩ := hs'
      have hlt : s.1 < f.Leaves := by omega
      have w : Go.IntKind.wrap .i64 (s.1 + 1) = s.1 + 1 := wrap_i64 (by omega) (by omega)
      have hroom : roomy (s.2.length + 1) 8 = true := by simp [roomy]; omega
      rw [if_pos hlt, if_pos ⟨trivial, hroom⟩, rd_k hv (by omega) hlt, h1]
      refine Good.bind (γ := List Int) (Q := fun l => l.length ≤ 12 * j + 5 ∧ Asc l ∧ ∀ y ∈ l, 0 < y ∧ y < rdK (j : Int) 1001) ?_ (fun l hl => ?_)
      · refine good_iter (fun i (q : Int × List Int) => q.1 = (i : Int) ∧ q.2.length ≤ 12 * j + 1 + i ∧ Asc q.2 ∧ ∀ y ∈ q.2, 0 < y ∧ y < rdK (j : Int) (1 + (i : Int))) f.BDs.length (fun i q hi hq => ?_) (fun q hq => ?_) (by omega) ⟨rfl, by simp; omega, asc_snoc h3 fun y hy => (h4 y hy).2, Q _ _ (by unfold rdK; omega) h4⟩
        · obtain ⟨g1, g2, g3, g4⟩ := hq
          have hlt' : q.1 < (f.BDs.length : Int) := by omega
          have hwi : withinB q.1 (f.BDs.length : Int) = true := by simp only [withinB, Bool.and_eq_true, decide_eq_true_eq]; omega
          have w' : Go.IntKind.wrap .i64 (q.1 + 1) = q.1 + 1 := wrap_i64 (by omega) (by omega)
          have hroom' : roomy (q.2.length + 1) 8 = true := by simp [roomy]; omega
          rw [if_pos hlt', hwi, if_pos ⟨trivial, hroom'⟩, rd_k hv (by omega) (by omega), w', g1]
          refine .some ⟨by show (i : Int) + 1 = ((i + 1 : Nat) : Int); omega, by simp; omega, asc_snoc g3 fun y hy => (g4 y hy).2, ?_⟩
          have := Q _ _ (by unfold rdK; omega) g4
          refine P _ _ _ this ?_
          unfold rdK; omega
        · obtain ⟨g1, g2, g3, g4⟩ := hq
          have hlt' : ¬ q.1 < (f.BDs.length : Int) := by omega
          rw [if_neg hlt']
          exact .some ⟨by omega, g3, P _ _ _ g4 (by unfold rdK; omega)⟩
      · obtain ⟨k1, k2, k3⟩ := hl
        refine Good.bind (γ := List Int) (Q := fun l => l.length ≤ 12 * j + 8 ∧ Asc l ∧ ∀ y ∈ l, 0 < y ∧ y < rdK ((j : Int) + 1) 0) ?_ (fun l hl => ?_)
        · refine good_iter (fun i (q : Int × List Int) => q.1 = (i : Int) ∧ q.2.length ≤ 12 * j + 5 + i ∧ Asc q.2 ∧ ∀ y ∈ q.2, 0 < y ∧ y < rdK (j : Int) (1001 + (i : Int))) f.Tenants.length (fun i q hi hq => ?_) (fun q hq => ?_) (by omega) ⟨rfl, by simp; omega, k2, k3⟩
          · obtain ⟨g1, g2, g3, g4⟩ := hq
            have hlt' : q.1 < (f.Tenants.length : Int) := by omega
            have hwi : withinB q.1 (f.Tenants.length : Int) = true := by simp only [withinB, Bool.and_eq_true, decide_eq_true_eq]; omega
            have w' : Go.IntKind.wrap .i64 (q.1 + 1) = q.1 + 1 := wrap_i64 (by omega) (by omega)
            have hroom' : roomy (q.2.length + 1) 8 = true := by simp [roomy]; omega
            rw [if_pos hlt', hwi, if_pos ⟨trivial, hroom'⟩, rd_k hv (by omega) (by omega), w', g1]
            refine .some ⟨by show (i : Int) + 1 = ((i + 1 : Nat) : Int); omega, by simp; omega, asc_snoc g3 fun y hy => (g4 y hy).2, ?_⟩
            have := Q _ _ (by unfold rdK; omega) g4
            refine P _ _ _ this ?_
            unfold rdK; omega
          · obtain ⟨g1, g2, g3, g4⟩ := hq
            have hlt' : ¬ q.1 < (f.Tenants.length : Int) := by omega
            rw [if_neg hlt']
            exact .some ⟨by omega, g3, P _ _ _ g4 (by unfold rdK; omega)⟩
        · obtain ⟨m1, m2, m3⟩ := hl
          rw [← h1, w]
          exact .some ⟨by show s.1 + 1 = ((j + 1 : Nat) : Int); omega, by show l.length ≤ 12 * (j + 1); omega, m2, P _ _ _ m3 (by unfold rdK; omega)⟩
    · obtain ⟨h1, h2, h3, h4⟩ := hs'
      have hlt : ¬ s.1 < f.Leaves := by omega
      rw [if_neg hlt]
      exact .some ⟨h3, fun y hy => (h4 y hy).1, by omega⟩
  · simp [fzRow]
    exact .some hl

theorem distinct_b (l : List Int) (hl : Asc l) (h0 : ∀ y ∈ l, 0 < y) (h1 : l.length ≤ 100) {β : Type} (k : c_law22_distinct.sh.El → Option β) : (c_law22_distinct.S n l).bind k = k true := by
  have : c_law22_distinct.S n l = some true := by
    show (g_law22_distinct l).run n = _
    refine good_true ?_
    simp only [g_law22_distinct, G.run, tsOk, lenO_bind, idxO_bind, if_true, decide_eq_true_eq]
    refine Good.bind (γ := Unit ⊕ Unit) (Q := fun t => match t with | .inl _ => False | .inr _ => True) ?_ (fun t ht => ?_)
    · refine good_iter (fun j (s : Int) => s = (j : Int)) l.length (fun j s hj hs' => ?_) (fun s hs' => ?_) (by omega) rfl
      · subst hs'
        have hlt : (j : Int) < (l.length : Int) := by omega
        have e1 : at? l (j : Int) = some l[j] := by rw [at?_nat]; exact List.getElem?_eq_getElem hj
        rw [if_pos hlt]
        simp only [e1, Option.bind_some]
        refine Good.bind (γ := Unit ⊕ Unit) (Q := fun t => match t with | .inl _ => False | .inr _ => True) ?_ (fun t ht => ?_)
        · refine good_iter (fun i (s : Int) => s = (i : Int)) j (fun i s hi hs' => ?_) (fun s hs' => ?_) (by omega) rfl
          · subst hs'
            have hlt' : (i : Int) < (j : Int) := by omega
            have e2 : at? l (i : Int) = some l[i] := by rw [at?_nat]; exact List.getElem?_eq_getElem (by omega)
            have hne : l[i] < l[j] := (List.pairwise_iff_getElem.1 hl) i j (by omega) hj hi
            have hne' : ¬ (l[j] == l[i]) = true := by simp only [beq_iff_eq]; omega
            have w : Go.IntKind.wrap .i64 ((i : Int) + 1) = (i : Int) + 1 := wrap_i64 (by omega) (by omega)
            rw [if_pos hlt']
            simp only [e2, Option.bind_some]
            rw [if_neg hne', w]
            exact .some (by show (i : Int) + 1 = ((i + 1 : Nat) : Int); omega)
          · subst hs'
            rw [if_neg (Int.lt_irrefl _)]
            exact .some trivial
        · cases t with
          | inl _ => exact ht.elim
          | inr _ =>
            have hz : ¬ (l[j] == (0 : Int)) = true := by have := h0 l[j] (List.getElem_mem hj); simp only [beq_iff_eq]; omega
            have w : Go.IntKind.wrap .i64 ((j : Int) + 1) = (j : Int) + 1 := wrap_i64 (by omega) (by omega)
            simp only [Sum.elim, G.run, tsOk, if_true]
            simp only [e1, idxO_bind, Option.bind_some]
            rw [if_neg hz, w]
            exact .some (by show (j : Int) + 1 = ((j + 1 : Nat) : Int); omega)
      · subst hs'
        rw [if_neg (Int.lt_irrefl _)]
        exact .some trivial
    · cases t with
      | inl _ => exact ht.elim
      | inr _ => exact .some rfl
  rw [this]; rfl
end

theorem apart_run (l : List Int) : (g_law22_TenantApart l).run 6000 = some true := by
  have hn : 5000 ≤ 6000 := by decide
  obtain ⟨f, hf, hv⟩ := fabric_valid (n := 6000) l (by decide)
  have fab_b : ∀ {β : Type} (k : c_kit_Fabric.sh.El → Option β), (c_kit_Fabric.S 6000 l).bind k = k f := fun k => (congrArg (fun o => Option.bind o k) hf).trans rfl
  have hs := vf_small hv
  have hok := vf_ok hv
  have hB := hv.bds
  have hT := hv.tenants
  have hS := hv.segments
  obtain ⟨rl, hrl, r1, r2, r3⟩ := rds_good hn hv
  have rds_b : ∀ {β : Type} (k : c_law22_rds.sh.El → Option β), (c_law22_rds.S 6000 f).bind k = k rl := fun k => (congrArg (fun o => Option.bind o k) hrl).trans rfl
  refine good_true ?_
  simp only [g_law22_TenantApart, G.run, tsOk, known22_b, fab_b, tenant_Check 6000 hn f hs, vf_check hv, lenO_bind, idxO_bind, if_true, decide_eq_true_eq, tenant_BDOf hn hs, tenant_DomainOf hn hs, tenant_TenantOf hn hs, tenant_RouterOf hn hs, tenant_ESI hn hs, tenant_Label hn hs, bne_self_eq_false, Bool.false_eq_true, if_false]
  refine Good.bind (γ := Unit ⊕ Unit) (Q := fun t => match t with | .inl _ => False | .inr _ => True) ?_ (fun t ht => ?_)
  · refine good_iter (fun j (s : Int) => s = (j : Int)) f.BDs.length (fun j s hj hs' => ?_) (fun s hs' => ?_) (by omega) rfl
    · subst hs'
      have hlt : (j : Int) < (f.BDs.length : Int) := by omega
      have e0 : f.BDs[j]? = some f.BDs[j] := List.getElem?_eq_getElem hj
      have e1 : at? f.BDs (j : Int) = some f.BDs[j] := by rw [at?_nat]; exact e0
      have w : Go.IntKind.wrap .i64 ((j : Int) + 1) = (j : Int) + 1 := wrap_i64 (by omega) (by omega)
      obtain ⟨-, -, b1, b2, -⟩ := hv.bd j _ e0
      rw [if_pos hlt]
      simp only [e1, Option.bind_some, OfS, hok, if_true]
      rw [findS_first (p := fun x : BD => x.VNI == f.BDs[j].VNI) e0 (by simp) fun i y hi hy => by
          have := (hv.bd i y hy).2.2.1; simp only [beq_eq_false_iff_ne]; omega,
        findS_first (p := fun x : BD => x.Target == f.BDs[j].Target) e0 (by simp) fun i y hi hy => by
          have := (hv.bd i y hy).2.2.2.1; simp only [beq_eq_false_iff_ne]; omega,
        findS_none (p := fun x : Tenant => x.VNI == f.BDs[j].VNI) fun y hy => by
          obtain ⟨i, hi⟩ := List.getElem?_of_mem hy
          have := hv.ten i y hi
          subst this
          simp only [beq_eq_false_iff_ne]; omega]
      simp only [bne_self_eq_false, Bool.not_true, Bool.false_eq_true, if_false, w]
      exact .some (by show (j : Int) + 1 = ((j + 1 : Nat) : Int); omega)
    · subst hs'
      rw [if_neg (Int.lt_irrefl _)]
      exact .some trivial
  cases t with
  | inl _ => exact ht.elim
  | inr _ =>
    simp only [Sum.elim, G.run, tsOk, lenO_bind, idxO_bind, if_true, decide_eq_true_eq, tenant_TenantOf hn hs, tenant_RouterOf hn hs, tenant_ESI hn hs, tenant_Label hn hs]
    refine Good.bind (γ := Unit ⊕ Unit) (Q := fun t => match t with | .inl _ => False | .inr _ => True) ?_ (fun t ht => ?_)
    · refine good_iter (fun j (s : Int) => s = (j : Int)) f.Tenants.length (fun j s hj hs' => ?_) (fun s hs' => ?_) (by omega) rfl
      · subst hs'
        have hlt : (j : Int) < (f.Tenants.length : Int) := by omega
        have e0 : f.Tenants[j]? = some f.Tenants[j] := List.getElem?_eq_getElem hj
        have e1 : at? f.Tenants (j : Int) = some f.Tenants[j] := by rw [at?_nat]; exact e0
        have w : Go.IntKind.wrap .i64 ((j : Int) + 1) = (j : Int) + 1 := wrap_i64 (by omega) (by omega)
        have b1 := hv.ten j _ e0
        rw [if_pos hlt]
        simp only [e1, Option.bind_some, OfS, hok, if_true]
        rw [findS_first (p := fun x : Tenant => x.VNI == f.Tenants[j].VNI) e0 (by simp) fun i y hi hy => by
            have := hv.ten i y hy; subst this; rw [b1]; simp only [beq_eq_false_iff_ne]; omega,
          findS_first (p := fun x : Tenant => x.Target == f.Tenants[j].Target) e0 (by simp) fun i y hi hy => by
            have := hv.ten i y hy; subst this; rw [b1]; simp only [beq_eq_false_iff_ne]; omega]
        simp only [bne_self_eq_false, Bool.not_true, Bool.false_eq_true, if_false, w]
        exact .some (by show (j : Int) + 1 = ((j + 1 : Nat) : Int); omega)
      · subst hs'
        rw [if_neg (Int.lt_irrefl _)]
        exact .some trivial
    cases t with
    | inl _ => exact ht.elim
    | inr _ =>
      simp only [Sum.elim, G.run, tsOk, lenO_bind, idxO_bind, if_true, decide_eq_true_eq, tenant_ESI hn hs, tenant_Label hn hs]
      refine Good.bind (γ := Unit ⊕ Unit) (Q := fun t => match t with | .inl _ => False | .inr _ => True) ?_ (fun t ht => ?_)
      · refine good_iter (fun j (s : Int) => s = (j : Int)) f.Segments.length (fun j s hj hs' => ?_) (fun s hs' => ?_) (by omega) rfl
        · subst hs'
          have hlt : (j : Int) < (f.Segments.length : Int) := by omega
          have e0 : f.Segments[j]? = some f.Segments[j] := List.getElem?_eq_getElem hj
          have e1 : at? f.Segments (j : Int) = some f.Segments[j] := by rw [at?_nat]; exact e0
          have w : Go.IntKind.wrap .i64 ((j : Int) + 1) = (j : Int) + 1 := wrap_i64 (by omega) (by omega)
          have hw : withinB (j : Int) (f.Segments.length : Int) = true := by simp only [withinB, Bool.and_eq_true, decide_eq_true_eq]; omega
          have hm : MultiS f (j : Int) = decide ((1 : Int) < (f.Segments[j].Leaves.length : Int)) := by
            simp only [MultiS, multiS, hok, hw, e1, Option.map_some, Option.getD_some, Bool.true_and]
          rw [if_pos hlt]
          have hseg : ∀ {γ : Type} (k : c_tenant_SegmentOf.sh.El → Option γ), (c_tenant_SegmentOf.S 6000 (f, ESIS f (j : Int))).bind k = k (if MultiS f (j : Int) = true then ((j : Int), true) else (0, false)) := by
            intro γ k
            cases hmm : MultiS f (j : Int) with
            | true =>
              have he : ESIS f (j : Int) = esiS (j : Int) := by simp only [ESIS, hmm, if_true]
              have he2 : esiS (j : Int) = V10.mk 3 0 0 0 0 0 0 0 0 ((j : Int) + 1) := by
                unfold esiS
                rw [if_neg (by omega), if_neg (by omega)]
                have : Go.IntKind.wrap .u8 (Go.IntKind.wrap .i64 ((j : Int) + 1)) = (j : Int) + 1 := by
                  rw [w]
                  simp only [Go.IntKind.wrap, Go.IntKind.bits, Go.IntKind.signed]
                  simp
                  omega
                rw [this]
              have h9 : (esiS (j : Int)).a9 = (j : Int) + 1 := by rw [he2]
              rw [he, tenant_SegmentOf hn hs _ (by unfold u8V; rw [h9]; omega)]
              have hso : segOf (esiS (j : Int)) = some (j : Int) := by
                unfold segOf
                rw [h9, show (j : Int) + 1 - 1 = (j : Int) by omega, if_pos ⟨by rw [he2]; simp [sameESI], by omega, by omega⟩]
              simp [SegmentOfS, hso, hmm]
            | false =>
              have he : ESIS f (j : Int) = zESI := by simp only [ESIS, hmm, Bool.false_eq_true, if_false]
              rw [he, tenant_SegmentOf hn hs _ (by unfold u8V zESI; simp)]
              have hso : segOf zESI = none := by unfold segOf zESI; simp
              simp [SegmentOfS, hso]
          rw [hseg]
          simp only [e1, Option.bind_some, LabelS, hm]
          by_cases hd : (1 : Int) < (f.Segments[j].Leaves.length : Int)
          · have hz : ¬ ((j : Int) + 1 = 0) := by omega
            simp [hd, w, hz]
            exact .some (by show (j : Int) + 1 = ((j + 1 : Nat) : Int); omega)
          · simp [hd, w]
            exact .some (by show (j : Int) + 1 = ((j + 1 : Nat) : Int); omega)
        · subst hs'
          rw [if_neg (Int.lt_irrefl _)]
          exact .some trivial
      cases t with
      | inl _ => exact ht.elim
      | inr _ =>
        simp only [Sum.elim, G.run, tsOk, rds_b, distinct_b hn hv rl r1 r2 r3, if_true]
        exact .some rfl
end Go.L
