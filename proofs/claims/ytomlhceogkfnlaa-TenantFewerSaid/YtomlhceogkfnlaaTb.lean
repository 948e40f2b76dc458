import Derived.Test.YtomlhceogkfnlaaTa
namespace Go.L
open Go.AM
set_option maxRecDepth 100000
set_option linter.unusedSimpArgs false
set_option linter.unusedVariables false
set_option linter.unusedSectionVars false

/-! ### Fewer hosts and leaks -/

theorem vf_fewer {f : Fabric} (hv : Vf f) (a b : Nat) : Vf (Go.L.Fabric.mk f.Leaves f.Spines f.Links f.Tenants f.BDs f.Segments (f.Hosts.take a) (f.Leaks.take b) f.Elect f.Horizon f.Router f.Suppress f.Trees f.Timers) := by
  obtain ⟨h1, h2, h3, h4, h5, h6, h7, h8, h9, h10, h11, h12, h13, h14, h15, h16, h17, h18⟩ := hv
  refine ⟨h1, h2, h3, h4, h5, h6, h7, h8, h9, ?_, fun i h hi => ?_, ?_, fun x hx => h13 x (List.mem_of_mem_take hx), h14.sublist (List.take_sublist _ _), h15, h16, h17, h18⟩
  · show (f.Hosts.take a).length ≤ 8
    rw [List.length_take]; omega
  · have hi' : (f.Hosts.take a)[i]? = some h := hi
    rw [List.getElem?_take] at hi'
    split at hi'
    · exact h11 i h hi'
    · cases hi'
  · show (f.Leaks.take b).length ≤ 2
    rw [List.length_take]; omega

theorem slcO_bind' {X β : Type} (l : List X) (e : X → List AVal) (m : Nat) (x : Int) (h0 : 0 ≤ x) (h1 : x ≤ (l.length : Int)) (k : Nat × Nat → Option β) : (slcO l e m none (some x)).run.bind k = k (0, x.toNat) := by
  obtain ⟨i, rfl⟩ : ∃ i : Nat, x = (i : Int) := ⟨x.toNat, by omega⟩
  rw [slcO_bind l e m i (by omega)]
  simp

theorem any_take_false {l : List Int} (h : Asc l) {i : Nat} {x : Int} (hx : l[i]? = some x) : ((l.take i).any fun y => x == y) = false := by
  rw [List.any_eq_false]
  intro y hy
  obtain ⟨j, hj⟩ := List.getElem?_of_mem hy
  rw [List.getElem?_take] at hj
  split at hj
  · rename_i hji
    obtain ⟨a1, rfl⟩ := List.getElem?_eq_some_iff.1 hx
    obtain ⟨a2, rfl⟩ := List.getElem?_eq_some_iff.1 hj
    have := (List.pairwise_iff_getElem.1 h) j i a2 a1 hji
    simp only [beq_iff_eq]; omega
  · cases hj

theorem fewer_run (l : List Int) (hosts leaks : Int) : (g_law22_TenantFewer l hosts leaks).run 6000 = some true := by
  have hn : 5000 ≤ 6000 := by decide
  obtain ⟨f0, hf, hv0⟩ := fabric_valid (n := 6000) l (by decide)
  have fab_b : ∀ {β : Type} (k : c_kit_Fabric.sh.El → Option β), (c_kit_Fabric.S 6000 l).bind k = k f0 := fun k => (congrArg (fun o => Option.bind o k) hf).trans rfl
  have hH := hv0.hosts
  have hK := hv0.leaks
  have w1 : Go.IntKind.wrap .i64 ((f0.Hosts.length : Int) + 1) = (f0.Hosts.length : Int) + 1 := wrap_i64 (by omega) (by omega)
  have w2 : Go.IntKind.wrap .i64 ((f0.Leaks.length : Int) + 1) = (f0.Leaks.length : Int) + 1 := wrap_i64 (by omega) (by omega)
  have m1 : ∀ {β : Type} (k : c_kit_Mod.sh.El → Option β), (c_kit_Mod.S 6000 (hosts, (f0.Hosts.length : Int) + 1)).bind k = k (hosts % ((f0.Hosts.length : Int) + 1)) := fun k => by rw [kit_Mod 6000 hosts _ (by omega) (by omega)]; rfl
  have m2 : ∀ {β : Type} (k : c_kit_Mod.sh.El → Option β), (c_kit_Mod.S 6000 (leaks, (f0.Leaks.length : Int) + 1)).bind k = k (leaks % ((f0.Leaks.length : Int) + 1)) := fun k => by rw [kit_Mod 6000 leaks _ (by omega) (by omega)]; rfl
  have a1 : 0 ≤ hosts % ((f0.Hosts.length : Int) + 1) := Int.emod_nonneg _ (by omega)
  have a2 : hosts % ((f0.Hosts.length : Int) + 1) < (f0.Hosts.length : Int) + 1 := Int.emod_lt_of_pos _ (by omega)
  have b1 : 0 ≤ leaks % ((f0.Leaks.length : Int) + 1) := Int.emod_nonneg _ (by omega)
  have b2 : leaks % ((f0.Leaks.length : Int) + 1) < (f0.Leaks.length : Int) + 1 := Int.emod_lt_of_pos _ (by omega)
  refine good_true ?_
  simp only [g_law22_TenantFewer, G.run, tsOk, known22_b, fab_b, lenO_bind, idxO_bind, appO_bind, w1, w2, m1, m2, if_true, decide_eq_true_eq]
  rw [slcO_bind' f0.Hosts _ _ _ a1 (by omega), slcO_bind' f0.Leaks _ _ _ b1 (by omega)]
  simp only [List.drop_zero]
  generalize (hosts % ((f0.Hosts.length : Int) + 1)).toNat = ka
  generalize (leaks % ((f0.Leaks.length : Int) + 1)).toNat = kb
  have hv := vf_fewer hv0 ka kb
  have hs := vf_small hv
  have hok := vf_ok hv
  have hS := hv0.segments
  have hL := hv0.leaves
  have hSp := hv0.spines
  rw [tenant_Check 6000 hn _ hs, vf_check hv]
  simp only [bne_self_eq_false, Bool.false_eq_true, if_false]
  refine Good.bind (γ := Unit ⊕ Unit) (Q := fun t => match t with | .inl _ => False | .inr _ => True) ?_ (fun t ht => ?_)
  · refine good_iter (fun j (s : Int) => s = (j : Int)) f0.Leaves.toNat (fun j s hj hs' => ?_) (fun s hs' => ?_) (by omega) rfl
    · subst hs'
      have hlt : (j : Int) < f0.Leaves := by omega
      rw [if_pos hlt]
      refine Good.bind (γ := List Int) (Q := fun q => q = posOf (fun s : Segment => s.Leaves.any fun y => (j : Int) == y) 0 f0.Segments) ?_ (fun q hq => ?_)
      · refine good_iter (fun i (s : Int × List Int) => s.1 = (i : Int) ∧ s.2 = posOf (fun s : Segment => s.Leaves.any fun y => (j : Int) == y) 0 (f0.Segments.take i)) f0.Segments.length (fun i s hi hs' => ?_) (fun s hs' => ?_) (by omega) ⟨rfl, rfl⟩
        · obtain ⟨g1, g2⟩ := hs'
          have hlt' : s.1 < (f0.Segments.length : Int) := by omega
          have e0 : f0.Segments[i]? = some f0.Segments[i] := List.getElem?_eq_getElem hi
          have e1 : at? f0.Segments s.1 = some f0.Segments[i] := by rw [g1, at?_nat]; exact e0
          have w : Go.IntKind.wrap .i64 (s.1 + 1) = s.1 + 1 := wrap_i64 (by omega) (by omega)
          have hlen : s.2.length ≤ i := by
            have := posOf_len (fun s : Segment => s.Leaves.any fun y => (j : Int) == y) (f0.Segments.take i) 0
            rw [← g2, List.length_take] at this; omega
          obtain ⟨⟨c1, c2, c3, c4⟩, -⟩ := hv0.seg _ (List.getElem_mem hi)
          have htake : f0.Segments.take (i + 1) = f0.Segments.take i ++ [f0.Segments[i]] := by rw [List.take_add_one, e0]; rfl
          have hpos : posOf (fun s : Segment => s.Leaves.any fun y => (j : Int) == y) 0 (f0.Segments.take (i + 1)) = s.2 ++ if (f0.Segments[i].Leaves.any fun y => (j : Int) == y) = true then [(i : Int)] else [] := by
            rw [htake, posOf_snoc, ← g2]
            have : (0 + (f0.Segments.take i).length : Nat) = i := by simp; omega
            rw [this]
          rw [if_pos hlt']
          simp only [e1, Option.bind_some]
          refine Good.bind (γ := List Int) (Q := fun q => q = posOf (fun s : Segment => s.Leaves.any fun y => (j : Int) == y) 0 (f0.Segments.take (i + 1))) ?_ (fun q hq => ?_)
          · refine good_iter (fun k (r : Int × List Int) => r.1 = (k : Int) ∧ r.2 = s.2 ++ if ((f0.Segments[i].Leaves.take k).any fun y => (j : Int) == y) = true then [(i : Int)] else []) f0.Segments[i].Leaves.length (fun k r hk hr => ?_) (fun r hr => ?_) (by omega) ⟨rfl, by simp⟩
            · obtain ⟨d1, d2⟩ := hr
              have hlt'' : r.1 < (f0.Segments[i].Leaves.length : Int) := by omega
              have f0' : f0.Segments[i].Leaves[k]? = some f0.Segments[i].Leaves[k] := List.getElem?_eq_getElem hk
              have f1 : at? f0.Segments[i].Leaves r.1 = some f0.Segments[i].Leaves[k] := by rw [d1, at?_nat]; exact f0'
              have w' : Go.IntKind.wrap .i64 (r.1 + 1) = r.1 + 1 := wrap_i64 (by omega) (by omega)
              have htk : f0.Segments[i].Leaves.take (k + 1) = f0.Segments[i].Leaves.take k ++ [f0.Segments[i].Leaves[k]] := by rw [List.take_add_one, f0']; rfl
              rw [if_pos hlt'']
              simp only [f1, Option.bind_some, w']
              by_cases he : (f0.Segments[i].Leaves[k] == (j : Int)) = true
              · have he' : f0.Segments[i].Leaves[k] = (j : Int) := by simpa using he
                have hno : ((f0.Segments[i].Leaves.take k).any fun y => (j : Int) == y) = false := by
                  have := any_take_false c4 f0'
                  rw [he'] at this; exact this
                rw [hno] at d2
                simp only [Bool.false_eq_true, if_false, List.append_nil] at d2
                have hroom : roomy (r.2.length + 1) 8 = true := by rw [d2]; simp [roomy]; omega
                rw [if_pos he, if_pos ⟨trivial, hroom⟩]
                refine .some ⟨by show r.1 + 1 = ((k + 1 : Nat) : Int); omega, ?_⟩
                have hyes : ((f0.Segments[i].Leaves.take (k + 1)).any fun y => (j : Int) == y) = true := by
                  rw [htk, List.any_append, he']; simp
                show r.2 ++ [s.1] = _
                rw [hyes, if_pos rfl, d2, g1]
              · rw [if_neg he]
                refine .some ⟨by show r.1 + 1 = ((k + 1 : Nat) : Int); omega, ?_⟩
                have he' : ((j : Int) == f0.Segments[i].Leaves[k]) = false := by simp only [beq_iff_eq] at he; simp only [beq_eq_false_iff_ne]; omega
                show r.2 = _
                rw [d2, htk, List.any_append]
                simp [he']
            · obtain ⟨d1, d2⟩ := hr
              have hlt'' : ¬ r.1 < (f0.Segments[i].Leaves.length : Int) := by omega
              rw [if_neg hlt'']
              refine .some ?_
              rw [hpos, d2, List.take_length]
          · rw [w]
            exact .some ⟨by show s.1 + 1 = ((i + 1 : Nat) : Int); omega, hq⟩
        · obtain ⟨g1, g2⟩ := hs'
          have hlt' : ¬ s.1 < (f0.Segments.length : Int) := by omega
          rw [if_neg hlt']
          refine .some ?_
          rw [g2, List.take_length]
      · have hql : q.length ≤ 6 := by
          have := posOf_len (fun s : Segment => s.Leaves.any fun y => (j : Int) == y) f0.Segments 0
          rw [← hq] at this; omega
        have hw : withinB (j : Int) (f0.Leaves + f0.Spines) = true := by simp only [withinB, Bool.and_eq_true, decide_eq_true_eq]; omega
        have w : Go.IntKind.wrap .i64 ((j : Int) + 1) = (j : Int) + 1 := wrap_i64 (by omega) (by omega)
        rw [addr_Loopback]
        have hlb : lbE (j : Int) = 0 := by unfold lbE; rw [if_neg (by omega), if_neg (by omega)]
        simp only [hlb, bne_self_eq_false, Bool.false_eq_true, if_false]
        rw [tenant_Loopback hn hs]
        have hlo : LoopbackS (Go.L.Fabric.mk f0.Leaves f0.Spines f0.Links f0.Tenants f0.BDs f0.Segments (f0.Hosts.take ka) (f0.Leaks.take kb) f0.Elect f0.Horizon f0.Router f0.Suppress f0.Trees f0.Timers) (j : Int) = lbS (j : Int) := by
          simp only [LoopbackS, hok, hw, if_true]
        rw [hlo]
        simp only [bne_self_eq_false, Bool.false_eq_true, if_false]
        rw [tenant_At hn hs]
        have hat : AtS (Go.L.Fabric.mk f0.Leaves f0.Spines f0.Links f0.Tenants f0.BDs f0.Segments (f0.Hosts.take ka) (f0.Leaks.take kb) f0.Elect f0.Horizon f0.Router f0.Suppress f0.Trees f0.Timers) (j : Int) = q := by
          simp only [AtS, hok, if_true]; exact hq.symm
        rw [hat, if_pos (by simp [tsOk, fzRow]), same_ints 6000 q (by omega) (by omega)]
        simp only [Bool.not_true, Bool.false_eq_true, if_false, w]
        exact .some (by show (j : Int) + 1 = ((j + 1 : Nat) : Int); omega)
    · subst hs'
      have hlt : ¬ ((f0.Leaves.toNat : Nat) : Int) < f0.Leaves := by omega
      rw [if_neg hlt]
      exact .some trivial
  · cases t with
    | inl _ => exact ht.elim
    | inr _ => exact .some rfl
end Go.L
