/- A call with one block of plain cells, told for block 0 and version 0, holds for any block and version. No program. -/
import Derived.Test.YtbfglcegmhgjdaaGreatDoorAmGa
namespace Go.AM

section
set_option linter.unusedSectionVars false
variable [Globs] {P : Program} {g g' : Gh} {w : World}

theorem CellsAt_pure (hst : ∀ k o, g.st k o → g'.st k o) {c : Array Value} : ∀ (l : List AVal) (o : Nat), AVal.pureL l = true → CellsAt g w c l o → CellsAt g' w c l o
  | [], _, _, _ => trivial
  | a :: as, o, hp, h => by
    simp only [AVal.pureL, Bool.and_eq_true] at hp
    obtain ⟨⟨y, h1, h2, h3⟩, h4⟩ := h
    exact ⟨⟨y, h1, h2, R_pure hst a y hp.1 h3⟩, CellsAt_pure hst as (o + 1) hp.2 h4⟩

theorem RowsAt_pure (hst : ∀ k o, g.st k o → g'.st k o) {c : Array Value} {sz : Nat} : ∀ (l : List (List AVal)) (o : Nat), l.all AVal.pureL = true → RowsAt g w c sz l o → RowsAt g' w c sz l o
  | [], _, _, _ => trivial
  | r :: rs, o, hp, h => by
    simp only [List.all_cons, Bool.and_eq_true] at hp
    exact ⟨⟨h.1.1, CellsAt_pure hst r o hp.1 h.1.2⟩, RowsAt_pure hst rs (o + sz) hp.2 h.2⟩

mutual
theorem R_at0 {b v : Nat} (hst : ∀ k o, g.st k o → g'.st k o) (hrho : ∀ x, g.rho b v = some x → g'.rho 0 0 = some x) : ∀ (a : AVal) (x : Value), a.only0 = true → R g w (a.at0 b v) x → R g' w a x
  | .sc _, x, _, hr => by simpa [R, AVal.at0] using hr
  | .agg cs, x, hp, hr => by
      simp only [R, AVal.only0, AVal.at0] at hr hp ⊢
      obtain ⟨vs, e, h1, hl⟩ := hr
      exact ⟨vs, e, h1, RL_at0 hst hrho cs vs hp hl⟩
  | .tup cs, x, hp, hr => by
      simp only [R, AVal.only0, AVal.at0] at hr hp ⊢
      obtain ⟨vs, e, hl⟩ := hr
      exact ⟨vs, e, RL_at0 hst hrho cs vs hp hl⟩
  | .ptr b' v' i o, x, hp, hr => by
      grind [R, AVal.only0, AVal.at0]
  | .cptr cs o, x, _, hr => by
      grind [R, AVal.at0, RC_pure]
  | .sl b' v' sz o n, x, hp, hr => by
      grind [R, AVal.only0, AVal.at0]
  | .lst rows, x, _, hr => R_pure hst _ x rfl (by simpa only [AVal.at0] using hr)
  | .tls rows, x, _, hr => R_pure hst _ x rfl (by simpa only [AVal.at0] using hr)
  | .fn f c d, x, hp, hr => by
      simp only [R, AVal.only0, AVal.at0, Bool.and_eq_true] at hr hp ⊢
      obtain ⟨va, vb, e, h1, h2⟩ := hr
      exact ⟨va, vb, e, RL_at0 hst hrho c va hp.1 h1, RL_at0 hst hrho d vb hp.2 h2⟩
  | .ifc t a, x, hp, hr => by
      simp only [R, AVal.only0, AVal.at0] at hr hp ⊢
      obtain ⟨y, e, h1⟩ := hr
      exact ⟨y, e, R_at0 hst hrho a y hp h1⟩
  | .mp _, _, hp, _ => by simp [AVal.only0] at hp
  | .yld _, _, hp, _ => by simp [AVal.only0] at hp
  | .sa b' v' i o s n, x, hp, hr => by
      grind [R, AVal.only0, AVal.at0]
  | .glob i o, x, _, hr => by simpa [R, AVal.at0] using hr
  | .emp, x, _, hr => by simpa [R, AVal.at0] using hr
  | .nz _, x, _, hr => by simpa [R, AVal.at0] using hr
  | .junk, x, _, _ => by simp [R]
theorem RL_at0 {b v : Nat} (hst : ∀ k o, g.st k o → g'.st k o) (hrho : ∀ x, g.rho b v = some x → g'.rho 0 0 = some x) : ∀ (a : List AVal) (x : List Value), AVal.only0L a = true → RL g w (AVal.at0L b v a) x → RL g' w a x
  | [], x, _, hr => by simpa [RL, AVal.at0L] using hr
  | a :: as, x, hp, hr => by
      simp only [RL, AVal.only0L, AVal.at0L, Bool.and_eq_true] at hr hp ⊢
      obtain ⟨y, ys, e, h1, h2⟩ := hr
      exact ⟨y, ys, e, R_at0 hst hrho a y hp.1 h1, RL_at0 hst hrho as ys hp.2 h2⟩
end

theorem row0_inv {x : ABlk} (h : x.row0 = true) : ∃ sz rows, x = .row 0 sz rows ∧ rows.all AVal.pureL = true := by
  unfold ABlk.row0 at h
  grind

open Classical in
theorem FnRef.move {f : FuncId} {args : List AVal} {x x' : ABlk} {r : ARes} (h : FnRef P f args [x] r [x']) (ha : AVal.only0L args = true) (hx : x.row0 = true) (hx' : x'.row0 = true) (hr : r.okR = true)
    (b v : Nat) (H : List ABlk) (hb : H[b]? = some (x.setVer v)) (hd : ∀ b', b' ≠ b → ∀ y, H[b']? = some y → y = .dead) : FnRef P f (AVal.at0L b v args) H (r.at1 b v) (H.set b (x'.setVer v)) := by
  obtain ⟨sz, rows, rfl, hp⟩ := row0_inv hx
  obtain ⟨sz', rows', rfl, hp'⟩ := row0_inv hx'
  simp only [ABlk.setVer] at hb ⊢
  have hblt : b < H.length := (List.getElem?_eq_some_iff.1 hb).1
  refine ⟨h.1, fun g w vs hi hl => ?_⟩
  let g' : Gh := ⟨fun b' v' => if b' = 0 ∧ v' = 0 then g.rho b v else none, g.st⟩
  have h00 : g'.rho 0 0 = g.rho b v := by simp [g']
  have hno : ∀ b' v', ¬ (b' = 0 ∧ v' = 0) → g'.rho b' v' = none := fun b' v' hc => by simp [g', hc]
  have hst : ∀ k o, g.st k o → g'.st k o := fun _ _ h => h
  have hi' : Inv g' [.row 0 sz rows] w := by
    refine ⟨fun b' y hy => ?_, fun b1 b2 y1 y2 v1 v2 k z z' e1 e2 _ _ _ _ => ?_, fun b' v' hc => ?_, fun b' y v1 v2 hy hv hlt => ?_, fun b' y v1 k z o hy hv hk => ?_, hi.stold, fun i cs hc => ⟨(hi.globs i cs hc).1, RC_pure hst _ _ _ (hi.globs i cs hc).1 (hi.globs i cs hc).2⟩⟩
    · cases b' with
      | zero =>
        simp only [List.getElem?_cons_zero, Option.some.injEq] at hy
        subst hy
        rcases hi.good b _ hb with ⟨k, c, e, h1, h2, h3, h4, h5⟩ | ⟨h1, h2, h3⟩
        · exact .inl ⟨k, c, e, by rw [h00]; exact h1, h2, RowsAt_pure hst rows 0 hp h3, h4, h5⟩
        · exact .inr ⟨h1, by rw [h00]; exact h2, h3⟩
      | succ n => simp at hy
    · grind
    · grind
    · grind
    · by_cases hc : b' = 0 ∧ v1 = 0
      · obtain ⟨rfl, rfl⟩ := hc
        rw [h00] at hk
        exact hi.free b _ v k z o hb rfl hk
      · rw [hno _ _ hc] at hk; cases hk
  have hl' : RL g' w args vs.toList := RL_at0 hst (fun x hx => by rw [h00]; exact hx) _ _ ha hl
  refine (h.2 g' w vs hi' hl').mono fun e w' ⟨g1', hi1, hla, he⟩ => ?_
  have hown : ∀ k, Owned g' [.row 0 sz rows] k → Owned g H k := by
    rintro k ⟨b', y, v', z, hy, hv, hk⟩
    by_cases hc : b' = 0 ∧ v' = 0
    · obtain ⟨rfl, rfl⟩ := hc
      rw [h00] at hk
      exact ⟨b, _, v, z, hb, rfl, hk⟩
    · rw [hno _ _ hc] at hk; cases hk
  have hown' : ∀ k, Owned g H k → Owned g' [.row 0 sz rows] k := by
    rintro k ⟨b', y, v', z, hy, hv, hk⟩
    by_cases hc : b' = b
    · subst hc
      rw [hb] at hy; cases hy
      simp only [ABlk.live, Option.some.injEq] at hv
      subst hv
      exact ⟨0, _, 0, z, rfl, rfl, by rw [h00]; exact hk⟩
    · rw [hd b' hc y hy] at hv; cases hv
  let g1 : Gh := ⟨fun b' v' => if b' = b ∧ v' = v then g1'.rho 0 0 else g.rho b' v', g1'.st⟩
  have e00 : g1.rho b v = g1'.rho 0 0 := by simp [g1]
  have eno : ∀ b' v', ¬ (b' = b ∧ v' = v) → g1.rho b' v' = g.rho b' v' := fun b' v' hc => by simp [g1, hc]
  have hst1 : ∀ k o, g1'.st k o → g1.st k o := fun _ _ h => h
  have hget : ∀ b', b' ≠ b → (H.set b (.row v sz' rows'))[b']? = H[b']? := fun b' hc => List.getElem?_set_ne (Ne.symm hc)
  have hself : (H.set b (.row v sz' rows'))[b]? = some (.row v sz' rows') := List.getElem?_set_self hblt
  have hinv1 : Inv g1 (H.set b (.row v sz' rows')) w' := by
    refine ⟨fun b' y hy => ?_, fun b1 b2 y1 y2 v1 v2 k z z' e1 e2 l1 l2 _ _ => ?_, fun b' v' hc => ?_, fun b' y v1 v2 hy hv hlt => ?_, fun b' y v1 k z o hy hv hk => ?_, hi1.stold, fun i cs hc => ⟨(hi1.globs i cs hc).1, RC_pure hst1 _ _ _ (hi1.globs i cs hc).1 (hi1.globs i cs hc).2⟩⟩
    · by_cases hc : b' = b
      · subst hc
        rw [hself] at hy; cases hy
        rcases hi1.good 0 _ rfl with ⟨k, c, e, h1, h2, h3, h4, h5⟩ | ⟨h1, h2, h3⟩
        · exact .inl ⟨k, c, e, by rw [e00]; exact h1, h2, RowsAt_pure hst1 rows' 0 hp' h3, h4, h5⟩
        · exact .inr ⟨h1, by rw [e00]; exact h2, h3⟩
      · rw [hget b' hc] at hy
        rw [hd b' hc y hy]; trivial
    · have key : ∀ (b' : Nat) (y : ABlk) (v' : Nat), (H.set b (.row v sz' rows'))[b']? = some y → y.live = some v' → b' = b := by
        intro b' y v' hy hv
        by_cases hc : b' = b
        · exact hc
        · rw [hget b' hc] at hy
          rw [hd b' hc y hy] at hv; cases hv
      grind
    · have hne : b' ≠ b := by
        rintro rfl
        rcases hc with hc | hc
        · rw [hself] at hc; cases hc
        · rw [List.length_set] at hc; omega
      rw [eno _ _ (fun hh => hne hh.1)]
      refine hi.fresh b' v' ?_
      grind
    · by_cases hc : b' = b
      · subst hc
        rw [hself] at hy; cases hy
        simp only [ABlk.live, Option.some.injEq] at hv
        subst hv
        rw [eno _ _ (by omega)]
        exact hi.next b' _ v v2 hb rfl hlt
      · rw [hget b' hc] at hy
        rw [hd b' hc y hy] at hv; cases hv
    · by_cases hc : b' = b
      · subst hc
        rw [hself] at hy; cases hy
        simp only [ABlk.live, Option.some.injEq] at hv
        subst hv
        rw [e00] at hk
        exact hi1.free 0 _ 0 k z o rfl rfl hk
      · rw [hget b' hc] at hy
        rw [hd b' hc y hy] at hv; cases hv
  have hback : ∀ k, Owned g1 (H.set b (.row v sz' rows')) k → Owned g1' [.row 0 sz' rows'] k := by
    rintro k ⟨b', y, v', z, hy, hv, hkz⟩
    by_cases hc : b' = b
    · subst hc
      rw [hself] at hy; cases hy
      simp only [ABlk.live, Option.some.injEq] at hv
      subst hv
      rw [e00] at hkz
      exact ⟨0, _, 0, z, rfl, rfl, hkz⟩
    · rw [hget b' hc] at hy
      rw [hd b' hc y hy] at hv; cases hv
  refine ⟨g1, hinv1, ⟨⟨fun b' v' y hy => ?_, fun k o hk => hla.ext.st k o hk, hla.ext.cell, hla.ext.shape⟩, hla.size, fun k hk ho => hla.keep k hk fun hc => ho (hown k hc), fun k hk ho => ?_, by grind, hla.os, hla.tape, hla.output, fun k o hk hs => (hla.stk k o hk hs).imp_right fun h => ⟨hown k h.1, fun ho => h.2 (hback k ho)⟩, fun b' hb' => ?_, fun b' v' k z hk => ?_⟩, ?_⟩
  · by_cases hc : b' = b ∧ v' = v
    · obtain ⟨rfl, rfl⟩ := hc
      rw [e00]
      exact hla.ext.rho 0 0 y (by rw [h00]; exact hy)
    · rw [eno _ _ hc]; exact hy
  · refine hown k (hla.own k hk ?_)
    grind
  · grind
  · by_cases hc : b' = b ∧ v' = v
    · obtain ⟨rfl, rfl⟩ := hc
      rw [e00] at hk
      rcases hla.newk 0 0 k z hk with ⟨v1, z1, h1⟩ | h1
      · grind
      · exact .inr h1
    grind
  · cases r with
    | ret u =>
      obtain ⟨y, rfl, hy⟩ := he
      have hq : (∃ sz o n, u = .sl 0 0 sz o n) ∨ (u.pure = true ∧ u.at1 b v = u) := by
        cases u with
        | sl b1 v1 sz o n =>
          grind [ARes.okR]
        | _ => exact .inr ⟨hr, rfl⟩
      rcases hq with ⟨sz, o, n, rfl⟩ | ⟨hp2, he2⟩
      · refine ⟨y, rfl, ?_⟩
        grind [AVal.at1, R]
      · refine ⟨y, rfl, ?_⟩
        grind [R_pure]
    | pan u =>
      obtain ⟨y, rfl, hy⟩ := he
      exact ⟨y, rfl, R_flat _ _ hr hy⟩

open Classical in
theorem FnRef.moveD {f : FuncId} {args : List AVal} {x : ABlk} {r : ARes} (h : FnRef P f args [x] r [.dead]) (ha : AVal.only0L args = true) (hx : x.row0 = true) (hr : r.okR = true)
    (b v : Nat) (H : List ABlk) (hb : H[b]? = some (x.setVer v)) (hd : ∀ b', b' ≠ b → ∀ y, H[b']? = some y → y = .dead) : FnRef P f (AVal.at0L b v args) H (r.at1 b v) (H.set b .dead) := by
  obtain ⟨sz, rows, rfl, hp⟩ := row0_inv hx
  simp only [ABlk.setVer] at hb ⊢
  have hblt : b < H.length := (List.getElem?_eq_some_iff.1 hb).1
  refine ⟨h.1, fun g w vs hi hl => ?_⟩
  let g' : Gh := ⟨fun b' v' => if b' = 0 ∧ v' = 0 then g.rho b v else none, g.st⟩
  have h00 : g'.rho 0 0 = g.rho b v := by simp [g']
  have hno : ∀ b' v', ¬ (b' = 0 ∧ v' = 0) → g'.rho b' v' = none := fun b' v' hc => by simp [g', hc]
  have hst : ∀ k o, g.st k o → g'.st k o := fun _ _ h => h
  have hi' : Inv g' [.row 0 sz rows] w := by
    refine ⟨fun b' y hy => ?_, fun b1 b2 y1 y2 v1 v2 k z z' e1 e2 _ _ _ _ => ?_, fun b' v' hc => ?_, fun b' y v1 v2 hy hv hlt => ?_, fun b' y v1 k z o hy hv hk => ?_, hi.stold, fun i cs hc => ⟨(hi.globs i cs hc).1, RC_pure hst _ _ _ (hi.globs i cs hc).1 (hi.globs i cs hc).2⟩⟩
    · cases b' with
      | zero =>
        simp only [List.getElem?_cons_zero, Option.some.injEq] at hy
        subst hy
        rcases hi.good b _ hb with ⟨k, c, e, h1, h2, h3, h4, h5⟩ | ⟨h1, h2, h3⟩
        · exact .inl ⟨k, c, e, by rw [h00]; exact h1, h2, RowsAt_pure hst rows 0 hp h3, h4, h5⟩
        · exact .inr ⟨h1, by rw [h00]; exact h2, h3⟩
      | succ n => simp at hy
    · grind
    · grind
    · grind
    · by_cases hc : b' = 0 ∧ v1 = 0
      · obtain ⟨rfl, rfl⟩ := hc
        rw [h00] at hk
        exact hi.free b _ v k z o hb rfl hk
      · rw [hno _ _ hc] at hk; cases hk
  have hl' : RL g' w args vs.toList := RL_at0 hst (fun x hx => by rw [h00]; exact hx) _ _ ha hl
  refine (h.2 g' w vs hi' hl').mono fun e w' ⟨g1', hi1, hla, he⟩ => ?_
  have hown : ∀ k, Owned g' [.row 0 sz rows] k → Owned g H k := by
    rintro k ⟨b', y, v', z, hy, hv, hk⟩
    by_cases hc : b' = 0 ∧ v' = 0
    · obtain ⟨rfl, rfl⟩ := hc
      rw [h00] at hk
      exact ⟨b, _, v, z, hb, rfl, hk⟩
    · rw [hno _ _ hc] at hk; cases hk
  have hown' : ∀ k, Owned g H k → Owned g' [.row 0 sz rows] k := by
    rintro k ⟨b', y, v', z, hy, hv, hk⟩
    by_cases hc : b' = b
    · subst hc
      rw [hb] at hy; cases hy
      simp only [ABlk.live, Option.some.injEq] at hv
      subst hv
      exact ⟨0, _, 0, z, rfl, rfl, by rw [h00]; exact hk⟩
    · rw [hd b' hc y hy] at hv; cases hv
  let g1 : Gh := ⟨fun b' v' => if b' = b ∧ v' = v then g1'.rho 0 0 else g.rho b' v', g1'.st⟩
  have e00 : g1.rho b v = g1'.rho 0 0 := by simp [g1]
  have eno : ∀ b' v', ¬ (b' = b ∧ v' = v) → g1.rho b' v' = g.rho b' v' := fun b' v' hc => by simp [g1, hc]
  have hst1 : ∀ k o, g1'.st k o → g1.st k o := fun _ _ h => h
  have hget : ∀ b', b' ≠ b → (H.set b .dead)[b']? = H[b']? := fun b' hc => List.getElem?_set_ne (Ne.symm hc)
  have hself : (H.set b .dead)[b]? = some .dead := List.getElem?_set_self hblt
  have hinv1 : Inv g1 (H.set b .dead) w' := by
    refine ⟨fun b' y hy => ?_, fun b1 b2 y1 y2 v1 v2 k z z' e1 e2 l1 l2 _ _ => ?_, fun b' v' hc => ?_, fun b' y v1 v2 hy hv hlt => ?_, fun b' y v1 k z o hy hv hk => ?_, hi1.stold, fun i cs hc => ⟨(hi1.globs i cs hc).1, RC_pure hst1 _ _ _ (hi1.globs i cs hc).1 (hi1.globs i cs hc).2⟩⟩
    · by_cases hc : b' = b
      · subst hc
        rw [hself] at hy; cases hy
        trivial
      · rw [hget b' hc] at hy
        rw [hd b' hc y hy]; trivial
    · have key : ∀ (b' : Nat) (y : ABlk) (v' : Nat), (H.set b .dead)[b']? = some y → y.live = some v' → b' = b := by
        intro b' y v' hy hv
        by_cases hc : b' = b
        · exact hc
        · rw [hget b' hc] at hy
          rw [hd b' hc y hy] at hv; cases hv
      grind
    · have hne : b' ≠ b := by
        rintro rfl
        rcases hc with hc | hc
        · rw [hself] at hc; cases hc
        · rw [List.length_set] at hc; omega
      rw [eno _ _ (fun hh => hne hh.1)]
      refine hi.fresh b' v' ?_
      grind
    · by_cases hc : b' = b
      · subst hc
        rw [hself] at hy; cases hy
        cases hv
      · rw [hget b' hc] at hy
        rw [hd b' hc y hy] at hv; cases hv
    · by_cases hc : b' = b
      · subst hc
        rw [hself] at hy; cases hy
        cases hv
      · rw [hget b' hc] at hy
        rw [hd b' hc y hy] at hv; cases hv
  have hback : ∀ k, Owned g1 (H.set b .dead) k → Owned g1' [.dead] k := by
    rintro k ⟨b', y, v', z, hy, hv, hkz⟩
    by_cases hc : b' = b
    · subst hc
      rw [hself] at hy; cases hy
      cases hv
    · rw [hget b' hc] at hy
      rw [hd b' hc y hy] at hv; cases hv
  refine ⟨g1, hinv1, ⟨⟨fun b' v' y hy => ?_, fun k o hk => hla.ext.st k o hk, hla.ext.cell, hla.ext.shape⟩, hla.size, fun k hk ho => hla.keep k hk fun hc => ho (hown k hc), fun k hk ho => ?_, by grind, hla.os, hla.tape, hla.output, fun k o hk hs => (hla.stk k o hk hs).imp_right fun h => ⟨hown k h.1, fun ho => h.2 (hback k ho)⟩, fun b' hb' => ?_, fun b' v' k z hk => ?_⟩, ?_⟩
  · by_cases hc : b' = b ∧ v' = v
    · obtain ⟨rfl, rfl⟩ := hc
      rw [e00]
      exact hla.ext.rho 0 0 y (by rw [h00]; exact hy)
    · rw [eno _ _ hc]; exact hy
  · refine hown k (hla.own k hk ?_)
    grind
  · grind
  · by_cases hc : b' = b ∧ v' = v
    · obtain ⟨rfl, rfl⟩ := hc
      rw [e00] at hk
      rcases hla.newk 0 0 k z hk with ⟨v1, z1, h1⟩ | h1
      · grind
      · exact .inr h1
    grind
  · cases r with
    | ret u =>
      obtain ⟨y, rfl, hy⟩ := he
      have hq : (∃ sz o n, u = .sl 0 0 sz o n) ∨ (u.pure = true ∧ u.at1 b v = u) := by
        cases u with
        | sl b1 v1 sz o n =>
          grind [ARes.okR]
        | _ => exact .inr ⟨hr, rfl⟩
      rcases hq with ⟨sz, o, n, rfl⟩ | ⟨hp2, he2⟩
      · refine ⟨y, rfl, ?_⟩
        grind [AVal.at1, R]
      · refine ⟨y, rfl, ?_⟩
        grind [R_pure]
    | pan u =>
      obtain ⟨y, rfl, hy⟩ := he
      exact ⟨y, rfl, R_flat _ _ hr hy⟩

theorem FnRef.moveE {f : FuncId} {args : List AVal} {x x' : ABlk} {r : ARes} (h : FnRef P f args [x] r [x']) (ha : AVal.only0L args = true) (hx : x.row0 = true) (hx' : x'.row0 = true ∨ x' = .dead) (hr : r.okR = true)
    (b v : Nat) (H : List ABlk) (hb : H[b]? = some (x.setVer v)) (hd : ∀ b', b' ≠ b → ∀ y, H[b']? = some y → y = .dead) : FnRef P f (AVal.at0L b v args) H (r.at1 b v) (H.set b (x'.setVer v)) := by
  rcases hx' with hx' | rfl
  · exact h.move ha hx hx' hr b v H hb hd
  · exact h.moveD ha hx hr b v H hb hd


theorem FnRef.frame {f : FuncId} {args : List AVal} {H : List ABlk} {r : ARes} {b : Nat} {y : ABlk} (h : FnRef P f args (mask [b] H) r ((mask [b] H).set b y)) (hb : b < H.length) : FnRef P f args H r (H.set b y) := by
  refine ⟨h.1, fun g w vs hi hl => (h.2 g w vs (inv_mask hi [b]) hl).mono fun e w' ⟨g1, hi1, hla, he⟩ => ?_⟩
  have hlen : ((mask [b] H).set b y).length = H.length := by rw [List.length_set, mask_length]
  have := Inv.merge hi hi1 hla (by omega)
  have e1 : merged [b] H ((mask [b] H).set b y) = H.set b y := by
    simp only [merged, List.foldl_cons, List.foldl_nil]
    rw [List.getD_eq_getElem?_getD, List.getElem?_set_self (by rw [mask_length]; exact hb)]; rfl
  have e2 : ((mask [b] H).set b y).drop H.length = [] := List.drop_of_length_le (by omega)
  rw [e1, e2, List.append_nil] at this
  exact ⟨g1, this.1, this.2, he⟩

mutual
theorem refsLt_pure (n : Nat) : ∀ (v : AVal), v.pure = true → v.refsLt n = true
  | .sc _, _ => rfl
  | .agg cs, h => by simp only [AVal.pure, AVal.refsLt] at h ⊢; exact refsLtL_pure n cs h
  | .tup cs, h => by simp only [AVal.pure, AVal.refsLt] at h ⊢; exact refsLtL_pure n cs h
  | .ptr .., h => by simp [AVal.pure] at h
  | .cptr .., _ => rfl
  | .sl .., h => by simp [AVal.pure] at h
  | .lst _, _ => rfl
  | .tls _, _ => rfl
  | .fn f a b, h => by
    simp only [AVal.pure, AVal.refsLt, Bool.and_eq_true] at h ⊢
    exact ⟨refsLtL_pure n a h.1, refsLtL_pure n b h.2⟩
  | .ifc t v, h => by simp only [AVal.pure, AVal.refsLt] at h ⊢; exact refsLt_pure n v h
  | .mp _, h => by simp [AVal.pure] at h
  | .yld _, h => by simp [AVal.pure] at h
  | .sa .., h => by simp [AVal.pure] at h
  | .glob .., _ => rfl
  | .emp, _ => rfl
  | .nz _, _ => rfl
  | .junk, _ => rfl
theorem refsLtL_pure (n : Nat) : ∀ (l : List AVal), AVal.pureL l = true → AVal.refsLtL n l = true
  | [], _ => rfl
  | a :: as, h => by
    simp only [AVal.pureL, AVal.refsLtL, Bool.and_eq_true] at h ⊢
    exact ⟨refsLt_pure n a h.1, refsLtL_pure n as h.2⟩
end

/-- Blocks behind the first ones are given up at the end of a call. -/
theorem FnRef.take {f : FuncId} {args : List AVal} {H H1 : List ABlk} {a : ARes} (h : FnRef P f args H a H1) (h0 : 0 < H.length) (ha : a.okR = true) (hb : ∀ x ∈ H1.take H.length, x.row0 = true ∨ x = .dead) : FnRef P f args H a (H1.take H.length) := by
  refine ⟨h.1, fun g w vs hi hl => (h.2 g w vs hi hl).mono fun e w' ⟨g1, hi1, hla, he⟩ => ?_⟩
  have hlen : (H1.take H.length).length = H.length := by rw [List.length_take]; have := hla.len; omega
  have hK : H1.take H.length ++ H1.drop H.length = H1 := List.take_append_drop _ _
  obtain ⟨i1, i2⟩ := Inv.drop (n := H.length) (K := H1.take H.length) (L := H1.drop H.length) hi (by rw [hK]; exact hi1) (by rw [hK]; exact hla) hlen rfl fun b x hx => .inl (by
    rcases hb x (List.mem_of_getElem? hx) with hb | rfl
    · grind [row0_inv, blkLt, refsLtL_pure]
    · rfl)
  refine ⟨g1.upto H.length, i1, i2, ?_⟩
  cases a with
  | ret v =>
    obtain ⟨x, rfl, hx⟩ := he
    refine ⟨x, rfl, ?_⟩
    by_cases hp : v.pure = true
    · exact R_pure (g := g1) (g2 := g1.upto H.length) (fun _ _ h => h) v x hp hx
    · cases v <;> try exact absurd ha hp
      rename_i b ver sz o n
      simp only [ARes.okR, Bool.and_eq_true, beq_iff_eq] at ha
      obtain ⟨rfl, rfl⟩ := ha
      simp only [R] at hx ⊢
      rcases hx with hx | ⟨k, cap, e, s, h1, h2⟩
      · exact .inl hx
      · exact .inr ⟨k, cap, e, s, by simpa [Gh.upto, h0] using h1, h2⟩
  | pan v =>
    obtain ⟨x, rfl, hx⟩ := he
    exact ⟨x, rfl, R_flat v x ha hx⟩

theorem lowB_get {pr : List Nat} {n : Nat} : ∀ {L : List ABlk} {i : Nat}, lowB pr n i L = true → ∀ (b : Nat) (x : ABlk), L[b]? = some x → pr.contains (i + b) = true ∨ blkLt n x = true
  | [], _, _, b, x, h => by simp at h
  | y :: ys, i, hl, 0, x, h => by
    grind [lowB]
  | y :: ys, i, hl, b + 1, x, h => by
    simp only [lowB, Bool.and_eq_true] at hl
    have := lowB_get hl.2 b x (by simpa using h)
    grind

/-- The same, where other blocks may be named below. -/
theorem FnRef.trim {f : FuncId} {args : List AVal} {H H1 : List ABlk} {a : ARes} {pr : List Nat} (h : FnRef P f args H a H1) (hpan : ∀ v, a = .pan v → v.flat = true) (ha : a.refsLt H.length = true) (hl : lowB pr H.length 0 (H1.take H.length) = true)
    (hp : ∀ i, pr.contains i = true → ∃ x, H1[i]? = some x ∧ prBlk x = true) : FnRef P f args H a (H1.take H.length) := by
  refine ⟨h.1, fun g w vs hi hl' => (h.2 g w vs hi hl').mono fun e w' ⟨g1, hi1, hla, he⟩ => ?_⟩
  have hlen : (H1.take H.length).length = H.length := by rw [List.length_take]; have := hla.len; omega
  have hK : H1.take H.length ++ H1.drop H.length = H1 := List.take_append_drop _ _
  obtain ⟨i1, i2⟩ := Inv.drop (n := H.length) (K := H1.take H.length) (L := H1.drop H.length) hi (by rw [hK]; exact hi1) (by rw [hK]; exact hla) hlen rfl fun b x hx => .inl (by
    rcases lowB_get hl b x hx with hc | hc
    · grind [prBlk_inv, blkLt, refsLtL_pure, refsLt_pure]
    · exact hc)
  refine ⟨g1.upto H.length, i1, i2, ?_⟩
  cases a with
  | ret v =>
    obtain ⟨x, rfl, hx⟩ := he
    exact ⟨x, rfl, R_restrict (n := H.length) (g := g1) (g2 := g1.upto H.length) (fun _ _ h => h) (fun b ver x hb he => by grind [Gh.upto]) v x ha hx⟩
  | pan v =>
    obtain ⟨x, rfl, hx⟩ := he
    exact ⟨x, rfl, R_flat v x (hpan v rfl) hx⟩

mutual
theorem R_but {b : Nat} : ∀ (a : AVal) (x : Value), R g w a x → R g w (a.but b) x
  | .sc _, x, hr => by simpa only [AVal.but] using hr
  | .agg cs, x, hr => by
      simp only [R, AVal.but] at hr ⊢
      obtain ⟨vs, e, h1, hl⟩ := hr
      exact ⟨vs, e, h1, RL_but cs vs hl⟩
  | .tup cs, x, hr => by
      simp only [R, AVal.but] at hr ⊢
      obtain ⟨vs, e, hl⟩ := hr
      exact ⟨vs, e, RL_but cs vs hl⟩
  | .ptr .., x, hr => by
      grind [AVal.but, R]
  | .cptr .., x, hr => by simpa only [AVal.but] using hr
  | .sl .., x, hr => by
      grind [AVal.but, R]
  | .lst _, x, hr => by simpa only [AVal.but] using hr
  | .tls _, x, hr => by simpa only [AVal.but] using hr
  | .fn f c d, x, hr => by
      simp only [R, AVal.but] at hr ⊢
      obtain ⟨va, vb, e, h1, h2⟩ := hr
      exact ⟨va, vb, e, RL_but c va h1, RL_but d vb h2⟩
  | .ifc t a, x, hr => by
      simp only [R, AVal.but] at hr ⊢
      obtain ⟨y, e, h1⟩ := hr
      exact ⟨y, e, R_but a y h1⟩
  | .mp _, _, _ => by simp [AVal.but, R]
  | .yld _, _, _ => by simp [AVal.but, R]
  | .sa .., x, hr => by
      grind [AVal.but, R]
  | .glob .., x, hr => by simpa only [AVal.but] using hr
  | .emp, x, hr => by simpa only [AVal.but] using hr
  | .nz _, x, hr => by simpa only [AVal.but] using hr
  | .junk, x, _ => by simp [AVal.but, R]
theorem RL_but {b : Nat} : ∀ (a : List AVal) (x : List Value), RL g w a x → RL g w (AVal.butL b a) x
  | [], x, hr => by simpa [RL, AVal.butL] using hr
  | a :: as, x, hr => by
      simp only [RL, AVal.butL] at hr ⊢
      obtain ⟨y, ys, e, h1, h2⟩ := hr
      exact ⟨y, ys, e, R_but a y h1, RL_but as ys h2⟩
end

theorem FnRef.but {b : Nat} {f : FuncId} {args : List AVal} {H H1 : List ABlk} {r : ARes} (h : FnRef P f (AVal.butL b args) H r H1) : FnRef P f args H r H1 :=
  ⟨h.1, fun g w vs hi hl => h.2 g w vs hi (RL_but _ _ hl)⟩

/-- Of a row that is handed back the last elements may be forgotten. -/
theorem FnRef.shrink {f : FuncId} {args : List AVal} {x : ABlk} {sz : Nat} {rows : List (List AVal)} {r : ARes} (n : Nat) (h : FnRef P f args [x] r [.row 0 sz rows]) : FnRef P f args [x] r [.row 0 sz (rows.take n)] := by
  refine ⟨h.1, fun g w vs hi hl => (h.2 g w vs hi hl).mono fun e w' ⟨g', hi', hla, he⟩ => ⟨g', ?_, ?_, he⟩⟩
  · have one : ∀ {b : Nat} {y y' : ABlk}, [y][b]? = some y' → b = 0 ∧ y' = y := by
      intro b y y' hy
      cases b with
      | zero => simp at hy; exact ⟨rfl, hy.symm⟩
      | succ b => simp at hy
    refine ⟨fun b y hy => ?_, fun b b' y y' v v' k z z' h1 h2 _ _ _ _ => (one h1).1.trans (one h2).1.symm, fun b ver hc => hi'.fresh b ver ?_, fun b y v ver' hy hv hlt => ?_, fun b y v k z o hy hv hk => ?_, hi'.stold, hi'.globs⟩
    · obtain ⟨rfl, rfl⟩ := one hy
      rcases hi'.good 0 _ rfl with ⟨k, c, e, h1, h2, h3, h4, h5⟩ | ⟨h1, h2⟩
      · refine .inl ⟨k, c, e, h1, h2, RowsAt_of _ _ fun j r hr => ?_, Nat.le_trans (Nat.mul_le_mul_right _ (by rw [List.length_take]; omega)) h4, h5⟩
        rw [List.getElem?_take] at hr
        split at hr
        · exact RowsAt_get _ _ _ _ h3 hr
        · cases hr
      · exact .inr ⟨by rw [h1]; simp, h2⟩
    · grind
    · obtain ⟨rfl, rfl⟩ := one hy
      exact hi'.next 0 (.row 0 sz rows) v ver' rfl hv hlt
    · obtain ⟨rfl, rfl⟩ := one hy
      exact hi'.free 0 (.row 0 sz rows) v k z o rfl hv hk
  · refine ⟨hla.ext, hla.size, hla.keep, fun k hk ho => hla.own k hk ?_, hla.len, hla.os, hla.tape, hla.output, fun k o hk hs => ?_, fun b hb => ?_, hla.newk⟩
    · obtain ⟨b, y, v, z, hy, hv, hz⟩ := ho
      cases b with
      | zero =>
        simp only [List.getElem?_cons_zero, Option.some.injEq] at hy
        subst hy
        exact ⟨0, .row 0 sz rows, v, z, rfl, hv, hz⟩
      | succ b => simp at hy
    · refine (hla.stk k o hk hs).imp_right fun h => ⟨h.1, ?_⟩
      rintro ⟨b, y, v, z, hy, hv, hz⟩
      cases b with
      | zero =>
        simp only [List.getElem?_cons_zero, Option.some.injEq] at hy
        subst hy
        exact h.2 ⟨0, .row 0 sz rows, v, z, rfl, hv, hz⟩
      | succ b => simp at hy
    · have := (hla.deadk b hb).1
      grind

end
end Go.AM
