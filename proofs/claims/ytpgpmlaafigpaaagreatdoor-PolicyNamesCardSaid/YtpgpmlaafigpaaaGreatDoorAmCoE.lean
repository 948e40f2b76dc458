/- The library's Compact, as a function that is handed one row of ours: what the row holds behind it. No program. -/
import Derived.Test.YtpgpmlaafigpaaaGreatDoorAmSv
import Derived.Sort.AssemblyPlain
import Derived.Shelf.SlicesE.Compact
namespace Go.Proofs
open Go.Shelf Go.RowKit Go.Lib Go.Sort
variable {P : Program} {ρ : Ren}
set_option maxHeartbeats 1000000 in
/-- At a nil slice. -/
theorem compact_none (L : SlLaysE.n43 P ρ) (a : Option Addr) (cap : Nat) (w : World) :
    Calls P (ρ.f 43) #[.slice a 0 cap] w fun e w' => e = .returned (.slice a 0 cap) ∧ w' = w := by
  have mixed := L.mixed; have t0 := L.t0; have a0 := L.a0; have z0 := L.z0; have v0 := L.v0; have t3 := L.t3; have a3 := L.a3; have z3 := L.z3; have v3 := L.v3; have t4 := L.t4; have a4 := L.a4; have z4 := L.z4; have v4 := L.v4; have t22 := L.t22; have a22 := L.a22; have z22 := L.z22; have v22 := L.v22; have a23 := L.a23; have z23 := L.z23
  obtain ⟨_, _, FG⟩ := L.f43
  go_enter FG, SlBodyN.n43_ntmps ρ
  go_wp2
  go_ret
  exact ⟨rfl, rfl⟩
end Go.Proofs
namespace Go.AM
open Go.Sort Go.Shelf Go.RowKit Go.Proofs Go.Lib
set_option linter.unusedSectionVars false
set_option linter.unusedVariables false
set_option linter.unusedSimpArgs false

variable [Globs] {P : Program} {ρ : Shelf.Ren} {α : Type} [Inhabited α] [DecidableEq α]

def enc1 (enc : α → Value) (x : α) : List AVal := [.sc (enc x)]

theorem holds1_of_rows {enc : α → Value} {g : Gh} {w : World} {kb : Nat} {c : Array Value} {e : TypeId} (l : List α) (hheap : w.heap[kb]? = some (.cells c e (0, 0))) (hr : RowsAt g w c 1 (l.map (enc1 enc)) 0) : Holds enc w kb 0 l.toArray := by
  intro j hj
  have hj' : j < l.length := by simpa using hj
  have hl : l[j]? = some l[j] := List.getElem?_eq_getElem hj'
  obtain ⟨_, hc⟩ := RowsAt_get _ _ j (enc1 enc l[j]) hr (by simp [hl])
  obtain ⟨y, h1, _, h3⟩ := CellsAt_get _ _ 0 (.sc (enc l[j])) hc (by simp [enc1])
  simp only [R] at h3
  subst h3
  refine ⟨?_, by simp [World.frozen?, hheap]⟩
  rw [World.cell?, hheap]
  simp only [Option.isSome_none, Bool.false_eq_true, if_false]
  rw [Nat.zero_add, Nat.mul_one, Nat.add_zero] at h1
  rw [Nat.zero_add, h1]
  simp [hj']

theorem rows_of_put1 {enc : α → Value} {g : Gh} {w : World} {c : Array Value} (l tl : List α) (h1 : ∀ x, (enc x).oneCell' = true) (hc : l.length + tl.length ≤ c.size) : RowsAt g w (putCells enc 0 (l ++ tl).toArray c) 1 (l.map (enc1 enc)) 0 := by
  refine RowsAt_of _ _ fun j r hj => ?_
  obtain ⟨x, hx, rfl⟩ := Option.map_eq_some_iff.1 (by rwa [List.getElem?_map] at hj : (l[j]?).map (enc1 enc) = some r)
  refine ⟨by simp [enc1], CellsAt_of _ _ fun i a hi => ?_⟩
  have hjl : j < l.length := (List.getElem?_eq_some_iff.1 hx).1
  have hi0 : i = 0 ∧ a = .sc (enc x) := by
    unfold enc1 at hi
    cases i with
    | zero => simpa using hi.symm
    | succ i => simp at hi
  obtain ⟨rfl, rfl⟩ := hi0
  refine ⟨enc x, ?_, h1 x, by simp [R]⟩
  simp only [putCells, Array.getElem?_mapIdx, Nat.zero_add, Nat.mul_one, Nat.add_zero]
  rw [Array.getElem?_eq_getElem (by omega)]
  simp only [Option.map_some, Nat.zero_le, true_and, Nat.sub_zero, List.size_toArray, List.length_append]
  rw [if_pos (by omega)]
  have hx' : (l ++ tl).toArray[j]! = x := by
    rw [getElem!_pos _ j (by simp; omega)]
    simp only [List.getElem_toArray]
    rw [List.getElem_append_left hjl]
    exact (List.getElem?_eq_some_iff.1 hx).2
  rw [hx']

theorem compact_len (l : List α) : (compact l).length ≤ l.length := by
  unfold compact compactUpTo
  rw [List.length_map]
  exact Nat.le_trans (List.length_filter_le _ _) (by simp)

/-- **The library's Compact**, handed one row of ours: what is kept. -/
theorem compact_ref (L : SlLaysE.n43 P ρ) (enc : α → Value) (hO : OneCell enc) (heq : EqlAt P (ρ.t 23) enc (fun x y => decide (x = y))) (hne : NeqAt P (ρ.t 23) enc (fun x y => decide (x = y))) (zr : α) (v23 : ∀ w, (zeroValue (ρ.t 23)).run P w = .ok (enc zr) w)
    (h1 : ∀ x, (enc x).oneCell' = true) (hf : ∃ fn c, P.funcs[ρ.f 43]? = some fn ∧ fn.body = some c ∧ fn.name ≠ "runtime.NumGoroutine") (l : List α) :
    FnRef P (ρ.f 43) [.sl 0 0 1 0 l.length] [.row 0 1 (l.map (enc1 enc))] (.ret (.sl 0 0 1 0 (compact l).length)) [.row 0 1 ((compact l).map (enc1 enc))] := by
  have hcl := compact_len l
  refine ⟨hf, fun g w vs hi hl => ?_⟩
  simp only [RL] at hl
  obtain ⟨x1, xs, hvs, hx1, rfl⟩ := hl
  obtain rfl : vs = #[x1] := by apply Array.ext'; simpa using hvs
  simp only [R] at hx1
  rcases hx1 with ⟨h0, rfl⟩ | ⟨kb, cap, e, s, hrho, rfl, hsh, hcap, hle, hbig⟩
  · have hl0 : l = [] := List.length_eq_zero_iff.1 h0
    subst hl0
    refine (compact_none L none 0 w).mono fun e' w' ⟨he, hw⟩ => ?_
    subst he; subst hw
    exact ⟨g, hi, Later.refl _ _ _, ⟨_, rfl, by simp [R]; exact List.length_eq_zero_iff.1 (by simpa using hcl)⟩⟩
  · obtain ⟨kb', c, e', hr1, hheap, hrows, hsize, _, hfree⟩ := hi.row 0 0 1 _ rfl hrho
    rw [hrho] at hr1
    simp only [Option.some.injEq, Prod.mk.injEq, and_true] at hr1
    subst hr1
    rw [List.length_map, Nat.mul_one] at hsize
    have hH := holds1_of_rows l hheap hrows
    have key := AnyE.slices_Compact L enc hO heq hne zr v23 kb 0 cap l.toArray w hH (by simp; omega) (by simpa using hle)
    simp only [List.size_toArray] at key
    rw [Nat.zero_mul]
    have hz : (compact l).length + (List.replicate (l.length - (compact l).length) zr).length = l.length := by rw [List.length_replicate]; omega
    refine key.mono fun e2 w2 ⟨he, q, hw⟩ => ?_
    subst he; subst hw
    have hput : (putRow enc (Sort.ahead w q) kb 0 (compact l ++ List.replicate (l.length - (compact l).length) zr).toArray).heap[kb]? = some (.cells (putCells enc 0 (compact l ++ List.replicate (l.length - (compact l).length) zr).toArray c) e' (0, 0)) := by
      simp only [putRow, mapBlock, heap_ahead, Array.getElem?_modify, if_true, hheap, Option.map_some, onCells]
    have hoth : ∀ j, j ≠ kb → (putRow enc (Sort.ahead w q) kb 0 (compact l ++ List.replicate (l.length - (compact l).length) zr).toArray).heap[j]? = w.heap[j]? := fun j hj => by
      simp only [putRow, mapBlock, heap_ahead, Array.getElem?_modify, if_neg (Ne.symm hj)]
    obtain ⟨s1, s2⟩ := hi.store (b := 0) (ver := 0) (sz := 1) (k := kb) (rows := l.map (enc1 enc)) (rows' := (compact l).map (enc1 enc)) rfl hrho hheap hput (by simp [putCells]) hoth (by simp [putRow, mapBlock]) rfl ⟨rfl, Nat.le_add_right _ _⟩ rfl
      (rows_of_put1 _ _ h1 (by rw [hz]; exact hsize)) (by simp [putCells]; omega)
    have hshp : (putRow enc (Sort.ahead w q) kb 0 (compact l ++ List.replicate (l.length - (compact l).length) zr).toArray).shape? kb = some (e, s) := s2.ext.shape _ _ hsh
    exact ⟨g, s1, s2, ⟨_, rfl, by simp only [R]; exact .inr ⟨kb, cap, e, s, hrho, by rw [Nat.zero_mul]; rfl, hshp, hcap, by omega, hbig⟩⟩⟩
end Go.AM
