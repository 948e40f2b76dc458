/- The library's sort of numbers, as a function that is handed one row of ours: what the row holds behind it. No program. -/
import Derived.Test.YtpgpmlaafigpaaaGreatDoorAmGd
import Derived.Shelf.SortM.Plain
import Derived.Shelf.SortM.SortNone
namespace Go.AM
open Go.Sort Go.Shelf Go.RowKit Go.Proofs Go.Lib
set_option linter.unusedSectionVars false
set_option linter.unusedVariables false
set_option linter.unusedSimpArgs false
namespace Sn
variable [Globs] {P : Program} {ρ : Shelf.Ren} {α : Type} [Inhabited α] [DecidableEq α]

def enc1 (enc : α → Value) (x : α) : List AVal := [.sc (enc x)]

theorem holds1_of_rows {enc : α → Value} {g : Gh} {w : World} {kb : Nat} {c : Array Value} {e : TypeId} (l : List α) (hheap : w.heap[kb]? = some (.cells c e (0, 0))) (hr : RowsAt g w c 1 (l.map (enc1 enc)) 0) : Holds enc w kb 0 l.toArray := by
  intro j hj
  have hj' : j < l.length := by simpa using hj
  have hl : l[j]? = some l[j] := List.getElem?_eq_getElem hj'
  obtain ⟨_, hc⟩ := RowsAt_get _ _ j (enc1 enc l[j]) hr (by simp [hl])
  obtain ⟨y, h1, _, h3⟩ := CellsAt_get _ _ 0 (.sc (enc l[j])) hc (by simp [enc1])
  simp only [R] at h3
  subst h3
  refine ⟨?_, by simp [World.frozen?, hheap]⟩
  rw [World.cell?, hheap]
  simp only [Option.isSome_none, Bool.false_eq_true, if_false]
  rw [Nat.zero_add, Nat.mul_one, Nat.add_zero] at h1
  rw [Nat.zero_add, h1]
  simp [hj']

theorem rows_of_put1 {enc : α → Value} {g : Gh} {w : World} {c : Array Value} (l tl : List α) (h1 : ∀ x, (enc x).oneCell' = true) (hc : l.length + tl.length ≤ c.size) : RowsAt g w (putCells enc 0 (l ++ tl).toArray c) 1 (l.map (enc1 enc)) 0 := by
  refine RowsAt_of _ _ fun j r hj => ?_
  obtain ⟨x, hx, rfl⟩ := Option.map_eq_some_iff.1 (by rwa [List.getElem?_map] at hj : (l[j]?).map (enc1 enc) = some r)
  refine ⟨by simp [enc1], CellsAt_of _ _ fun i a hi => ?_⟩
  have hjl : j < l.length := (List.getElem?_eq_some_iff.1 hx).1
  have hi0 : i = 0 ∧ a = .sc (enc x) := by
    unfold enc1 at hi
    cases i with
    | zero => simpa using hi.symm
    | succ i => simp at hi
  obtain ⟨rfl, rfl⟩ := hi0
  refine ⟨enc x, ?_, h1 x, by simp [R]⟩
  simp only [putCells, Array.getElem?_mapIdx, Nat.zero_add, Nat.mul_one, Nat.add_zero]
  rw [Array.getElem?_eq_getElem (by omega)]
  simp only [Option.map_some, Nat.zero_le, true_and, Nat.sub_zero, List.size_toArray, List.length_append]
  rw [if_pos (by omega)]
  have hx' : (l ++ tl).toArray[j]! = x := by
    rw [getElem!_pos _ j (by simp; omega)]
    simp only [List.getElem_toArray]
    rw [List.getElem_append_left hjl]
    exact (List.getElem?_eq_some_iff.1 hx).2
  rw [hx']


abbrev eN : Int → Value := Value.int .i64
def le (x y : Int) : Bool := decide (x ≤ y)

/-- **The library's sort of ints**, handed one row of ours. -/
theorem sortInt_ref (L : SlLaysM.n5 P ρ) (hf : ∃ fn c, P.funcs[ρ.f 5]? = some fn ∧ fn.body = some c ∧ fn.name ≠ "runtime.NumGoroutine") (l : List Int) (hsz : l.length < 4611686018427387904) :
    FnRef P (ρ.f 5) [.sl 0 0 1 0 l.length] [.row 0 1 (l.map (enc1 eN))] (.ret (.tup [])) [.row 0 1 ((l.mergeSort le).map (enc1 eN))] := by
  have hlen : (l.mergeSort le).length = l.length := List.length_mergeSort l
  refine ⟨hf, fun g w vs hi hl => ?_⟩
  simp only [RL] at hl
  obtain ⟨x1, xs, hvs, hx1, rfl⟩ := hl
  obtain rfl : vs = #[x1] := by apply Array.ext'; simpa using hvs
  simp only [R] at hx1
  rcases hx1 with ⟨h0, rfl⟩ | ⟨kb, cap, e, s, hrho, rfl, hsh, hcap, hle, hbig⟩
  · have hl0 : l = [] := List.length_eq_zero_iff.1 h0
    subst hl0
    refine (AnyM.slices_Sort_int_none L none 0 w).mono fun e' w' ⟨he, hw⟩ => ?_
    subst he; subst hw
    exact ⟨g, by simpa using hi, by simpa using Later.refl g _ _, ⟨_, rfl, by simp [R, RL]⟩⟩
  · obtain ⟨kb', c, e', hr1, hheap, hrows, hsize, _, hfree⟩ := hi.row 0 0 1 _ rfl hrho
    rw [hrho] at hr1
    simp only [Option.some.injEq, Prod.mk.injEq, and_true] at hr1
    subst hr1
    rw [List.length_map, Nat.mul_one] at hsize
    have hH := holds1_of_rows l hheap hrows
    have hblk : kb < w.heap.size := (Array.getElem?_eq_some_iff.1 hheap).1
    have key := AnyM.slices_Sort_int L kb 0 cap l w hH hblk hsz
    rw [Nat.zero_mul]
    refine key.mono fun e2 w2 ⟨he, q, os, hw⟩ => ?_
    subst he; subst hw
    have hput : (putRow eN (Sort.ahead w q) kb 0 (l.mergeSort le ++ []).toArray).heap[kb]? = some (.cells (putCells eN 0 (l.mergeSort le ++ []).toArray c) e' (0, 0)) := by
      simp only [putRow, mapBlock, heap_ahead, Array.getElem?_modify, if_true, hheap, Option.map_some, onCells]
    have hoth : ∀ j, j ≠ kb → (putRow eN (Sort.ahead w q) kb 0 (l.mergeSort le ++ []).toArray).heap[j]? = w.heap[j]? := fun j hj => by
      simp only [putRow, mapBlock, heap_ahead, Array.getElem?_modify, if_neg (Ne.symm hj)]
    obtain ⟨s1, s2⟩ := hi.store (b := 0) (ver := 0) (sz := 1) (k := kb) (rows := l.map (enc1 eN)) (rows' := (l.mergeSort le).map (enc1 eN)) rfl hrho hheap hput (by simp [putCells]) hoth (by simp [putRow, mapBlock]) rfl ⟨rfl, Nat.le_add_right _ _⟩ rfl
      (rows_of_put1 _ _ (fun _ => rfl) (by simpa [hlen] using hsize)) (by simp [putCells, hlen]; omega)
    rw [List.append_nil] at s1 s2
    have hos : ∀ j, j < (putRow eN (Sort.ahead w q) kb 0 (l.mergeSort le).toArray).heap.size → (grow (putRow eN (Sort.ahead w q) kb 0 (l.mergeSort le).toArray) os).heap[j]? = (putRow eN (Sort.ahead w q) kb 0 (l.mergeSort le).toArray).heap[j]? := fun j hj => by
      simp only [grow, Array.getElem?_append, hj, if_true]
    obtain ⟨t1, t2⟩ := s1.frame (w1 := grow (putRow eN (Sort.ahead w q) kb 0 (l.mergeSort le).toArray) os) hos (by simp [grow]) rfl ⟨rfl, Nat.le_refl _⟩ rfl
    exact ⟨g, t1, s2.trans t2, ⟨_, rfl, by simp [R, RL]⟩⟩

end Sn
end Go.AM
