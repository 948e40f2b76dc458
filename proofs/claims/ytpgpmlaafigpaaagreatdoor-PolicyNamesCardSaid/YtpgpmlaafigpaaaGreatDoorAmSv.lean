/- A function that looks at a list and writes nothing, handed a slice of ours (out of LmAmSo, without the sort). No program. -/
import Derived.Test.YtpgpmlaafigpaaaGreatDoorAmGc
namespace Go.AM
set_option linter.unusedSectionVars false
set_option linter.unusedVariables false
set_option linter.unusedSimpArgs false

section
variable [Globs] {P : Program}
theorem run_bindV {α β : Type} (H : List ABlk) : ∀ (r : Rd α) (k : α → Rd β), (r.bind k).run H = (r.run H).bind fun x => (k x).run H
  | .fail, _ => rfl
  | .done _, _ => rfl
  | .get b f, k => by
    simp only [Rd.bind, Rd.run]
    cases H[b]? with
    | none => rfl
    | some x => exact run_bindV H (f x) k
theorem mapRd_pureV {n : Nat} {H : List ABlk} : ∀ (l : List AVal), AVal.pureL l = true → (mapRd (snap (n + 1)) l).run H = some l
  | [], _ => rfl
  | a :: l, h => by
    simp only [AVal.pureL, Bool.and_eq_true] at h
    have ih := mapRd_pureV (n := n) (H := H) l h.2
    have h1 : (snap (n + 1) a).run H = some a := by simp only [snap, h.1, if_true, Rd.run]
    simp only [mapRd, run_bindV, h1, ih, Option.bind_some, Rd.run]

/-- A function that looks at a list and writes nothing may be handed a slice of ours. -/
theorem FnRef.ofVal {f : FuncId} {rows : List (List AVal)} {sz : Nat} {rest : List AVal} {r : ARes} (h : FnVal P f (.lst rows :: rest) r) (hp : rows.all AVal.pureL = true) (hrest : AVal.pureL rest = true) (hr : ∀ v, r = .ret v → v.flat = true) (hr2 : ∀ v, r = .pan v → v.flat = true) :
    FnRef P f (.sl 0 0 sz 0 rows.length :: rest) [.row 0 sz rows] r [.row 0 sz rows] := by
  refine ⟨h.1, fun g w vs hi hl => ?_⟩
  have hs : (mapRd (snap snapFuel) (.sl 0 0 sz 0 rows.length :: rest)).run [.row 0 sz rows] = some (.lst rows :: rest) := by
    have h2 := mapRd_pureV (n := 8) (H := [.row 0 sz rows]) rest hrest
    have h1 : (snap snapFuel (.sl 0 0 sz 0 rows.length)).run [.row 0 sz rows] = some (.lst rows) := by
      rw [show snapFuel = 8 + 1 from rfl]
      unfold snap
      simp only [AVal.pure, Bool.false_eq_true, if_false, run_bindV, rowOf, Rd.run, List.getElem?_cons_zero, if_true, Option.bind_some, true_and, Nat.zero_add, Nat.le_refl, List.drop_zero, List.take_length, hp]
    simp only [mapRd, run_bindV, h1, Option.bind_some, Rd.run]
    rw [show snapFuel = 8 + 1 from rfl, h2]
    rfl
  obtain ⟨hl', _⟩ := snapL_sound hi hs hl
  refine (h.2 (frz g _) w vs hi.frz hl').mono fun e w' ⟨g1, _, hla, he⟩ => ?_
  obtain ⟨i1, i2⟩ := hi.frame (fun k hk => hla.keep k hk not_owned_nil) hla.size hla.os hla.tape hla.output
  refine ⟨g, i1, i2, ?_⟩
  cases r with
  | ret v =>
    obtain ⟨x, rfl, hx⟩ := he
    exact ⟨x, rfl, R_flat v x (hr v rfl) hx⟩
  | pan v =>
    obtain ⟨x, rfl, hx⟩ := he
    exact ⟨x, rfl, R_flat v x (hr2 v rfl) hx⟩

end
end Go.AM
