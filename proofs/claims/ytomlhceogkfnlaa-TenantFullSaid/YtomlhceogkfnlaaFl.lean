/- TenantFull: a configuration with too many elements of a part is refused with ErrFull, the part and the most that it may hold, for any two numbers. No conditions. -/
import Derived.Test.YtomlhceogkfnlaaFlw
import Derived.Test.YtomlhceogkfnlaaRd
import Derived.Test.YtomlhceogkfnlaaAmPl
import Derived.Test.YtomlhceogkfnlaaRows
import Derived.Deep.DeepHandedRow
namespace Go.L
open Go.AM
set_option maxRecDepth 100000
set_option linter.unusedSimpArgs false
set_option linter.unusedVariables false

theorem kit_Mod (n : Nat) (x k : Int) (hk : 0 < k) (hk2 : k ≤ 4000000000000000000) : c_kit_Mod.S n (x, k) = some (x % k) := by
  show (g_kit_Mod x k).run n = _
  have h1 : ¬ k ≤ 0 := by omega
  have h2 : k ≠ 0 := by omega
  simp only [g_kit_Mod, G.run, tsOk, remO, binO, decide_eq_true_eq, h1, if_false, h2, ne_eq, not_false_eq_true, decide_true, if_true, Option.bind_some, wrap_tmod hk hk2, emod_tmod hk]
  try rfl

theorem full_run (a0 a1 : Int) : (g_law22_TenantFull a0 a1).run 300 = some true := by
  have h5 := kit_Mod 300 a1 5 (by decide) (by decide)
  have h6 := kit_Mod 300 a0 6 (by decide) (by decide)
  have b1 : 0 ≤ a1 % 5 ∧ a1 % 5 < 5 := by omega
  have b0 : 0 ≤ a0 % 6 ∧ a0 % 6 < 6 := by omega
  unfold g_law22_TenantFull
  simp only [G.run, h5, h6]
  generalize a1 % 5 = r at b1
  generalize a0 % 6 = q at b0
  have hr : r = 0 ∨ r = 1 ∨ r = 2 ∨ r = 3 ∨ r = 4 := by omega
  have hq : q = 0 ∨ q = 1 ∨ q = 2 ∨ q = 3 ∨ q = 4 ∨ q = 5 := by omega
  clear h5 h6 b1 b0
  rcases hr with rfl | rfl | rfl | rfl | rfl <;> rcases hq with rfl | rfl | rfl | rfl | rfl | rfl <;> (clear a0 a1; show _ = some true; kernel_rfl)

theorem law_tenantFull (a0 a1 : Int) (_ : (Go.Lit.int .i64 a0).wf = true) (_ : (Go.Lit.int .i64 a1).wf = true) : FnVal prog 4 [.sc (.int .i64 a0), .sc (.int .i64 a1)] (.ret (.sc (.bool true))) :=
  c_law22_TenantFull.ok 300 (a0, a1) true (full_run a0 a1)
end Go.L
namespace Go.Proofs.Ytomlhceogkfnlaa.tenantFull
open Go.ChangeShapes Go.WideShapes Go.ChangeAt Go.RowKit Go.AM Go.L
set_option linter.unusedVariables false

theorem own : ownKnob Try.prog.godebug = none := by kernel_rfl
theorem slices : ((List.range Try.prog.types.size).all fun t => match Try.prog.underlying t with | some (.slice e) => decide (0 < Try.prog.cellsOf e) | _ => true) = true := by kernel_rfl
theorem maps : mapsRowed Try.prog = true := by kernel_rfl
theorem inTable : (Try.f4.params.toList.all fun t => Nat.ble (t + 1) Try.prog.types.size) = true := by kernel_rfl
set_option maxRecDepth 100000 in
theorem contract (H : Type) (enc : TypeId × Value → H) (W : World) (base : Nat) (args : Array Value) (ds gs : List (DataW H)) (before : List MemPlace)
    (hval : ∀ (j : Nat) t v, Try.f4.params[j]? = some t → args[j]? = some v → Value.okWide Try.prog W .any base t v)
    (hW : DataW.Whole enc Try.prog Try.f4.params.toList Rows.tenantFullSpec.vars false W args.toList ds gs before) :
    Calls Try.prog 4 args W fun e W' => ∃ v, e = .returned v ∧ Rows.tenantFullSpec.post enc Try.prog Try.f4 false true false false W args v W' := by
  have hW' := hW
  have hlt := hW.lt
  obtain ⟨p, q, hA0, hV, rfl, hfz, hnd⟩ := hW
  have hA : DataW.TrodAll enc Try.prog W 0 (fun _ => true) true Try.f4.params.toList args.toList ds p := hA0
  clear hA0
  have hAll := hA
  rw [Try.params4] at hA hval
  obtain ⟨v0, r0, d0, e0, p0, q0, hv0, hd0, hp0, t0, hA⟩ := trodAll_cons hA
  obtain ⟨v1, r1, d1, e1, p1, q1, hv1, hd1, hp1, t1, hA⟩ := trodAll_cons hA
  obtain ⟨hr, hd, hq⟩ := trodAll_nil hA
  obtain rfl : args = #[v0, v1] := by apply Array.ext'; simp only [hv0, hv1, hr]
  obtain rfl : ds = [d0, d1] := by simp only [hd0, hd1, hd]
  obtain ⟨rfl, rfl⟩ := trodVars_none hV
  simp only [List.append_nil] at hW' hlt
  obtain ⟨a0, ok0, ra0⟩ := Rdb.cell (c := fun n => .sc (.int .i64 n)) (Rdb.int Try.underlying3 (by kernel_rfl)) (by kernel_rfl) (hval 0 _ _ rfl rfl) t0
  obtain ⟨a1, ok1, ra1⟩ := Rdb.cell (c := fun n => .sc (.int .i64 n)) (Rdb.int Try.underlying3 (by kernel_rfl)) (by kernel_rfl) (hval 1 _ _ rfl rfl) t1
  refine (law_top (law_tenantFull a0 a1 ok0 ok1) W (fun _ _ h => by cases h) _ ⟨_, _, rfl, ra0, ⟨_, _, rfl, ra1, rfl⟩⟩).mono fun e W' ⟨he, hg⟩ => ?_
  subst he
  exact ⟨_, rfl, post_of_below (pa := p) (pv := []) hW' (fun _ _ _ => (trodAll_cons_mk (shut_bool Try.underlying4 _) trodAll_mk0))
    (fun sp hsp => trodAll_kept laid maps (slices_full_of _ slices) hg (fun t ht => Nat.le_of_ble_eq_true (List.all_eq_true.1 inTable t ht)) hAll hlt hsp) (fun _ _ => rfl) (by simp)
    hg (ok_one (by kernel_rfl) rfl (okWide_bool_mk Try.underlying4 _))⟩

set_option maxRecDepth 100000 in
theorem lifted (os : Os) (started : os.Started) (H : Type) (enc : TypeId × Value → H) :
    ReturnsInHanded {} Try.checked os 4 .any (Rows.tenantFullSpec.pre6 enc Try.prog Try.f4 Rows.tenantFullRow.domain false) (Rows.tenantFullSpec.post enc Try.prog Try.f4 false true false false) := by
  refine returnsInHanded_of_change (C := Try.checked) (s := Rows.tenantFullSpec) own started (by kernel_rfl) Try.func4
    (ChangeSpec.witness6 (enc := enc) (C := Try.checked) (s := Rows.tenantFullSpec) false ⟨#[], #[.int .i64 0, .int .i64 0], []⟩ 8 (by kernel_rfl) (by kernel_rfl) (by kernel_rfl) (by kernel_rfl) (by kernel_rfl)) ?_
  intro W base args ds gs before hval hW _ _
  exact contract H enc W base args ds gs before hval hW

theorem proved : Rows.TenantFullSaid :=
  OpenClaim.holds_of_wide 4 Try.f4 rfl rfl rfl rfl rfl rfl rfl ⟨rfl, rfl, rfl, rfl, rfl⟩ rfl rfl rfl rfl rfl (by kernel_rfl) Try.func4 (by kernel_rfl)
    (of_decide_eq_true (by kernel_rfl)) (by unfold Func.isWrapper; first | (rw [if_pos (by decide +kernel)]; kernel_rfl) | (rw [if_neg (by decide +kernel)]; exact ⟨rfl, rfl⟩))
    (fun os started H enc _ => lifted os started H enc)
end Go.Proofs.Ytomlhceogkfnlaa.tenantFull
