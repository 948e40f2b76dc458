/- A fabric of the kit that numbers select stays valid without some of its hosts and leaks, and At lists the segments of each leaf: TenantFewer returns true for every input. No conditions. -/
import Derived.Test.YtomlhceogkfnlaaTb
import Derived.Test.YtomlhceogkfnlaaRe
import Derived.Test.YtomlhceogkfnlaaRows
import Derived.Deep.DeepHandedRow
namespace Go.L
open Go.AM
set_option linter.unusedVariables false
theorem law_tenantFewer (l : List Int) (a b : Int) (h : ∀ a ∈ l, (Go.Lit.int .i64 a).wf = true) (h1 : (Go.Lit.int .i64 a).wf = true) (h2 : (Go.Lit.int .i64 b).wf = true) :
    FnVal prog 5 [.lst (l.map (eI .i64)), .sc (.int .i64 a), .sc (.int .i64 b)] (.ret (.sc (.bool true))) :=
  c_law22_TenantFewer.ok 6000 (l, a, b) true (fewer_run l a b)
end Go.L
namespace Go.Proofs.Ytomlhceogkfnlaa.tenantFewer
open Go.ChangeShapes Go.WideShapes Go.ChangeAt Go.RowKit Go.AM Go.L
set_option linter.unusedVariables false

theorem own : ownKnob Try.prog.godebug = none := by kernel_rfl
theorem slices : ((List.range Try.prog.types.size).all fun t => match Try.prog.underlying t with | some (.slice e) => decide (0 < Try.prog.cellsOf e) | _ => true) = true := by kernel_rfl
theorem maps : mapsRowed Try.prog = true := by kernel_rfl
theorem inTable : (Try.f5.params.toList.all fun t => Nat.ble (t + 1) Try.prog.types.size) = true := by kernel_rfl
set_option maxRecDepth 100000 in
theorem contract (H : Type) (enc : TypeId × Value → H) (W : World) (base : Nat) (args : Array Value) (ds gs : List (DataW H)) (before : List MemPlace)
    (hval : ∀ (j : Nat) t v, Try.f5.params[j]? = some t → args[j]? = some v → Value.okWide Try.prog W .any base t v)
    (hW : DataW.Whole enc Try.prog Try.f5.params.toList Rows.tenantFewerSpec.vars false W args.toList ds gs before) :
    Calls Try.prog 5 args W fun e W' => ∃ v, e = .returned v ∧ Rows.tenantFewerSpec.post enc Try.prog Try.f5 false true false false W args v W' := by
  have hW' := hW
  have hlt := hW.lt
  obtain ⟨p, q, hA0, hV, rfl, hfz, hnd⟩ := hW
  have hA : DataW.TrodAll enc Try.prog W 0 (fun _ => true) true Try.f5.params.toList args.toList ds p := hA0
  clear hA0
  have hAll := hA
  rw [Try.params5] at hA hval
  obtain ⟨v0, r0, d0, e0, p0, q0, hv0, hd0, hp0, t0, hA⟩ := trodAll_cons hA
  obtain ⟨v1, r1, d1, e1, p1, q1, hv1, hd1, hp1, t1, hA⟩ := trodAll_cons hA
  obtain ⟨v2, r2, d2, e2, p2, q2, hv2, hd2, hp2, t2, hA⟩ := trodAll_cons hA
  obtain ⟨hr, hd, hq⟩ := trodAll_nil hA
  obtain rfl : args = #[v0, v1, v2] := by apply Array.ext'; simp only [hv0, hv1, hv2, hr]
  obtain rfl : ds = [d0, d1, d2] := by simp only [hd0, hd1, hd2, hd]
  obtain ⟨rfl, rfl⟩ := trodVars_none hV
  simp only [List.append_nil] at hW' hlt
  obtain ⟨a0, ok0, ra0⟩ := Rdb.cell (c := (cL (eI .i64))) (Rdb.slice Try.underlying42 (by kernel_rfl) (by kernel_rfl) (Rdb.int Try.underlying3 (by kernel_rfl))) (by kernel_rfl) (hval 0 _ _ rfl rfl) t0
  obtain ⟨a1, ok1, ra1⟩ := Rdb.cell (c := (cI .i64)) (Rdb.int Try.underlying3 (by kernel_rfl)) (by kernel_rfl) (hval 1 _ _ rfl rfl) t1
  obtain ⟨a2, ok2, ra2⟩ := Rdb.cell (c := (cI .i64)) (Rdb.int Try.underlying3 (by kernel_rfl)) (by kernel_rfl) (hval 2 _ _ rfl rfl) t2
  refine (law_top (law_tenantFewer a0 a1 a2 ok0 ok1 ok2) W (fun _ _ h => by cases h) _ ⟨_, _, rfl, ra0, ⟨_, _, rfl, ra1, ⟨_, _, rfl, ra2, rfl⟩⟩⟩).mono fun e W' ⟨he, hg⟩ => ?_
  subst he
  exact ⟨_, rfl, post_of_below (pa := p) (pv := []) hW' (fun _ _ _ => (trodAll_cons_mk (shut_bool Try.underlying4 _) trodAll_mk0))
    (fun sp hsp => trodAll_kept laid maps (slices_full_of _ slices) hg (fun t ht => Nat.le_of_ble_eq_true (List.all_eq_true.1 inTable t ht)) hAll hlt hsp) (fun _ _ => rfl) (by simp)
    hg (ok_one (by kernel_rfl) rfl (okWide_bool_mk Try.underlying4 _))⟩

set_option maxRecDepth 100000 in
theorem lifted (os : Os) (started : os.Started) (H : Type) (enc : TypeId × Value → H) :
    ReturnsInHanded {} Try.checked os 5 .any (Rows.tenantFewerSpec.pre6 enc Try.prog Try.f5 Rows.tenantFewerRow.domain false) (Rows.tenantFewerSpec.post enc Try.prog Try.f5 false true false false) := by
  refine returnsInHanded_of_change (C := Try.checked) (s := Rows.tenantFewerSpec) own started (by kernel_rfl) Try.func5
    (ChangeSpec.witness6 (enc := enc) (C := Try.checked) (s := Rows.tenantFewerSpec) false ⟨#[], #[.slice none 0 0, .int .i64 0, .int .i64 0], []⟩ 8 (by kernel_rfl) (by kernel_rfl) (by kernel_rfl) (by kernel_rfl) (by kernel_rfl)) ?_
  intro W base args ds gs before hval hW _ _
  exact contract H enc W base args ds gs before hval hW

theorem proved : Rows.TenantFewerSaid :=
  OpenClaim.holds_of_wide 5 Try.f5 rfl rfl rfl rfl rfl rfl rfl ⟨rfl, rfl, rfl, rfl, rfl⟩ rfl rfl rfl rfl rfl (by kernel_rfl) Try.func5 (by kernel_rfl)
    (of_decide_eq_true (by kernel_rfl)) (by unfold Func.isWrapper; first | (rw [if_pos (by decide +kernel)]; kernel_rfl) | (rw [if_neg (by decide +kernel)]; exact ⟨rfl, rfl⟩))
    (fun os started H enc _ => lifted os started H enc)
end Go.Proofs.Ytomlhceogkfnlaa.tenantFewer
