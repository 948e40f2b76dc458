/- NeighAnswers: an answer is a valid reply to the asker, with the address of the gateway or of a binding; nothing else is answered. No conditions. -/
import Derived.Test.YtfgigcdbcbgpoaaNx
import Derived.Test.YtfgigcdbcbgpoaaRd
import Derived.Test.YtfgigcdbcbgpoaaAmPl
import Derived.Test.YtfgigcdbcbgpoaaRows
import Derived.Deep.DeepHandedRow
namespace Go.L
open Go.AM
set_option maxRecDepth 100000
set_option linter.unusedVariables false
theorem law_neighAnswers (l : List Int) (s : Bool) (k : List Known) (bd : Int) (x : Frame) (h0 : ∀ a ∈ l, (Go.Lit.int .i64 a).wf = true) (h1 : True) (h2 : ∀ a ∈ k, okKnown a) (h3 : (Go.Lit.int .i64 bd).wf = true) (h4 : okFrame x) :
    FnVal prog 3 [.lst (l.map (eI .i64)), .sc (.bool s), .lst (k.map eKnown), .sc (.int .i64 bd), .agg (eFrame x)] (.ret (.sc (.bool true))) := by
  obtain ⟨b, hb, rfl⟩ := answers_run l s k bd x
  exact c_law29_NeighAnswers.ok 6000 (l, s, k, bd, x) true hb
end Go.L
namespace Go.Proofs.Ytfgigcdbcbgpoaa.neighAnswers
open Go.ChangeShapes Go.WideShapes Go.ChangeAt Go.RowKit Go.AM Go.L
set_option linter.unusedVariables false

theorem own : ownKnob Try.prog.godebug = none := by kernel_rfl
theorem slices : ((List.range Try.prog.types.size).all fun t => match Try.prog.underlying t with | some (.slice e) => decide (0 < Try.prog.cellsOf e) | _ => true) = true := by kernel_rfl
theorem maps : mapsRowed Try.prog = true := by kernel_rfl
theorem inTable : (Try.f3.params.toList.all fun t => Nat.ble (t + 1) Try.prog.types.size) = true := by kernel_rfl
set_option maxRecDepth 100000 in
theorem contract (H : Type) (enc : TypeId × Value → H) (W : World) (base : Nat) (args : Array Value) (ds gs : List (DataW H)) (before : List MemPlace)
    (hval : ∀ (j : Nat) t v, Try.f3.params[j]? = some t → args[j]? = some v → Value.okWide Try.prog W .any base t v)
    (hW : DataW.Whole enc Try.prog Try.f3.params.toList Rows.neighAnswersSpec.vars false W args.toList ds gs before) :
    Calls Try.prog 3 args W fun e W' => ∃ v, e = .returned v ∧ Rows.neighAnswersSpec.post enc Try.prog Try.f3 false true false false W args v W' := by
  have hW' := hW
  have hlt := hW.lt
  obtain ⟨p, q, hA0, hV, rfl, hfz, hnd⟩ := hW
  have hA : DataW.TrodAll enc Try.prog W 0 (fun _ => true) true Try.f3.params.toList args.toList ds p := hA0
  clear hA0
  have hAll := hA
  rw [Try.params3] at hA hval
  obtain ⟨v0, r0, d0, e0, p0, q0, hv0, hd0, hp0, t0, hA⟩ := trodAll_cons hA
  obtain ⟨v1, r1, d1, e1, p1, q1, hv1, hd1, hp1, t1, hA⟩ := trodAll_cons hA
  obtain ⟨v2, r2, d2, e2, p2, q2, hv2, hd2, hp2, t2, hA⟩ := trodAll_cons hA
  obtain ⟨v3, r3, d3, e3, p3, q3, hv3, hd3, hp3, t3, hA⟩ := trodAll_cons hA
  obtain ⟨v4, r4, d4, e4, p4, q4, hv4, hd4, hp4, t4, hA⟩ := trodAll_cons hA
  obtain ⟨hr, hd, hq⟩ := trodAll_nil hA
  obtain rfl : args = #[v0, v1, v2, v3, v4] := by apply Array.ext'; simp only [hv0, hv1, hv2, hv3, hv4, hr]
  obtain rfl : ds = [d0, d1, d2, d3, d4] := by simp only [hd0, hd1, hd2, hd3, hd4, hd]
  obtain ⟨rfl, rfl⟩ := trodVars_none hV
  simp only [List.append_nil] at hW' hlt
  obtain ⟨a0, ok0, ra0⟩ := Rdb.cell (c := (cL (eI .i64))) (Rdb.slice Try.underlying22 (by kernel_rfl) (by kernel_rfl) (Rdb.int Try.underlying3 (by kernel_rfl))) (by kernel_rfl) (hval 0 _ _ rfl rfl) t0
  obtain ⟨a1, ok1, ra1⟩ := Rdb.cell (c := cB) (Rdb.bool Try.underlying4 (by kernel_rfl)) (by kernel_rfl) (hval 1 _ _ rfl rfl) t1
  obtain ⟨a2, ok2, ra2⟩ := Rdb.cell (c := (cL eKnown)) (Rdb.slice Try.underlying23 (by kernel_rfl) (by kernel_rfl) rdKnown) (by kernel_rfl) (hval 2 _ _ rfl rfl) t2
  obtain ⟨a3, ok3, ra3⟩ := Rdb.cell (c := (cI .i64)) (Rdb.int Try.underlying3 (by kernel_rfl)) (by kernel_rfl) (hval 3 _ _ rfl rfl) t3
  obtain ⟨a4, ok4, ra4⟩ := Rdb.agg rdFrame Try.underlying33 (hval 4 _ _ rfl rfl) t4
  refine (law_top (law_neighAnswers a0 a1 a2 a3 a4 ok0 ok1 ok2 ok3 ok4) W (fun _ _ h => by cases h) _ ⟨_, _, rfl, ra0, ⟨_, _, rfl, ra1, ⟨_, _, rfl, ra2, ⟨_, _, rfl, ra3, ⟨_, _, rfl, ra4, rfl⟩⟩⟩⟩⟩).mono fun e W' ⟨he, hg⟩ => ?_
  subst he
  exact ⟨_, rfl, post_of_below (pa := p) (pv := []) hW' (fun _ _ _ => (trodAll_cons_mk (shut_bool Try.underlying4 _) trodAll_mk0))
    (fun sp hsp => trodAll_kept laid maps (slices_full_of _ slices) hg (fun t ht => Nat.le_of_ble_eq_true (List.all_eq_true.1 inTable t ht)) hAll hlt hsp) (fun _ _ => rfl) (by simp)
    hg (ok_one (by kernel_rfl) rfl (okWide_bool_mk Try.underlying4 _))⟩

set_option maxRecDepth 100000 in
theorem lifted (os : Os) (started : os.Started) (H : Type) (enc : TypeId × Value → H) :
    ReturnsInHanded {} Try.checked os 3 .any (Rows.neighAnswersSpec.pre6 enc Try.prog Try.f3 Rows.neighAnswersRow.domain false) (Rows.neighAnswersSpec.post enc Try.prog Try.f3 false true false false) := by
  refine returnsInHanded_of_change (C := Try.checked) (s := Rows.neighAnswersSpec) own started (by kernel_rfl) Try.func3
    (ChangeSpec.witness6 (enc := enc) (C := Try.checked) (s := Rows.neighAnswersSpec) false ⟨#[], #[.slice none 0 0, .bool false, .slice none 0 0, .int .i64 0, .agg #[.int .u64 0, .int .u64 0, .int .i64 0, .int .i64 0, .int .u64 0, .int .u32 0, .int .u64 0, .int .u32 0, .int .u32 0, .int .u32 0, .int .i64 0, .int .i64 0, .int .i64 0, .int .i64 0, .int .u64 0]], []⟩ 8 (by kernel_rfl) (by kernel_rfl) (by kernel_rfl) (by kernel_rfl) (by kernel_rfl)) ?_
  intro W base args ds gs before hval hW _ _
  exact contract H enc W base args ds gs before hval hW

theorem proved : Rows.NeighAnswersSaid :=
  OpenClaim.holds_of_wide 3 Try.f3 rfl rfl rfl rfl rfl rfl rfl ⟨rfl, rfl, rfl, rfl, rfl⟩ rfl rfl rfl rfl rfl (by kernel_rfl) Try.func3 (by kernel_rfl)
    (of_decide_eq_true (by kernel_rfl)) (by unfold Func.isWrapper; first | (rw [if_pos (by decide +kernel)]; kernel_rfl) | (rw [if_neg (by decide +kernel)]; exact ⟨rfl, rfl⟩))
    (fun os started H enc _ => lifted os started H enc)
end Go.Proofs.Ytfgigcdbcbgpoaa.neighAnswers
