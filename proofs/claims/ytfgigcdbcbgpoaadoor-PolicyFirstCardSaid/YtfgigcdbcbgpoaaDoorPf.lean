/- The first matching rule alone decides: PolicyFirst returns true for every input; the card, tied to the program's text. No conditions. -/
import Derived.Test.YtfgigcdbcbgpoaaDoorPq
import Derived.Test.YtfgigcdbcbgpoaaDoorMm
import Derived.Test.YtfgigcdbcbgpoaaDoorAmPl
import Derived.Test.YtfgigcdbcbgpoaaDoorRe
import Derived.Test.YtfgigcdbcbgpoaaDoorAmDr
import Derived.Test.YtfgigcdbcbgpoaaDoorRows
import Derived.Test.YtfgigcdbcbgpoaaDoorCards
import Derived.Test.YtfgigcdbcbgpoaaDoorTie
import Derived.Deep.DeepHandedRow
import Derived.Lib.LaidTab
/- The guide of PolicyFirst. No conditions. -/
namespace Go.L
open Go.AM
set_option maxRecDepth 100000
set_option linter.unusedVariables false
set_option linter.unusedSimpArgs false
/- leafmesh/leafmeshlaw19.PolicyFirst -/
noncomputable def g_law19_PolicyFirst (x1 : (List Go.L.Rule)) (x2 : Go.L.Route) : G prog (Sh.El (.one Bool)) :=
  .skip 2 <| .call c_law19_lives () fun (r3 : Bool) => .skip 1 <| .br 13 (!r3) (.skip 2 <| .done [] false) (.skip 4 <| .call c_law19_light (x1, [], [x2]) fun (r5 : Bool) => .skip 1 <| .br 18 (!r5) (.skip 2 <| .done [] true) (.skip 3 <| .callR (cv_policy_Apply 3) (x1, x2) fun (r7 : (Prod Go.L.Route Bool)) => .skip 7 <| .loop (.one Int) [.keep [0, 3, 5, 6, 7]] (fun (a : Int) => ⟨[(.lst (List.map Go.L.eRule x1)), .junk, .junk, (.ptr 0 0 0 0), .junk, (.ptr 2 0 0 0), (.sc (.bool r7.2)), .sc (.int .i64 a)] ++ List.replicate 92 .junk, [.row 0 38 [eRoute x2], .row 0 38 [eRoute x2], .row 0 38 [eRoute r7.1]], []⟩)
    (fun (t : Int) => (.exit 0, ⟨[(.lst (List.map Go.L.eRule x1)), .junk, .junk, (.ptr 0 0 0 0), .junk, (.ptr 2 0 0 0), (.sc (.bool r7.2)), .sc (.int .i64 t)] ++ List.replicate 92 .junk, [.row 0 38 [eRoute x2], .row 0 38 [eRoute x2], .row 0 38 [eRoute r7.1]], []⟩)) (0 : Int)
    (fun (a8 : Int) => .skip 2 <| .op (lenO x1 Go.L.eRule) fun _ => .skip 2 <| .br 29 (decide (a8 < (((List.length x1) : Nat) : Int))) (.skip 2 <| .op (idxO x1 Go.L.eRule 15 a8) fun x9 => .skip 2 <| .call c_policy_Matches (x9, x2) fun (r10 : Bool) => .skip 2 <| .br 37 (!r10) (.skip 4 <| .done [.keep [0, 3, 5, 6, 7]] (.inl (Go.IntKind.wrap .i64 (a8 + (1 : Int))))) (.skip 1 <| .done [.keep [0, 3, 5, 6, 7]] (.inr a8))) (.skip 9 <| .done [.keep [0, 3, 5, 6, 7]] (.inr a8)))
    (fun (t14 : Int) => .skip 2 <| .op (lenO x1 Go.L.eRule) fun _ => .skip 1 <| .br 43 (t14 == (((List.length x1) : Nat) : Int)) (.skip 4 <| .br 46 (!r7.2) (.skip 2 <| .call c_kit_SameRoute (r7.1, (Go.L.Route.mk (Go.L.NLRI.mk (0 : Int) (0 : Int) (@Go.AM.V10.mk Int (0 : Int) (0 : Int) (0 : Int) (0 : Int) (0 : Int) (0 : Int) (0 : Int) (0 : Int) (0 : Int) (0 : Int)) (0 : Int) (0 : Int) (0 : Int) false (Go.L.Prefix.mk (0 : Int) (0 : Int)) (0 : Int) (0 : Int) (0 : Int)) (Go.L.Attrs.mk (0 : Int) [] (0 : Int) false (0 : Int) false (0 : Int) false (0 : Int) [] [] (Go.L.Tunnel.mk (0 : Int) (0 : Int) (0 : Int) (0 : Int))) (0 : Int) false)) fun (r15 : Bool) => .skip 2 <| .done [] r15) (.skip 5 <| .done [] false)) (.skip 5 <| .op (slcO x1 Go.L.eRule 15 (some t14) (some (Go.IntKind.wrap .i64 (t14 + (1 : Int))))) fun x18 => .skip 1 <| .callR (cv_policy_Apply 4) ((List.drop x18.1 (List.take x18.2 x1)), x2) fun (r19 : (Prod Go.L.Route Bool)) => .skip 7 <| .inl [] <| .skip 3 <| .loop (.one (List Go.L.Rule)) [.keep [0, 3, 4], .cut [] [] [], .own (.s 3) 15] (fun (a : (Prod Int (List Go.L.Rule))) => ⟨[(.lst (List.map Go.L.eRule x1)), .junk, .junk, .sl 7 0 15 0 a.2.length, .sc (.int .i64 a.1)] ++ List.replicate 32 .junk, [.dead, .dead, .dead, .dead, .dead, .dead, .dead, .row 0 15 (a.2.map eRule)], []⟩)
    (fun (t : (List Go.L.Rule)) => (.exit 0, ⟨[.junk, .junk, .junk, .sl 7 0 15 0 t.length] ++ List.replicate 33 .junk, [.dead, .dead, .dead, .dead, .dead, .dead, .dead, .row 0 15 (t.map eRule)], []⟩)) ((0 : Int), [])
    (fun (a36 : (Prod Int (List Go.L.Rule))) => .skip 2 <| .op (lenO x1 Go.L.eRule) fun _ => .skip 1 <| .br 9 (decide (a36.1 < (((List.length x1) : Nat) : Int))) (.skip 3 <| .op (idxO x1 Go.L.eRule 15 a36.1) fun x37 => .skip 5 <| .call c_kit_Own_int x37.Kinds fun (r38 : (List Int)) => .skip 2 <| .call c_kit_Own_uint32 x37.Targets fun (r39 : (List Int)) => .skip 2 <| .call c_kit_Own_Comm x37.Remove fun (r40 : (List (Go.AM.V8 Int))) => .skip 2 <| .call c_kit_Own_Comm x37.Add fun (r41 : (List (Go.AM.V8 Int))) => .skip 11 <| .op (appO (List.length a36.2) a36.2 [(Go.L.Rule.mk r38 r39 x37.Peer x37.HasPrefix x37.Prefix x37.Ge x37.Le x37.Permit x37.SetPref x37.Pref x37.SetMed x37.Med r40 r41)] eRule 15 152 7 0 10 [9]) fun _ => .skip 4 <| .done [.keep [0, 3, 4], .cut [7] [] [puRow 7 1 15 (a36.2 ++ [(Go.L.Rule.mk r38 r39 x37.Peer x37.HasPrefix x37.Prefix x37.Ge x37.Le x37.Permit x37.SetPref x37.Pref x37.SetMed x37.Med r40 r41)]) Go.L.eRule fun _ => rfl]] (.inl ((Go.IntKind.wrap .i64 (a36.1 + (1 : Int))), (a36.2 ++ [(Go.L.Rule.mk r38 r39 x37.Peer x37.HasPrefix x37.Prefix x37.Ge x37.Le x37.Permit x37.SetPref x37.Pref x37.SetMed x37.Med r40 r41)])))) (.skip 1 <| .done [.keep [3], .cut [7] [] [puRow 7 0 15 a36.2 Go.L.eRule fun _ => rfl]] (.inr a36.2)))
    (fun (t44 : (List Go.L.Rule)) => .skip 2 <| .tidy [.keep [2], .cut [7] [] [puRow 7 0 15 t44 Go.L.eRule fun _ => rfl]] <| .inl [] <| .skip 2 <| .op (appM (List.length t44) t44 [(Go.L.Rule.mk [] [] (0 : Int) false (Go.L.Prefix.mk (0 : Int) (0 : Int)) (0 : Int) (0 : Int) true true (12345 : Int) false (0 : Int) [] [])] eRule eRuleN 15 152 7 0 5 [4]) fun _ => .skip 1 <| .call1 c_policy_Apply_d2 7 1 [] (t44, [(Go.L.Rule.mk [] [] (0 : Int) false (Go.L.Prefix.mk (0 : Int) (0 : Int)) (0 : Int) (0 : Int) true true (12345 : Int) false (0 : Int) [] [])], (List.length t44 + List.length [(Go.L.Rule.mk [] [] (0 : Int) false (Go.L.Prefix.mk (0 : Int) (0 : Int)) (0 : Int) (0 : Int) true true (12345 : Int) false (0 : Int) [] [])]), x2) fun (r45 : (Prod Go.L.Route Bool)) => .skip 10 <| .br 74 (r7.2 == r19.2) (.skip 5 <| .br 79 (r7.2 == r45.2) (.skip 2 <| .call c_kit_SameRoute (r7.1, r19.1) fun (r46 : Bool) => .skip 2 <| .br 84 r46 (.skip 2 <| .call c_kit_SameRoute (r7.1, r45.1) fun (r47 : Bool) => .skip 2 <| .br 89 r47 (.skip 2 <| .op (idxO x1 Go.L.eRule 15 t14) fun x48 => .skip 3 <| .br 95 x48.Permit (.skip 5 <| .done [] true) (.skip 5 <| .done [] (!r7.2))) (.skip 11 <| .done [] false)) (.skip 16 <| .done [] false)) (.skip 21 <| .done [] false)) (.skip 26 <| .done [] false))))))
noncomputable def c_law19_PolicyFirst : Ctr prog := Ctr.of cfgF 10 9 ((List Go.L.Rule) × Go.L.Route) (fun x => [.lst (x.1.map eRule), .agg (eRoute x.2)]) (.one Bool) (fun r => .ret (.sc (.bool r))) (fun x => g_law19_PolicyFirst x.1 x.2) (fun x => by kernel_rfl)

end Go.L
/- The plain law of PolicyFirst. No conditions. -/
namespace Go.L
open Go.AM Go.Sort
set_option maxRecDepth 100000
set_option linter.unusedVariables false
set_option linter.unusedSimpArgs false
/-- The rule that is added behind. -/
def litX : Rule := Go.L.Rule.mk [] [] (0 : Int) false (Go.L.Prefix.mk (0 : Int) (0 : Int)) (0 : Int) (0 : Int) true true (12345 : Int) false (0 : Int) [] []
theorem litX_lt : LtX litX := ⟨by simp [litX], by simp [litX], by simp [litX], by simp [litX]⟩
theorem first_ans (N : Nat) (l : List Rule) (r : Route) (hN : l.length + 2000 ≤ N) (hll : (l.length : Int) ≤ 9223372036854775807) : AnsG N (g_law19_PolicyFirst l r) fun (b : Bool) => b = true := by
  unfold g_law19_PolicyFirst
  refine .skip (.call _ (lives_ans N) fun b hb => .skip (.br (fun h => by rw [hb] at h; cases h) fun h => .skip ?_))
  refine .call _ (light_ans N l [] [r] hll (by omega) (by simp) (by simp; omega)) fun b hb => .skip (.br (fun h => .skip (.done rfl rfl)) fun h => .skip ?_)
  obtain ⟨hl, hr0, h20⟩ := hb (nf h)
  have hr : LtR r := hr0 r (List.mem_singleton.2 rfl)
  refine .callR _ (apply_ans N l r hr hl (by omega) (by omega)) fun v7 h7 => .skip ?_
  subst h7
  refine .loop (fun (a : Int) => 0 ≤ a ∧ a ≤ (l.length : Int) ∧ ∀ (j : Nat) z, j < a.toNat → l[j]? = some z → mtS N r z = false) (fun a => ((l.length : Int) - a).toNat)
    (fun (t : Int) => (t = l.length ∧ l.find? (mtS N r) = none) ∨ (0 ≤ t ∧ t < l.length ∧ ∃ y, l[t.toNat]? = some y ∧ mtS N r y = true ∧ l.find? (mtS N r) = some y)) rfl ⟨by simp, by simp, fun j z hj => by simp at hj⟩ ?_ ?_ ?_
  · simp; omega
  · rintro a ⟨g0, g1, g2⟩
    refine .skip (.op () rfl (.skip (.br (fun h => .skip ?_) fun h => .skip (.done rfl ?_))))
    · simp only [decide_eq_true_eq] at h
      obtain ⟨y, hy, hg⟩ := idx_get l eRule 15 a g0 h
      refine .op y hy (.skip (.call _ (Matches_ans N r y hr (hl y (List.mem_of_getElem? hg)) (by omega)) fun b hb => .skip ?_))
      subst hb
      refine .br (fun hm => .skip (.done rfl ?_)) fun hm => .skip (.done rfl ?_)
      · rw [wrap_i64 (by omega) (by omega)]
        refine ⟨⟨by omega, by omega, fun j z hj hz => ?_⟩, by (try simp only); omega⟩
        by_cases he : j = a.toNat
        · subst he
          rw [hg] at hz
          cases hz; simpa using hm
        · exact g2 j z (by omega) hz
      · exact .inr ⟨g0, h, y, hg, by simpa using hm, find_at hg (by simpa using hm) g2⟩
    · simp only [decide_eq_false_iff_not] at h
      refine .inl ⟨by omega, find_non fun j z hz => g2 j z ?_ hz⟩
      have := (List.getElem?_eq_some_iff.1 hz).1
      omega
  · rintro (t : Int) ht
    refine .skip (.op () rfl (.skip (.br (fun h => ?_) fun h => ?_)))
    · rcases ht with ⟨-, hf⟩ | ⟨g0, g1, -⟩
      · have e : applyS (mtS N r) l r = (zeroR, false) := by simp only [applyS, hf]
        rw [e]
        refine .skip (.br (fun _ => .skip (.call _ (same_ans N zeroR ⟨by simp [zeroR], by simp [zeroR], by simp [zeroR]⟩ (by omega)) fun b hb => .skip (.done rfl hb))) fun h => by cases h)
      · rw [beq_iff_eq] at h; omega
    · rcases ht with ⟨e, -⟩ | ⟨g0, g1, y, hg, hy, hf⟩
      · simp [e] at h
      · have hty : t.toNat < l.length := by omega
        have hyl : y ∈ l := List.mem_of_getElem? hg
        have e1 : List.drop t.toNat (List.take (t + 1).toNat l) = [y] := by
          rw [show (t + 1).toNat = t.toNat + 1 by omega, take_succ_get hg, List.drop_append_of_le_length (by simp; omega)]
          simp
        have f1 : [y].find? (mtS N r) = some y := by simp [hy]
        have f2 : (l ++ [litX]).find? (mtS N r) = some y := by rw [List.find?_append, hf]; rfl
        have a1 : applyS (mtS N r) [y] r = applyS (mtS N r) l r := by simp only [applyS, f1, hf]
        have a2 : applyS (mtS N r) (l ++ [litX]) r = applyS (mtS N r) l r := by simp only [applyS, f2, hf]
        have hmd := applyS_md (mtS N r) l r hr hl
        have hden : y.Permit = false → (applyS (mtS N r) l r).2 = false := by
          intro hp
          simp only [applyS, hf]
          rw [if_neg (by simp [hp])]
        refine .skip (.op (t.toNat, (t + 1).toNat) ?_ (.skip ?_))
        · show (boundO l.length l.length (some (Go.IntKind.wrap .i64 (t + 1)))).bind _ = _
          rw [wrap_i64 (by omega) (by omega)]
          simp only [boundO]
          rw [if_pos (by omega)]
          show (if 0 ≤ t ∧ t ≤ ((t + 1).toNat : Int) then some t.toNat else none).map _ = _
          rw [if_pos (by omega)]; rfl
        · simp only [e1]
          refine .callR _ (apply_ans N [y] r hr (fun x hx => by rw [List.mem_singleton.1 hx]; exact hl y hyl) (by simp; omega) (by simp)) fun v19 h19 => .skip (.inl (.skip ?_))
          rw [a1] at h19
          subst h19
          refine .loop (fun (a : Int × List Rule) => 0 ≤ a.1 ∧ a.1 ≤ (l.length : Int) ∧ a.2 = l.take a.1.toNat) (fun a => ((l.length : Int) - a.1).toNat) (fun (t : List Rule) => t = l) rfl ⟨by simp, by simp, by simp⟩ ?_ ?_ ?_
          · simp; omega
          · rintro ⟨a, m⟩ ⟨k0, k1, k2⟩
            simp only at k0 k1 k2 ⊢
            refine .skip (.op () rfl (.skip (.br (fun h => .skip ?_) fun h => .skip (.done rfl ?_))))
            · simp only [decide_eq_true_eq] at h
              obtain ⟨z, hz, hgz⟩ := idx_get l eRule 15 a k0 h
              have hzx := hl z (List.mem_of_getElem? hgz)
              obtain ⟨z1, z2, z3, z4⟩ := hzx
              refine .op z hz (.skip ?_)
              refine .call _ (owni_ans N z.Kinds (by omega)) fun w1 h1 => .skip (.call _ (ownu_ans N z.Targets (by omega)) fun w2 h2 => .skip (.call _ (ownc_ans N z.Remove (by omega)) fun w3 h3 => .skip (.call _ (ownc_ans N z.Add (by omega)) fun w4 h4 => .skip ?_)))
              subst h1 h2 h3 h4
              have hm : m.length ≤ l.length := by rw [k2]; simp; omega
              refine .op () (ifS ⟨rfl, by simp [roomy]; omega⟩) (.skip (.done rfl ?_))
              rw [wrap_i64 (by omega) (by omega)]
              refine ⟨⟨by simp only; omega, by simp only; omega, ?_⟩, by simp only; omega⟩
              simp only
              rw [show (a + 1).toNat = a.toNat + 1 by omega, take_succ_get hgz, k2]
            · simp only [decide_eq_false_iff_not] at h
              exact k2.trans (List.take_of_length_le (by omega))
          · rintro (s : List Rule) rfl
            refine .skip (.tidy rfl (.inl (.skip (.op () (ifS ⟨rfl, by simp [roomy]; omega⟩) (.skip ?_)))))
            refine .call1 (fun (v : Prod Route Bool) => v = applyS (mtS N r) (s ++ [litX]) r) (Ans.guard rfl (apply_ans N (s ++ [litX]) r hr (fun x hx => ?_) (by simp; omega) (by simp; omega))) fun v45 h45 => .skip ?_
            · rcases List.mem_append.1 hx with hx | hx
              · exact hl x hx
              · rw [List.mem_singleton.1 hx]; exact litX_lt
            · rw [a2] at h45
              subst h45
              refine .br (fun _ => .skip ?_) fun h => by simp at h
              refine .br (fun _ => .skip ?_) fun h => by simp at h
              refine .call _ (same_ans N _ hmd (by omega)) fun b hb => .skip (.br (fun _ => .skip ?_) fun h => by rw [hb] at h; cases h)
              refine .call _ (same_ans N _ hmd (by omega)) fun b hb => .skip (.br (fun _ => .skip ?_) fun h => by rw [hb] at h; cases h)
              obtain ⟨y', hy', hg'⟩ := idx_get s eRule 15 t g0 g1
              obtain rfl : y' = y := Option.some.inj (hg'.symm.trans hg)
              refine .op y' hy' (.skip (.br (fun _ => .skip (.done rfl rfl)) fun h => .skip (.done rfl ?_)))
              rw [hden h]; rfl
end Go.L
/- The first matching rule alone decides: PolicyFirst returns true for every input; the card, tied to the program's text. No conditions. -/
namespace Go.L
open Go.AM
set_option linter.unusedVariables false
/-- A route of zeros. -/
def zeroV : Go.Value := .agg #[.int .i64 0, .int .u64 0, .int .u8 0, .int .u8 0, .int .u8 0, .int .u8 0, .int .u8 0, .int .u8 0, .int .u8 0, .int .u8 0, .int .u8 0, .int .u8 0, .int .u32 0, .int .u64 0, .int .u32 0, .bool false, .int .u32 0, .int .i64 0, .int .u32 0, .int .u32 0, .int .u32 0, .int .i64 0, .slice none 0 0, .int .u32 0, .bool false, .int .u32 0, .bool false, .int .u32 0, .bool false, .int .u32 0, .slice none 0 0, .slice none 0 0, .int .i64 0, .int .u32 0, .int .u32 0, .int .u32 0, .int .u32 0, .bool false]
theorem law_policyFirst (l : List Rule) (r : Route) (h0 : (∀ x ∈ l, okRule x) ∧ ((l.map eRule).length : Int) ≤ 9223372036854775807) (h1 : okRoute r) : FnVal prog 9 [.lst (l.map eRule), .agg (eRoute r)] (.ret (.sc (.bool true))) := by
  have hl : (l.length : Int) ≤ 9223372036854775807 := by simpa using h0.2
  obtain ⟨b, hb, h⟩ := first_ans (l.length + 2000) l r (Nat.le_refl _) hl
  subst hb
  exact c_law19_PolicyFirst.ok (l.length + 2000) (l, r) true (h _ (Nat.le_refl _))
end Go.L
namespace Go.Proofs.YtfgigcdbcbgpoaaDoor.policyFirst
open Go.ChangeShapes Go.WideShapes Go.ChangeAt Go.RowKit Go.AM Go.L
set_option linter.unusedVariables false

def kv : List Value := [(1, 0, 2), (2, 3, 12), (3, 6, 0), (4, 6, 1), (5, 6, 2), (6, 6, 3), (7, 6, 6)].flatMap fun (p : Int × Int × Int) => [.int .i64 p.1, .int .u8 p.2.1, .int .u8 p.2.2]
def kk : List Kd := (List.replicate 7 [.int .i64, .int .u8, .int .u8]).flatten
theorem globsOk {W : World} (h : laidMet Tryd.prog Rows.policyFirstRow.laid W) : GlobsOk (Gh.bare W) W := by
  refine globs_one (P := Tryd.prog) (name := "leafmesh/comm.kinds") (g := 0) (vs := kv) (by kernel_rfl) (laid_cells (g := 0) (t := 104) (ks := kk) (by kernel_rfl) (by kernel_rfl) (by kernel_rfl) (by kernel_rfl) h) (by kernel_rfl) fun i cs hi => ?_
  match i, hi with
  | 0, hi => exact ⟨rfl, (Option.some.inj hi).symm⟩
theorem own : ownKnob Tryd.prog.godebug = none := by kernel_rfl
theorem slices : ((List.range Tryd.prog.types.size).all fun t => match Tryd.prog.underlying t with | some (.slice e) => decide (0 < Tryd.prog.cellsOf e) | _ => true) = true := by kernel_rfl
theorem maps : mapsRowed Tryd.prog = true := by kernel_rfl
theorem inTable : (Tryd.f9.params.toList.all fun t => Nat.ble (t + 1) Tryd.prog.types.size) = true := by kernel_rfl
set_option maxRecDepth 100000 in
theorem contract (H : Type) (enc : TypeId × Value → H) (W : World) (base : Nat) (args : Array Value) (ds gs : List (DataW H)) (before : List MemPlace)
    (hval : ∀ (j : Nat) t v, Tryd.f9.params[j]? = some t → args[j]? = some v → Value.okWide Tryd.prog W .any base t v)
    (hW : DataW.Whole enc Tryd.prog Tryd.f9.params.toList Rows.policyFirstSpec.vars false W args.toList ds gs before) (hL : laidMetH Tryd.prog Rows.policyFirstRow.laid W) :
    Calls Tryd.prog 9 args W fun e W' => ∃ v, e = .returned v ∧ Rows.policyFirstSpec.post enc Tryd.prog Tryd.f9 false true false false W args v W' := by
  have hW' := hW
  have hlt := hW.lt
  obtain ⟨p, q, hA0, hV, rfl, hfz, hnd⟩ := hW
  have hA : DataW.TrodAll enc Tryd.prog W 0 (fun _ => true) true Tryd.f9.params.toList args.toList ds p := hA0
  clear hA0
  have hAll := hA
  rw [Tryd.params9] at hA hval
  obtain ⟨v0, r0, d0, e0, p0, q0, hv0, hd0, hp0, t0, hA⟩ := trodAll_cons hA
  obtain ⟨v1, r1, d1, e1, p1, q1, hv1, hd1, hp1, t1, hA⟩ := trodAll_cons hA
  obtain ⟨hr, hd, hq⟩ := trodAll_nil hA
  obtain rfl : args = #[v0, v1] := by apply Array.ext'; simp only [hv0, hv1, hr]
  obtain rfl : ds = [d0, d1] := by simp only [hd0, hd1, hd]
  obtain ⟨rfl, rfl⟩ := trodVars_none hV
  simp only [List.append_nil] at hW' hlt
  obtain ⟨a0, ok0, ra0⟩ := Rdb.cell (c := (cL eRule)) (Rdb.slice Tryd.underlying79 (by kernel_rfl) (by kernel_rfl) rdRule) (by kernel_rfl) (hval 0 _ _ rfl rfl) t0
  have ok0 := And.intro ok0 (lst_len Tryd.underlying79 (hval 0 _ _ rfl rfl) ra0)
  obtain ⟨a1, ok1, ra1⟩ := Rdb.agg rdRoute Tryd.underlying77 (hval 1 _ _ rfl rfl) t1
  refine (law_top (law_policyFirst a0 a1 ok0 ok1) W (globsOk hL) _ ⟨_, _, rfl, ra0, ⟨_, _, rfl, ra1, rfl⟩⟩).mono fun e W' ⟨he, hg⟩ => ?_
  subst he
  exact ⟨_, rfl, post_of_below (pa := p) (pv := []) hW' (fun _ _ _ => (trodAll_cons_mk (shut_bool Tryd.underlying4 _) trodAll_mk0))
    (fun sp hsp => trodAll_kept laid maps (slices_full_of _ slices) hg (fun t ht => Nat.le_of_ble_eq_true (List.all_eq_true.1 inTable t ht)) hAll hlt hsp) (fun _ _ => rfl) (by simp)
    hg (ok_one (by kernel_rfl) rfl (okWide_bool_mk Tryd.underlying4 _))⟩

/-- A world for the witness: the settled one, the variable holding what its initialiser lays. -/
noncomputable def laidWorld (os : Os) : World :=
  { World.holding Tryd.prog os ⟨#[], #[.slice none 0 0, zeroV], []⟩ with heap := (World.holding Tryd.prog os ⟨#[], #[.slice none 0 0, zeroV], []⟩).heap.modify 0 fun
      | .cells _ t frozen => .cells kv.toArray t frozen
      | o => o }
theorem laid_met (os : Os) : laidMet Tryd.prog Rows.policyFirstRow.laid ((laidWorld os).forCall (fun _ _ => 0) ⟨#[], #[.slice none 0 0, zeroV], []⟩).memory :=
  laidMet_of_run' 8 (by kernel_rfl) (by kernel_rfl)
theorem reads (os : Os) {H : Type} (enc : TypeId × Value → H) : ∃ x, DataW.whole enc Tryd.prog ((laidWorld os).forCall (fun _ _ => 0) ⟨#[], #[.slice none 0 0, zeroV], []⟩).memory Tryd.f9.params.toList Rows.policyFirstSpec.vars false (#[.slice none 0 0, zeroV] : Array Value).toList 8 = some x := by
  have h : (DataW.whole enc Tryd.prog ((laidWorld os).forCall (fun _ _ => 0) ⟨#[], #[.slice none 0 0, zeroV], []⟩).memory Tryd.f9.params.toList Rows.policyFirstSpec.vars false (#[.slice none 0 0, zeroV] : Array Value).toList 8).isSome = true := by kernel_rfl
  exact Option.isSome_iff_exists.1 h

set_option maxRecDepth 100000 in
theorem lifted (os : Os) (started : os.Started) (H : Type) (enc : TypeId × Value → H) (F : Stop.Interp) :
    ReturnsInHanded {} Tryd.checked os 9 .any ((OpenSpec.ofChange Rows.policyFirstSpec).preRow enc Tryd.prog Tryd.f9 Rows.policyFirstRow.domain false Rows.policyFirstRow.laid) (((OpenSpec.ofChange Rows.policyFirstSpec).at F).post enc Tryd.prog Tryd.f9 false true false false) := by
  obtain ⟨x, hx⟩ := reads os enc
  refine returnsInHanded_of_row (C := Tryd.checked) (s := OpenSpec.ofChange Rows.policyFirstSpec) own started (by kernel_rfl) Tryd.func9
    (witness_row_at (enc := enc) (C := Tryd.checked) false (laidWorld os) #[.slice none 0 0, zeroV] rfl (by kernel_rfl) (by kernel_rfl) (by kernel_rfl)
      (OpenSpec.preRow_of_cond 8 hx (by kernel_rfl) (fun k hk => by cases hk) (by kernel_rfl) (laid_met os))) ?_
  intro W base args ds gs before hval hW _ _ _ hL _ _
  exact contract H enc W base args ds gs before hval hW hL

theorem said : Rows.PolicyFirstSaid :=
  OpenClaim.holds_of_cond 9 Tryd.f9 rfl rfl rfl rfl rfl rfl rfl ⟨rfl, rfl, rfl, rfl, rfl⟩ rfl rfl rfl rfl rfl (by kernel_rfl) Tryd.func9 (by kernel_rfl)
    (of_decide_eq_true (by kernel_rfl)) (by unfold Func.isWrapper; first | (rw [if_pos (by decide +kernel)]; kernel_rfl) | (rw [if_neg (by decide +kernel)]; exact ⟨rfl, rfl⟩))
    (fun os started H enc _ F => by rw [OpenClaim.pre_eq_preRow]; exact lifted os started H enc F)

theorem noStand : (Tryd.f9.params.toList.all fun t => !Tryd.prog.wantsStandIn t) = true := by kernel_rfl
theorem plain (f : FuncId) (fn : Func) (hf : Tryd.pinned.checked.prog.funcNamed Rows.policyFirstRow.func = some f) (hfn : Tryd.pinned.checked.prog.funcs[f]? = some fn) :
    false = Tryd.pinned.checked.prog.looks [] ∧ ∀ (j : Nat) t, fn.params[j]? = some t → Tryd.pinned.checked.prog.wantsStandIn t = false := by
  obtain rfl : f = 9 := Option.some.inj ((show Tryd.prog.funcNamed Rows.policyFirstRow.func = some 9 by kernel_rfl).symm.trans hf) |>.symm
  obtain rfl : fn = Tryd.f9 := (Option.some.inj (Tryd.func9.symm.trans hfn)).symm
  refine ⟨by kernel_rfl, fun j t ht => ?_⟩
  have := List.all_eq_true.1 noStand t (Array.mem_toList_iff.2 (Array.mem_of_getElem? ht))
  have h2 : Tryd.prog.wantsStandIn t = false := by simpa using this
  exact h2

theorem card : Rows.PolicyFirstCardSaid :=
  Claim7.holds_tied_plain_at .later [] _ _ _ _ said (fun _ h => by cases h) (by kernel_rfl) (fun _ h => by cases h) policyFirst_row_tie rfl ⟨rfl, rfl⟩ (by kernel_rfl) rfl plain (by kernel_rfl)
end Go.Proofs.YtfgigcdbcbgpoaaDoor.policyFirst
