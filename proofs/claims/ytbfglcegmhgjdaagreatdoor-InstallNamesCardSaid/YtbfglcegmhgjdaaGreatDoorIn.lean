/- InstallNames: the chapter's examples hold; the card, tied to the program's text. No conditions. -/
import Derived.Test.YtbfglcegmhgjdaaGreatDoorCards
import Derived.Test.YtbfglcegmhgjdaaGreatDoorTie
import Derived.Test.YtbfglcegmhgjdaaGreatDoorInTab
import Derived.Deep.DeepHandedRow
import Derived.Lib.LaidTab
namespace Go.Proofs.YtbfglcegmhgjdaaGreatDoor.installNames
open Go.ChangeShapes Go.WideShapes Go.ChangeAt Go.RowKit Go.AM
set_option linter.unusedVariables false

theorem own : ownKnob Tryz.prog.godebug = none := by kernel_rfl
set_option maxRecDepth 100000 in
theorem contract (H : Type) (enc : TypeId × Value → H) (W : World) (base : Nat) (args : Array Value) (ds gs : List (DataW H)) (before : List MemPlace)
    (hval : ∀ (j : Nat) t v, Tryz.f3.params[j]? = some t → args[j]? = some v → Value.okWide Tryz.prog W .any base t v)
    (hW : DataW.Whole enc Tryz.prog Tryz.f3.params.toList Rows.installNamesSpec.vars false W args.toList ds gs before) (hL : laidMetH Tryz.prog Rows.installNamesRow.laid W) :
    Calls Tryz.prog 3 args W fun e W' => ∃ v, e = .returned v ∧ Rows.installNamesSpec.post enc Tryz.prog Tryz.f3 false true false false W args v W' := by
  have hW' := hW
  obtain ⟨p, q, hA0, hV, rfl, hfz, hnd⟩ := hW
  have hA : DataW.TrodAll enc Tryz.prog W 0 (fun _ => true) true Tryz.f3.params.toList args.toList ds p := hA0
  rw [Tryz.params3] at hA hval
  obtain ⟨hargs, rfl, rfl⟩ := trodAll_nil hA
  obtain ⟨rfl, rfl⟩ := trodVars_none hV
  obtain rfl : args = #[] := by cases args; simp_all
  clear hA0
  simp only [List.append_nil] at hW'
  refine (walk W hL).mono fun e W' ⟨he, hg⟩ => ?_
  subst he
  exact ⟨_, rfl, post_of_below (pa := []) (pv := []) hW' (fun _ _ _ => (trodAll_cons_mk (shut_bool Tryz.underlying4 _) trodAll_mk0)) (fun sp _ => trodAll_mk0) (fun _ _ => rfl) rfl
    hg (ok_one (by kernel_rfl) rfl (okWide_bool_mk Tryz.underlying4 _))⟩

/-- A world for the witness: the settled one, the variable holding what its initialiser lays. -/
noncomputable def laidWorld (os : Os) : World :=
  { World.holding Tryz.prog os ⟨#[], #[], []⟩ with heap := (World.holding Tryz.prog os ⟨#[], #[], []⟩).heap.modify 0 fun
      | .cells _ t frozen => .cells kv.toArray t frozen
      | o => o }
theorem laid_met (os : Os) : laidMet Tryz.prog Rows.installNamesRow.laid ((laidWorld os).forCall (fun _ _ => 0) ⟨#[], #[], []⟩).memory :=
  laidMet_of_run' 8 (by kernel_rfl) (by kernel_rfl)
theorem reads (os : Os) {H : Type} (enc : TypeId × Value → H) : ∃ places, DataW.whole enc Tryz.prog ((laidWorld os).forCall (fun _ _ => 0) ⟨#[], #[], []⟩).memory Tryz.f3.params.toList Rows.installNamesSpec.vars false (#[] : Array Value).toList 8 = some ([], [], places) :=
  ⟨[], by kernel_rfl⟩

set_option maxRecDepth 100000 in
theorem lifted (os : Os) (started : os.Started) (H : Type) (enc : TypeId × Value → H) (F : Stop.Interp) :
    ReturnsInHanded {} Tryz.checked os 3 .any ((OpenSpec.ofChange Rows.installNamesSpec).preRow enc Tryz.prog Tryz.f3 Rows.installNamesRow.domain false Rows.installNamesRow.laid) (((OpenSpec.ofChange Rows.installNamesSpec).at F).post enc Tryz.prog Tryz.f3 false true false false) := by
  obtain ⟨places, hx⟩ := reads os enc
  refine returnsInHanded_of_row (C := Tryz.checked) (s := OpenSpec.ofChange Rows.installNamesSpec) own started (by kernel_rfl) Tryz.func3
    (witness_row_at (enc := enc) (C := Tryz.checked) false (laidWorld os) #[] rfl (by kernel_rfl) (by kernel_rfl) (by kernel_rfl)
      (OpenSpec.preRow_of_cond 8 hx (by kernel_rfl) (fun k hk => by cases hk) (by kernel_rfl) (laid_met os))) ?_
  intro W base args ds gs before hval hW _ _ _ hL _ _
  exact contract H enc W base args ds gs before hval hW hL

noncomputable abbrev sP : Program := Tryz.pinned.checked.prog
abbrev sF : FuncId := 3
noncomputable abbrev sFn : Func := Tryz.f3
abbrev sS : ChangeSpec := (OpenSpec.ofChange Rows.installNamesSpec).bare
abbrev sC : OpenClaim := Rows.installNamesRow
theorem j0 : (sC.wf (OpenSpec.ofChange sS)) = true := by kernel_rfl
theorem j1 : (laidOutB sP) = true := by kernel_rfl
theorem j2 : (mapsRowed sP) = true := by kernel_rfl
theorem j3 : (sFn.params.all (sP.readableRec ·)) = true := by kernel_rfl
theorem j4 : (namedTie sP sC.named sS.vars) = true := by kernel_rfl
theorem j5 : ((sC.stops == [])) = true := by kernel_rfl
theorem j6 : ((sP.stops == [])) = true := by kernel_rfl
theorem j7 : ((sC.knobs == [])) = true := by kernel_rfl
theorem j8 : ((sP.stopKnobs == [])) = true := by kernel_rfl
theorem j9 : ((sC.inPlace == sP.inPlace sF)) = true := by kernel_rfl
theorem j10 : ((sC.unfollowed == sP.unfollowed sF)) = true := by kernel_rfl
theorem j11 : ((sC.recurses == sP.recurses sF)) = true := by kernel_rfl
theorem j12 : ((sC.named == sP.varsNamed sF)) = true := by kernel_rfl
theorem j13 : ((sC.maps == (sFn.params.toList ++ sS.plain.varTypes sP).any (sP.mapsRec ·))) = true := by kernel_rfl
theorem j14 : ((sC.ifaces == (sFn.params.toList ++ sS.plain.varTypes sP).any (sP.ifacesRec ·))) = true := by kernel_rfl
theorem j15 : ((sC.mapsOut == sP.mapsAmong sFn.resultTypes.toList)) = true := by kernel_rfl
theorem j16 : ((sC.loops == (sFn.params.toList ++ sS.plain.varTypes sP).any (sP.loopsFrom ·))) = true := by kernel_rfl
theorem j17 : ((sC.wideKeys == (sFn.params.toList ++ sS.plain.varTypes sP ++ sFn.resultTypes.toList).any (sP.wideKeysFrom ·))) = true := by kernel_rfl
theorem j18 : (sS.vars.all (sP.varReadable ·)) = true := by kernel_rfl
theorem j19 : (sFn.resultTypes.all (fun t => sP.readableRec t && decide (t < sP.types.size))) = true := by kernel_rfl
theorem j20 : ((sC.ifacesOut == sFn.resultTypes.toList.any (sP.ifacesRec ·))) = true := by kernel_rfl
theorem j21 : ((sC.loopsOut == sFn.resultTypes.toList.any (sP.loopsFrom ·))) = true := by kernel_rfl
theorem j22 : ((sC.plainKeys == sP.plainKeys)) = true := by kernel_rfl
theorem j23 : (sC.shortTexts.isNone) = true := by kernel_rfl
theorem j24 : (sP.stopsHeard) = true := by kernel_rfl
theorem j25 : (sP.mayEnter) = true := by kernel_rfl
theorem j26 : ((sC.lifted == sP.liftsFinal)) = true := by kernel_rfl
theorem j27 : ((sP.make == some sC.make)) = true := by kernel_rfl
theorem j28 : ((sC.kinds == (if sC.domain.isEmpty then [] else sFn.params.toList.map fun t => match sP.underlying t with | some (.int k) => some k | _ => none))) = true := by kernel_rfl
theorem j29 : ((sC.pinned == sC.pinnedBy)) = true := by kernel_rfl
theorem j30 : ((sC.veiled == (sFn.params.toList ++ sS.plain.varTypes sP ++ sFn.resultTypes.toList).any (sP.veiledRec ·))) = true := by kernel_rfl
theorem j31 : (sC.veiledFits sP sFn.params.toList (sFn.params.toList ++ sS.plain.varTypes sP ++ sFn.resultTypes.toList)) = true := by kernel_rfl
theorem andT {a b : Bool} (h : a = true) (k : b = true) : (a && b) = true := by rw [h, k]; rfl
theorem joinedOf {P : Program} {f : FuncId} {fn : Func} {s : ChangeSpec} {c : OpenClaim}
    (h0 : (c.wf (OpenSpec.ofChange s)) = true)
    (h1 : (laidOutB P) = true)
    (h2 : (mapsRowed P) = true)
    (h3 : (fn.params.all (P.readableRec ·)) = true)
    (h4 : (namedTie P c.named s.vars) = true)
    (h5 : ((c.stops == [])) = true)
    (h6 : ((P.stops == [])) = true)
    (h7 : ((c.knobs == [])) = true)
    (h8 : ((P.stopKnobs == [])) = true)
    (h9 : ((c.inPlace == P.inPlace f)) = true)
    (h10 : ((c.unfollowed == P.unfollowed f)) = true)
    (h11 : ((c.recurses == P.recurses f)) = true)
    (h12 : ((c.named == P.varsNamed f)) = true)
    (h13 : ((c.maps == (fn.params.toList ++ s.plain.varTypes P).any (P.mapsRec ·))) = true)
    (h14 : ((c.ifaces == (fn.params.toList ++ s.plain.varTypes P).any (P.ifacesRec ·))) = true)
    (h15 : ((c.mapsOut == P.mapsAmong fn.resultTypes.toList)) = true)
    (h16 : ((c.loops == (fn.params.toList ++ s.plain.varTypes P).any (P.loopsFrom ·))) = true)
    (h17 : ((c.wideKeys == (fn.params.toList ++ s.plain.varTypes P ++ fn.resultTypes.toList).any (P.wideKeysFrom ·))) = true)
    (h18 : (s.vars.all (P.varReadable ·)) = true)
    (h19 : (fn.resultTypes.all (fun t => P.readableRec t && decide (t < P.types.size))) = true)
    (h20 : ((c.ifacesOut == fn.resultTypes.toList.any (P.ifacesRec ·))) = true)
    (h21 : ((c.loopsOut == fn.resultTypes.toList.any (P.loopsFrom ·))) = true)
    (h22 : ((c.plainKeys == P.plainKeys)) = true)
    (h23 : (c.shortTexts.isNone) = true)
    (h24 : (P.stopsHeard) = true)
    (h25 : (P.mayEnter) = true)
    (h26 : ((c.lifted == P.liftsFinal)) = true)
    (h27 : ((P.make == some c.make)) = true)
    (h28 : ((c.kinds == (if c.domain.isEmpty then [] else fn.params.toList.map fun t => match P.underlying t with | some (.int k) => some k | _ => none))) = true)
    (h29 : ((c.pinned == c.pinnedBy)) = true)
    (h30 : ((c.veiled == (fn.params.toList ++ s.plain.varTypes P ++ fn.resultTypes.toList).any (P.veiledRec ·))) = true)
    (h31 : (c.veiledFits P fn.params.toList (fn.params.toList ++ s.plain.varTypes P ++ fn.resultTypes.toList)) = true) :
    joinedFacts P f fn s c = true := by
  unfold joinedFacts
  exact (andT (andT (andT (andT (andT (andT (andT (andT (andT (andT (andT (andT (andT (andT (andT (andT (andT (andT (andT (andT (andT (andT (andT (andT (andT (andT (andT (andT (andT (andT (andT h0 h1) h2) h3) h4) h5) h6) h7) h8) h9) h10) h11) h12) h13) h14) h15) h16) h17) h18) h19) h20) h21) h22) h23) h24) h25) h26) h27) h28) h29) h30) h31)
theorem closed : joinedFacts sP sF sFn sS sC = true :=
  joinedOf (P := sP) (f := sF) (fn := sFn) (s := sS) (c := sC) j0 j1 j2 j3 j4 j5 j6 j7 j8 j9 j10 j11 j12 j13 j14 j15 j16 j17 j18 j19 j20 j21 j22 j23 j24 j25 j26 j27 j28 j29 j30 j31

theorem said : Rows.InstallNamesSaid :=
  OpenClaim.holds_of_cond 3 Tryz.f3 rfl rfl rfl rfl rfl rfl rfl ⟨rfl, rfl, rfl, rfl, rfl⟩ rfl rfl rfl rfl rfl (by kernel_rfl) Tryz.func3 closed
    (of_decide_eq_true (by kernel_rfl)) (by unfold Func.isWrapper; first | (rw [if_pos (by decide +kernel)]; kernel_rfl) | (rw [if_neg (by decide +kernel)]; exact ⟨rfl, rfl⟩))
    (fun os started H enc _ F => by rw [OpenClaim.pre_eq_preRow]; exact lifted os started H enc F)

theorem plain (f : FuncId) (fn : Func) (hf : Tryz.pinned.checked.prog.funcNamed Rows.installNamesRow.func = some f) (hfn : Tryz.pinned.checked.prog.funcs[f]? = some fn) :
    true = Tryz.pinned.checked.prog.looks [] ∧ ∀ (j : Nat) t, fn.params[j]? = some t → Tryz.pinned.checked.prog.wantsStandIn t = false := by
  obtain rfl : f = 3 := Option.some.inj ((show Tryz.prog.funcNamed Rows.installNamesRow.func = some 3 by kernel_rfl).symm.trans hf) |>.symm
  obtain rfl : fn = Tryz.f3 := (Option.some.inj (Tryz.func3.symm.trans hfn)).symm
  refine ⟨by kernel_rfl, fun j t ht => ?_⟩
  rw [Tryz.params3] at ht
  simp at ht

theorem sm1 : sC.wfByText (OpenSpec.ofChange Rows.installNamesSpec) = true := by kernel_rfl
theorem sm2 : Tryz.pinned.checked.prog.mainIs = some (true, "e74c198c081d96a28a2cedb984ea4ce7383658f5161bc2615fcef7fd5c3ba555".toList) := by kernel_rfl
theorem sm3 : false = sC.goesBy Tryz.pinned.checked.prog := by kernel_rfl

theorem card : Rows.InstallNamesCardSaid :=
  Claim7.holds_tied_plain_at .later [] _ _ _ _ said (fun _ h => by cases h) sm1 (fun _ h => by cases h) installNames_row_tie rfl ⟨rfl, rfl⟩ sm2 rfl plain sm3
end Go.Proofs.YtbfglcegmhgjdaaGreatDoor.installNames
