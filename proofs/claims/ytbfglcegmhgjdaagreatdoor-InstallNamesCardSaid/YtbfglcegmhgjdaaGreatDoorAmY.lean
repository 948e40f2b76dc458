/- From the abstract machine to a statement. No program. -/
import Derived.Test.YtbfglcegmhgjdaaGreatDoorAmX
import Derived.ProofKit
import Derived.OpenShut
import Derived.JoinedCond
namespace Go.AM
open Go.ChangeShapes Go.WideShapes Go.ChangeAt Go.RowKit

/-- Before anything was made: what is there stays. -/
def Gh.bare (w : World) : Gh := { rho := fun _ _ => none, st := fun k _ => k < w.heap.size }

section
variable [Globs]

theorem Gh.bare_inv (w : World) (hg : GlobsOk (Gh.bare w) w) : Inv (Gh.bare w) [] w :=
  ⟨fun b x h => by simp at h, fun b b' x x' v v' k z z' h => by simp at h, fun b ver _ => rfl, fun b x v ver' h => by simp at h, fun b x v k z o h => by simp at h, fun _ _ h => h, hg⟩

theorem later_below {w w' : World} {g' : Gh} {H' : List ABlk} (h : Later (Gh.bare w) [] w g' H' w') : Below w.heap.size w w' :=
  ⟨h.os, h.tape.1, h.output, h.size, fun k hk => h.keep k hk not_owned_nil⟩

theorem top {P : Program} {orc : Orc} (ho : OrcOk P orc) {f : FuncId} {args : List AVal} {v : Value} {H1 : List ABlk} (h : orc.fn f args [] = some (.ret (.sc v), H1))
    (w : World) (hg : GlobsOk (Gh.bare w) w) (vs : Array Value) (hl : RL (Gh.bare w) w args vs.toList) : Calls P f vs w fun e w' => e = .returned v ∧ Below w.heap.size w w' := by
  refine ((ho.fn f args [] _ _ h).2 (Gh.bare w) w vs (Gh.bare_inv w hg) hl).mono ?_
  rintro e w' ⟨g', _, hla, x, rfl, hr⟩
  simp only [R] at hr
  subst hr
  exact ⟨rfl, later_below hla⟩
end

section
variable {H : Type} {enc : TypeId × Value → H} {P : Program}
theorem post_of_below {f : Func} {s : ChangeSpec} {apart fresh handsOn again : Bool} {W W' : World} {args : Array Value} {v : Value} {ds gs : List (DataW H)} {before pa pv : List MemPlace}
    (hW : DataW.Whole enc P f.params.toList s.vars apart W args.toList ds gs before)
    (hres : ∀ (b : Nat) (sp : Nat → Bool) (hd : Bool), DataW.TrodAll enc P W' b sp hd f.resultTypes.toList (v.resultList f.resultTypes.size) (s.fn H (ds ++ gs)).results [])
    (hargs : ∀ sp : Nat → Bool, (∀ p ∈ before, sp p.block = true) → DataW.TrodAll enc P W' 0 sp true f.params.toList args.toList (s.fn H (ds ++ gs)).args pa)
    (hvars : ∀ sp : Nat → Bool, (∀ p ∈ before, sp p.block = true) → DataW.TrodVars enc P W' sp s.vars (s.fn H (ds ++ gs)).vars pv)
    (hps : before = pa ++ pv) (hb : Below W.heap.size W W')
    (hok : ∀ (j : Nat) (t : TypeId) (r : Value), f.resultTypes[j]? = some t → (v.resultList f.resultTypes.size)[j]? = some r → Value.okWide P W' .any 0 t r) :
    s.post enc P f apart fresh handsOn again W args v W' := by
  have hold : ∀ p ∈ before, (fun b => decide (b < W.heap.size)) p.block = true := fun p hp => by simpa using hW.lt p hp
  have hlt := hW.lt
  refine ⟨ds, gs, before, [], pa, pv, hW, hres _ _ _, hargs _ hold, hvars _ hold, World.keptBut_mono (fun p hp => ⟨hp, ?_⟩) (hb.frame (· ∈ before)), fun _ => ?_⟩
  · rw [hps, List.mem_append] at hp
    exact Or.inr hp
  · obtain ⟨_, _, _, _, _, hz, hn⟩ := hW
    refine ⟨hok, _, _, ([] ++ pa) ++ pv, ⟨[] ++ pa, pv, trodAll_append (hargs _ (fun _ _ => rfl)) (hres _ _ _), hvars _ (fun _ _ => rfl), rfl, ?_, ?_⟩, ?_⟩
    · intro b off hp
      have hm : MemPlace.cell b off ∈ before := by rw [hps]; simpa using hp
      rw [hb.frozen (hlt _ hm)]
      exact hz b off hm
    · intro ha
      have := hn ha
      rw [hps] at this
      simpa using this
    · intro p hp _
      rw [hps]
      simpa using hp
end
end Go.AM
