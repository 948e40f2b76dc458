/- Contracts with memory of functions that go through maps: where every order comes to the same. No program. -/
import Derived.Test.YtpgpmlaafigpaaaGreatDoorAmOb
import Derived.Test.YtpgpmlaafigpaaaGreatDoorAmRu
namespace Go.AM
section
set_option linter.unusedSectionVars false
variable [Globs] {P : Program}

def sameH : List ABlk → List ABlk → Bool
  | [], [] => true
  | a :: as, b :: bs => sameBlk a b && sameH as bs
  | _, _ => false
theorem sameH_eq : ∀ {a b : List ABlk}, sameH a b = true → a = b
  | [], [], _ => rfl
  | a :: as, b :: bs, h => by
    simp only [sameH, Bool.and_eq_true] at h
    rw [sameBlk_eq h.1, sameH_eq h.2]
  | [], _ :: _, h => by cases h
  | _ :: _, [], h => by cases h

/-- The first, if all come to the same. -/
def oneOfM {ρ : Type} (out : ρ → ARes) (outH : ρ → List ABlk) : List ρ → Option ρ
  | [] => none
  | r :: rs => if rs.all (fun x => sameR (out x) (out r) && sameH (outH x) (outH r)) then some r else none

/-- What comes out, where every order comes to the same. -/
def CtrMN.one (c : CtrMN P) : CtrM P := c.all (fun n x => ((c.g x).runs n).bind (oneOfM c.out (c.outH x))) fun n x r h => by
  obtain ⟨l, h1, h2⟩ := Option.bind_eq_some_iff.1 h
  refine ⟨n, G.runs_can n (c.g x) l _ h1 fun y hy => ?_⟩
  cases l with
  | nil => cases h2
  | cons r0 rs =>
    simp only [oneOfM, Option.ite_none_right_eq_some, Option.some.injEq] at h2
    obtain ⟨h2, rfl⟩ := h2
    rcases List.mem_cons.1 hy with rfl | hy
    · rfl
    · have := List.all_eq_true.1 h2 y hy
      simp only [Bool.and_eq_true] at this
      rw [sameR_eq this.1, sameH_eq this.2]
end
end Go.AM
