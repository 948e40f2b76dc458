/- A function that hands back the beginning of the row that it was handed: the rest of the row is forgotten. No program. -/
import Derived.Test.YtfgigcdbcbgpoaaDoorAmGc
namespace Go.AM
variable [Globs] {P : Program}

/-- The contract with the row cut to what is handed back. -/
def Ctr1.shrink (c : Ctr1 P) (α : Type) (sz : Nat) (enc : α → List AVal) (he : ∀ a, AVal.pureL (enc a) = true) (k : c.sh.El → Nat) (l : c.sh.El → List α) (ho : ∀ r, c.out r = .ret (.sl 0 0 sz 0 (k r))) (hb : ∀ x r, c.outB x r = .row 0 sz ((l r).map enc)) : Ctr1 P where
  f := c.f
  X := c.X
  args := c.args
  blk := c.blk
  sh := .one (List α)
  out := fun (r : List α) => .ret (.sl 0 0 sz 0 r.length)
  outB := fun _ (r : List α) => .row 0 sz (r.map enc)
  S := fun n x => (c.S n x).bind fun r => if k r ≤ (l r).length then some ((l r).take (k r)) else none
  a0 := c.a0
  b0 := c.b0
  b1 := fun _ (r : List α) => by simp [ABlk.row0, he]
  r0 := fun _ => rfl
  ok := fun n x (r : List α) h => by
    obtain ⟨r', h1, h2⟩ := Option.bind_eq_some_iff.1 h
    split at h2
    · rename_i hk
      have h2 : (l r').take (k r') = r := Option.some.inj h2
      subst h2
      have := c.ok n x r' h1
      rw [ho, hb] at this
      have := this.shrink (k r')
      rw [← List.map_take] at this
      rwa [show ((l r').take (k r')).length = k r' by rw [List.length_take]; omega]
    · cases h2
end Go.AM
