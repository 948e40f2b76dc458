/- Loops of plain programs as folds over lists. No program. -/
import Derived.Test.YtpgpmlaafigpaaaGreatDoorAmGd
import Derived.IntWalk
namespace Go.AM

theorem at?_nat {α : Type} (l : List α) (i : Nat) : at? l (i : Int) = l[i]? := by simp [at?]

theorem wrap_i64 {x : Int} (h1 : -9223372036854775808 ≤ x) (h2 : x ≤ 9223372036854775807) : Go.IntKind.wrap .i64 x = x := by
  rw [Go.IntKind.wrap_i64]
  omega

end Go.AM

namespace Go.AM
section
variable {X K V β : Type}
theorem lenO_bind (l : List X) (e : X → List AVal) (k : Unit → Option β) : (lenO l e).run.bind k = k () := rfl
theorem idxO_bind (l : List X) (e : X → List AVal) (n : Nat) (i : Int) (k : X → Option β) : (idxO l e n i).run.bind k = (at? l i).bind k := rfl
theorem idxS_bind (m n b ver : Nat) (i : Int) (k : Unit → Option β) : (idxS m n b ver i).run.bind k = if 0 ≤ i ∧ i < m then k () else none := by
  show (if 0 ≤ i ∧ i < m then some () else none).bind k = _
  split <;> rfl
theorem ldO_bind (l : List X) (e : X → List AVal) (n b ver i o : Nat) (val : X → AVal) (k : X → Option β) : (ldO l e n b ver i o val).run.bind k = (l[i]?).bind k := rfl
theorem appO_bind (len : Nat) (l m : List X) (e : X → List AVal) (n by_ b ver nid : Nat) (ids : List Nat) (k : Unit → Option β) : (appO len l m e n by_ b ver nid ids).run.bind k = if len = l.length ∧ roomy (l.length + m.length) by_ = true then k () else none := by
  show (if len = l.length ∧ roomy (l.length + m.length) by_ = true then some () else none).bind k = _
  split <;> rfl
end
end Go.AM
