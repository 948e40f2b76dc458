/- Loops of plain programs as folds over lists. No program. -/
import Derived.Test.YtpgpmlaafigpaaaGreatDoorAmGd
import Derived.IntWalk
namespace Go.AM

theorem at?_nat {α : Type} (l : List α) (i : Nat) : at? l (i : Int) = l[i]? := by simp [at?]

theorem wrap_i64 {x : Int} (h1 : -9223372036854775808 ≤ x) (h2 : x ≤ 9223372036854775807) : Go.IntKind.wrap .i64 x = x := by
  rw [Go.IntKind.wrap_i64]
  omega

end Go.AM

namespace Go.AM
section
variable {X K V β : Type}
end
end Go.AM
