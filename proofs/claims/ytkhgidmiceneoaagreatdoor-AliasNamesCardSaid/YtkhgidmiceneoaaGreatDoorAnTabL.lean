/- The law itself, worked out over the table. No conditions. -/
import Derived.Test.YtkhgidmiceneoaaGreatDoorAnTabD
namespace Go.Proofs.YtkhgidmiceneoaaGreatDoor.aliasNames
open Go.AM
theorem last : good ((callM Tryz.prog cfg t41 m2 2000 300).fn 3 [] []) = true := by kernel_rfl
end Go.Proofs.YtkhgidmiceneoaaGreatDoor.aliasNames
