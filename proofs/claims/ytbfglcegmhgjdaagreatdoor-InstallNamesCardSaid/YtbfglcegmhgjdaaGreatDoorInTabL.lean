/- The law itself, worked out over the table. No conditions. -/
import Derived.Test.YtbfglcegmhgjdaaGreatDoorInTabD
namespace Go.Proofs.YtbfglcegmhgjdaaGreatDoor.installNames
open Go.AM
theorem last : good ((callP Tryz.prog cfg t35 m7 2000 300).fn 3 [] []) = true := by kernel_rfl
end Go.Proofs.YtbfglcegmhgjdaaGreatDoor.installNames
