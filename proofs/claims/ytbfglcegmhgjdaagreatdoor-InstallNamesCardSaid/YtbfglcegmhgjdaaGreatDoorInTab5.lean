/- Entries of the table, worked out. No conditions. -/
import Derived.Test.YtbfglcegmhgjdaaGreatDoorInTabD
namespace Go.Proofs.YtbfglcegmhgjdaaGreatDoor.installNames
open Go.AM
theorem b30 : entryB (callP Tryz.prog cfg t29 m5 2000 300) e30 = true := by kernel_rfl
theorem b31 : entryB (callP Tryz.prog cfg t30 m5 2000 300) e31 = true := by kernel_rfl
theorem b32 : entryB (callP Tryz.prog cfg t31 m5 2000 300) e32 = true := by kernel_rfl
theorem c6 : entryPR (callP Tryz.prog cfg t32 m5 2000 300) [] k6 = true := by kernel_rfl
theorem b33 : entryB (callP Tryz.prog cfg t32 m6 2000 300) e33 = true := by kernel_rfl
theorem b34 : entryB (callP Tryz.prog cfg t33 m6 2000 300) e34 = true := by kernel_rfl
theorem c7 : entryPR (callP Tryz.prog cfg t34 m6 2000 300) [] k7 = true := by kernel_rfl
theorem b35 : entryB (callP Tryz.prog cfg t34 m7 2000 300) e35 = true := by kernel_rfl
end Go.Proofs.YtbfglcegmhgjdaaGreatDoor.installNames
