/- Entries of the table, worked out. No conditions. -/
import Derived.Test.YtbfglcegmhgjdaaGreatDoorInTabD
namespace Go.Proofs.YtbfglcegmhgjdaaGreatDoor.installNames
open Go.AM
theorem b24 : entryB (callP Tryz.prog cfg t23 m3 2000 300) e24 = true := by kernel_rfl
theorem c4 : entryPR (callP Tryz.prog cfg t24 m3 2000 300) [] k4 = true := by kernel_rfl
theorem b25 : entryB (callP Tryz.prog cfg t24 m4 2000 300) e25 = true := by kernel_rfl
theorem b26 : entryB (callP Tryz.prog cfg t25 m4 2000 300) e26 = true := by kernel_rfl
theorem b27 : entryB (callP Tryz.prog cfg t26 m4 2000 300) e27 = true := by kernel_rfl
theorem b28 : entryB (callP Tryz.prog cfg t27 m4 2000 300) e28 = true := by kernel_rfl
theorem b29 : entryB (callP Tryz.prog cfg t28 m4 2000 300) e29 = true := by kernel_rfl
theorem c5 : entryPR (callP Tryz.prog cfg t29 m4 2000 300) [] k5 = true := by kernel_rfl
end Go.Proofs.YtbfglcegmhgjdaaGreatDoor.installNames
