/- Entries of the table, worked out. No conditions. -/
import Derived.Test.YtbfglcegmhgjdaaGreatDoorInTabD
namespace Go.Proofs.YtbfglcegmhgjdaaGreatDoor.installNames
open Go.AM
theorem b17 : entryB (callP Tryz.prog cfg t16 m1 2000 300) e17 = true := by kernel_rfl
theorem b18 : entryB (callP Tryz.prog cfg t17 m1 2000 300) e18 = true := by kernel_rfl
theorem b19 : entryB (callP Tryz.prog cfg t18 m1 2000 300) e19 = true := by kernel_rfl
theorem b20 : entryB (callP Tryz.prog cfg t19 m1 2000 300) e20 = true := by kernel_rfl
theorem b21 : entryB (callP Tryz.prog cfg t20 m1 2000 300) e21 = true := by kernel_rfl
theorem b22 : entryB (callP Tryz.prog cfg t21 m1 2000 300) e22 = true := by kernel_rfl
theorem c2 : entryPR (callP Tryz.prog cfg t22 m1 2000 300) [10, 11] k2 = true := by kernel_rfl
theorem c3 : entryPR (callP Tryz.prog cfg t22 m2 2000 300) [4, 5] k3 = true := by kernel_rfl
theorem b23 : entryB (callP Tryz.prog cfg t22 m3 2000 300) e23 = true := by kernel_rfl
end Go.Proofs.YtbfglcegmhgjdaaGreatDoor.installNames
