/- Entries of the table, worked out. No conditions. -/
import Derived.Test.YtbfglcegmhgjdaaGreatDoorInTabD
namespace Go.Proofs.YtbfglcegmhgjdaaGreatDoor.installNames
open Go.AM
theorem b10 : entryB (callP Tryz.prog cfg t9 m0 2000 300) e10 = true := by kernel_rfl
theorem b11 : entryB (callP Tryz.prog cfg t10 m0 2000 300) e11 = true := by kernel_rfl
theorem b12 : entryB (callP Tryz.prog cfg t11 m0 2000 300) e12 = true := by kernel_rfl
theorem b13 : entryB (callP Tryz.prog cfg t12 m0 2000 300) e13 = true := by kernel_rfl
theorem b14 : entryB (callP Tryz.prog cfg t13 m0 2000 300) e14 = true := by kernel_rfl
theorem b15 : entryB (callP Tryz.prog cfg t14 m0 2000 300) e15 = true := by kernel_rfl
theorem b16 : entryB (callP Tryz.prog cfg t15 m0 2000 300) e16 = true := by kernel_rfl
theorem c1 : entryPR (callP Tryz.prog cfg t16 m0 2000 300) [86, 88] k1 = true := by kernel_rfl
end Go.Proofs.YtbfglcegmhgjdaaGreatDoor.installNames
