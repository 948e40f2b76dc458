/- Entries of the table, worked out. No conditions. -/
import Derived.Test.YtbfglcegmhgjdaaGreatDoorInTabD
namespace Go.Proofs.YtbfglcegmhgjdaaGreatDoor.installNames
open Go.AM
theorem b1 : entryB (callP Tryz.prog cfg t0 m0 2000 300) e1 = true := by kernel_rfl
theorem b2 : entryB (callP Tryz.prog cfg t1 m0 2000 300) e2 = true := by kernel_rfl
theorem b3 : entryB (callP Tryz.prog cfg t2 m0 2000 300) e3 = true := by kernel_rfl
theorem b4 : entryB (callP Tryz.prog cfg t3 m0 2000 300) e4 = true := by kernel_rfl
theorem b5 : entryB (callP Tryz.prog cfg t4 m0 2000 300) e5 = true := by kernel_rfl
theorem b6 : entryB (callP Tryz.prog cfg t5 m0 2000 300) e6 = true := by kernel_rfl
theorem b7 : entryB (callP Tryz.prog cfg t6 m0 2000 300) e7 = true := by kernel_rfl
theorem b8 : entryB (callP Tryz.prog cfg t7 m0 2000 300) e8 = true := by kernel_rfl
theorem b9 : entryB (callP Tryz.prog cfg t8 m0 2000 300) e9 = true := by kernel_rfl
end Go.Proofs.YtbfglcegmhgjdaaGreatDoor.installNames
