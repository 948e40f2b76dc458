/- Entries of the table, worked out. No conditions. -/
import Derived.Test.YtkhgidmiceneoaaGreatDoorAnTabD
namespace Go.Proofs.YtkhgidmiceneoaaGreatDoor.aliasNames
open Go.AM
theorem b22 : entryB (callM Tryz.prog cfg t21 m1 2000 300) e22 = true := by kernel_rfl
theorem b23 : entryB (callM Tryz.prog cfg t22 m1 2000 300) e23 = true := by kernel_rfl
theorem b24 : entryB (callM Tryz.prog cfg t23 m1 2000 300) e24 = true := by kernel_rfl
theorem b25 : entryB (callM Tryz.prog cfg t24 m1 2000 300) e25 = true := by kernel_rfl
theorem b26 : entryB (callM Tryz.prog cfg t25 m1 2000 300) e26 = true := by kernel_rfl
theorem b27 : entryB (callM Tryz.prog cfg t26 m1 2000 300) e27 = true := by kernel_rfl
theorem c2 : entryMB (callM Tryz.prog cfg t27 m1 2000 300) k2 = true := by kernel_rfl
theorem b28 : entryB (callM Tryz.prog cfg t27 m2 2000 300) e28 = true := by kernel_rfl
theorem b29 : entryB (callM Tryz.prog cfg t28 m2 2000 300) e29 = true := by kernel_rfl
theorem b30 : entryB (callM Tryz.prog cfg t29 m2 2000 300) e30 = true := by kernel_rfl
theorem b31 : entryB (callM Tryz.prog cfg t30 m2 2000 300) e31 = true := by kernel_rfl
end Go.Proofs.YtkhgidmiceneoaaGreatDoor.aliasNames
