/- Entries of the table, worked out. No conditions. -/
import Derived.Test.YtkhgidmiceneoaaGreatDoorAnTabD
namespace Go.Proofs.YtkhgidmiceneoaaGreatDoor.aliasNames
open Go.AM
theorem b12 : entryB (callM Tryz.prog cfg t11 m0 2000 300) e12 = true := by kernel_rfl
theorem b13 : entryB (callM Tryz.prog cfg t12 m0 2000 300) e13 = true := by kernel_rfl
theorem b14 : entryB (callM Tryz.prog cfg t13 m0 2000 300) e14 = true := by kernel_rfl
theorem b15 : entryB (callM Tryz.prog cfg t14 m0 2000 300) e15 = true := by kernel_rfl
theorem b16 : entryB (callM Tryz.prog cfg t15 m0 2000 300) e16 = true := by kernel_rfl
theorem b17 : entryB (callM Tryz.prog cfg t16 m0 2000 300) e17 = true := by kernel_rfl
theorem c1 : entryMB (callM Tryz.prog cfg t17 m0 2000 300) k1 = true := by kernel_rfl
theorem b18 : entryB (callM Tryz.prog cfg t17 m1 2000 300) e18 = true := by kernel_rfl
theorem b19 : entryB (callM Tryz.prog cfg t18 m1 2000 300) e19 = true := by kernel_rfl
theorem b20 : entryB (callM Tryz.prog cfg t19 m1 2000 300) e20 = true := by kernel_rfl
theorem b21 : entryB (callM Tryz.prog cfg t20 m1 2000 300) e21 = true := by kernel_rfl
end Go.Proofs.YtkhgidmiceneoaaGreatDoor.aliasNames
