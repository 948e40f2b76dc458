/- Entries of the table, worked out. No conditions. -/
import Derived.Test.YtkhgidmiceneoaaGreatDoorAnTabD
namespace Go.Proofs.YtkhgidmiceneoaaGreatDoor.aliasNames
open Go.AM
theorem b32 : entryB (callM Tryz.prog cfg t31 m2 2000 300) e32 = true := by kernel_rfl
theorem b33 : entryB (callM Tryz.prog cfg t32 m2 2000 300) e33 = true := by kernel_rfl
theorem b34 : entryB (callM Tryz.prog cfg t33 m2 2000 300) e34 = true := by kernel_rfl
theorem b35 : entryB (callM Tryz.prog cfg t34 m2 2000 300) e35 = true := by kernel_rfl
theorem b36 : entryB (callM Tryz.prog cfg t35 m2 2000 300) e36 = true := by kernel_rfl
theorem b37 : entryB (callM Tryz.prog cfg t36 m2 2000 300) e37 = true := by kernel_rfl
theorem b38 : entryB (callM Tryz.prog cfg t37 m2 2000 300) e38 = true := by kernel_rfl
theorem b39 : entryB (callM Tryz.prog cfg t38 m2 2000 300) e39 = true := by kernel_rfl
theorem b40 : entryB (callM Tryz.prog cfg t39 m2 2000 300) e40 = true := by kernel_rfl
theorem b41 : entryB (callM Tryz.prog cfg t40 m2 2000 300) e41 = true := by kernel_rfl
end Go.Proofs.YtkhgidmiceneoaaGreatDoor.aliasNames
