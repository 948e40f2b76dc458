/- What the functions compute, each told by a guide that the kernel checks against the program. No conditions. -/
import Derived.Test.YtfgigcdbcbgpoaaDoorTy
import Derived.KernelRfl
import Derived.Test.YtfgigcdbcbgpoaaDoorProg
namespace Go.L
open Go.AM
def cfg : Cfg := { val := fun f => ![60,61,62,63,67,76,77,80,88,89,97,109,114,115,116,117,118,119,121,122,140,142,143,144,153].contains f, kill := fun _ _ => [] }
noncomputable abbrev prog := Go.Proofs.Tryd.prog
set_option maxRecDepth 100000
set_option linter.unusedVariables false
set_option linter.unusedSimpArgs false
instance plainProg : Plain prog := ⟨by kernel_rfl, fun f fn h => by
  have hall : prog.funcs.toList.all (fun fn => fn.name != "runtime.NumGoroutine") = true := by kernel_rfl
  have hm : fn ∈ prog.funcs.toList := by simpa using Array.mem_of_getElem? h
  have := List.all_eq_true.1 hall fn hm
  simpa using this⟩
end Go.L
