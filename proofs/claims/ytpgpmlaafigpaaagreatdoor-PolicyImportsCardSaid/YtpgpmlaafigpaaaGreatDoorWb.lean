/- What the functions compute, each told by a guide that the kernel checks against the program. No conditions. -/
import Derived.Test.YtpgpmlaafigpaaaGreatDoorTy
import Derived.KernelRfl
import Derived.Test.YtpgpmlaafigpaaaGreatDoorProg
namespace Go.L
open Go.AM
def cfg : Cfg := { val := fun f => ![113,114,115,116,117,118,119,126,196,197,198,102,103,104,105,187,188,189,270,106,190,272,273,274,275,276,277,278,279,362,363,364,365,366,136,137,138,139,215,213,290,214,291,373,374,375,376,377,378,379,380,77,78,168,166,249,167,250,323,324,325,326,327,328,330,331,392,393,394,162,246,315,316,317,318,319,320,321,322,389,390,391].contains f, kill := fun _ _ => [] }
noncomputable abbrev prog := Go.Proofs.Tryz.prog
set_option maxRecDepth 100000
set_option linter.unusedVariables false
set_option linter.unusedSimpArgs false
instance plainProg : Plain prog := ⟨by kernel_rfl, fun f fn h => by
  have hall : prog.funcs.toList.all (fun fn => fn.name != "runtime.NumGoroutine") = true := by kernel_rfl
  have hm : fn ∈ prog.funcs.toList := by simpa using Array.mem_of_getElem? h
  have := List.all_eq_true.1 hall fn hm
  simpa using this⟩
/- leafmesh/addr.valid -/
noncomputable def g_addr_valid (x1 : Go.L.Prefix) : G prog (Sh.El (.one Bool)) :=
  .skip 6 <| .br 6 (decide (x1.Len ≥ (0 : Int))) (.skip 5 <| .done [] (decide (x1.Len ≤ (32 : Int)))) (.skip 5 <| .done [] false)
noncomputable def c_addr_valid : Ctr prog := Ctr.of cfg 10 165 (Go.L.Prefix) (fun x => [.agg (ePrefix x)]) (.one Bool) (fun r => .ret (.sc (.bool r))) (fun x => g_addr_valid x) (fun x => by kernel_rfl)

/- leafmesh/addr.mask -/
noncomputable def g_addr_mask (x1 : Int) : G prog (Sh.El (.one Int)) :=
  .skip 3 <| .op (shlO .u32 .i64 (4294967295 : Int) (Go.IntKind.wrap .i64 ((32 : Int) - x1))) fun _ => .skip 1 <| .done [] (Go.IntKind.wrap .u32 ((4294967295 : Int) * ((2 : Int) ^ (@Min.min Nat instMinNat (Int.toNat (Go.IntKind.wrap .i64 ((32 : Int) - x1))) (Go.IntKind.bits .u32)))))
noncomputable def c_addr_mask : Ctr prog := Ctr.of cfg 10 182 (Int) (fun x => [.sc (.int .i64 x)]) (.one Int) (fun r => .ret (.sc (.int .u32 r))) (fun x => g_addr_mask x) (fun x => by kernel_rfl)

/- leafmesh/addr.Contains -/
noncomputable def g_addr_Contains (x1 : Go.L.Prefix) (x2 : Int) : G prog (Sh.El (.one Bool)) :=
  .skip 3 <| .call c_addr_valid x1 fun (r3 : Bool) => .skip 1 <| .br 7 r3 (.skip 6 <| .call c_addr_mask x1.Len fun (r4 : Int) => .skip 4 <| .done [] ((Go.IntKind.wrap .u32 (((@BitVec.toNat (Go.IntKind.bits .u32) ((BitVec.ofInt (Go.IntKind.bits .u32) (Go.IntKind.wrap .u32 (((@BitVec.toNat (Go.IntKind.bits .u32) ((BitVec.ofInt (Go.IntKind.bits .u32) x1.IP) ^^^ (BitVec.ofInt (Go.IntKind.bits .u32) x2))) : Nat) : Int))) &&& (BitVec.ofInt (Go.IntKind.bits .u32) r4))) : Nat) : Int)) == (0 : Int))) (.skip 11 <| .done [] false)
noncomputable def c_addr_Contains : Ctr prog := Ctr.of cfg 10 98 (Go.L.Prefix × Int) (fun x => [.agg (ePrefix x.1), .sc (.int .u32 x.2)]) (.one Bool) (fun r => .ret (.sc (.bool r))) (fun x => g_addr_Contains x.1 x.2) (fun x => by kernel_rfl)

end Go.L
