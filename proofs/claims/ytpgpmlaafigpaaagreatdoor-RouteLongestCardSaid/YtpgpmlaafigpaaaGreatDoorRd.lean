/- The plain data of the program, as arguments read. -/
import Derived.Test.YtpgpmlaafigpaaaGreatDoorTy
import Derived.Test.YtpgpmlaafigpaaaGreatDoorAmRd
import Derived.KernelRfl
import Derived.Test.YtpgpmlaafigpaaaGreatDoorProg
namespace Go.L
open Go.AM Go.Proofs Go.ChangeShapes Go.WideShapes Go.ChangeAt Go.RowKit
set_option maxRecDepth 100000
theorem laid : laidOutB Tryz.prog = true := by kernel_rfl

def okPrefix (x : Prefix) : Prop := (Go.Lit.int .u32 x.IP).wf = true ∧ (Go.Lit.int .i64 x.Len).wf = true ∧ True
theorem rdPrefix : Rdb Tryz.prog 30 ePrefix okPrefix := .struct laid (by kernel_rfl) Tryz.underlying30 (.cons (Rdb.int Tryz.underlying28 (by kernel_rfl)) (.cons (Rdb.int Tryz.underlying3 (by kernel_rfl)) (.nil))) (fun b => ⟨b.1, b.2.1⟩) (fun s => (s.IP, (s.Len, ()))) (fun _ => rfl) (fun _ => rfl) (fun _ h => h)
def okHop (x : Hop) : Prop := (Go.Lit.int .i64 x.Tenant).wf = true ∧ okPrefix x.Prefix ∧ (Go.Lit.int .i64 x.BD).wf = true ∧ (Go.Lit.int .u32 x.Next).wf = true ∧ (Go.Lit.int .u32 x.VNI).wf = true ∧ (Go.Lit.int .u64 x.MAC).wf = true ∧ (Go.Lit.int .u64 x.Router).wf = true ∧ True
theorem rdHop : Rdb Tryz.prog 76 eHop okHop := .struct laid (by kernel_rfl) Tryz.underlying76 (.cons (Rdb.int Tryz.underlying3 (by kernel_rfl)) (.cons rdPrefix (.cons (Rdb.int Tryz.underlying3 (by kernel_rfl)) (.cons (Rdb.int Tryz.underlying28 (by kernel_rfl)) (.cons (Rdb.int Tryz.underlying26 (by kernel_rfl)) (.cons (Rdb.int Tryz.underlying27 (by kernel_rfl)) (.cons (Rdb.int Tryz.underlying27 (by kernel_rfl)) (.nil)))))))) (fun b => ⟨b.1, b.2.1, b.2.2.1, b.2.2.2.1, b.2.2.2.2.1, b.2.2.2.2.2.1, b.2.2.2.2.2.2.1⟩) (fun s => (s.Tenant, (s.Prefix, (s.BD, (s.Next, (s.VNI, (s.MAC, (s.Router, ())))))))) (fun _ => rfl) (fun _ => rfl) (fun _ h => h)
end Go.L
