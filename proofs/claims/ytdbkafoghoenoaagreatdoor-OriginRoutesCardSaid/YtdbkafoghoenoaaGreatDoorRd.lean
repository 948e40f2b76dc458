/- Parts put together. No conditions. -/
import Derived.Test.YtdbkafoghoenoaaGreatDoorTy
import Derived.Test.YtdbkafoghoenoaaGreatDoorAd
import Derived.KernelRfl
import Derived.Test.YtdbkafoghoenoaaGreatDoorProg
set_option linter.unusedVariables false
set_option maxRecDepth 100000
section
namespace Go.L
open Go.AM Go.Proofs Go.ChangeShapes Go.WideShapes Go.ChangeAt Go.RowKit
theorem laid:laidOutB Tryz.prog=true:=by kernel_rfl
def okNear(x:Near):Prop:=(Go.Lit.int .i64 x.BD).wf=true∧(Go.Lit.int .i64 x.Segment).wf=true∧(Go.Lit.int .u64 x.MAC).wf=true∧(Go.Lit.int .u32 x.IP).wf=true∧True∧(Go.Lit.int .i64 x.Time).wf=true∧True
theorem rdNear:Rdb Tryz.prog 45 eNear okNear:=.struct laid (by kernel_rfl) Tryz.underlying45 (.cons (Rdb.int Tryz.underlying3 (by kernel_rfl)) (.cons (Rdb.int Tryz.underlying3 (by kernel_rfl)) (.cons (Rdb.int Tryz.underlying24 (by kernel_rfl)) (.cons (Rdb.int Tryz.underlying26 (by kernel_rfl)) (.cons (Rdb.bool Tryz.underlying4 (by kernel_rfl)) (.cons (Rdb.int Tryz.underlying3 (by kernel_rfl)) (.nil))))))) (fun b=>⟨b.1,b.2.1,b.2.2.1,b.2.2.2.1,b.2.2.2.2.1,b.2.2.2.2.2.1⟩) (fun s=>(s.BD,(s.Segment,(s.MAC,(s.IP,(s.HasIP,(s.Time,()))))))) (fun _=>rfl) (fun _=>rfl) (fun _ h=>h)
def okClaim(x:Claim):Prop:=(Go.Lit.int .i64 x.BD).wf=true∧(Go.Lit.int .u64 x.MAC).wf=true∧(Go.Lit.int .u32 x.Seq).wf=true∧True∧True
theorem rdClaim:Rdb Tryz.prog 48 eClaim okClaim:=.struct laid (by kernel_rfl) Tryz.underlying48 (.cons (Rdb.int Tryz.underlying3 (by kernel_rfl)) (.cons (Rdb.int Tryz.underlying24 (by kernel_rfl)) (.cons (Rdb.int Tryz.underlying25 (by kernel_rfl)) (.cons (Rdb.bool Tryz.underlying4 (by kernel_rfl)) (.nil))))) (fun b=>⟨b.1,b.2.1,b.2.2.1,b.2.2.2.1⟩) (fun s=>(s.BD,(s.MAC,(s.Seq,(s.Frozen,()))))) (fun _=>rfl) (fun _=>rfl) (fun _ h=>h)
end Go.L
end
section
namespace Go.L
open Go.AM Go
end Go.L
end
