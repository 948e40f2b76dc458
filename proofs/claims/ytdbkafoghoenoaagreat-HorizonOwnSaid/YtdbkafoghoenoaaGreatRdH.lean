/- The plain data of the program, as arguments read. -/
import Derived.Test.YtdbkafoghoenoaaGreatTyG
import Derived.Test.YtdbkafoghoenoaaGreatAd
import Derived.KernelRfl
import Derived.Test.YtdbkafoghoenoaaGreatProg
set_option maxRecDepth 100000
namespace Go.L
open Go.AM Go.Proofs Go.ChangeShapes Go.WideShapes Go.ChangeAt Go.RowKit
theorem laid:laidOutB Tryz.prog=true:=by kernel_rfl
def okForwarder(x:Forwarder):Prop:=((Go.Lit.int .u8 x.ESI.a0).wf=true∧(Go.Lit.int .u8 x.ESI.a1).wf=true∧(Go.Lit.int .u8 x.ESI.a2).wf=true∧(Go.Lit.int .u8 x.ESI.a3).wf=true∧(Go.Lit.int .u8 x.ESI.a4).wf=true∧(Go.Lit.int .u8 x.ESI.a5).wf=true∧(Go.Lit.int .u8 x.ESI.a6).wf=true∧(Go.Lit.int .u8 x.ESI.a7).wf=true∧(Go.Lit.int .u8 x.ESI.a8).wf=true∧(Go.Lit.int .u8 x.ESI.a9).wf=true)∧(Go.Lit.int .i64 x.BD).wf=true∧(Go.Lit.int .u32 x.IP).wf=true∧True
theorem rdForwarder:Rdb Tryz.prog 105 eForwarder okForwarder:=.struct laid (by kernel_rfl) Tryz.underlying105 (.cons (Rdb.array10 (c:=(cI .u8)) Tryz.underlying60 (by kernel_rfl) (by kernel_rfl) (Rdb.int Tryz.underlying5 (by kernel_rfl))) (.cons (Rdb.int Tryz.underlying3 (by kernel_rfl)) (.cons (Rdb.int Tryz.underlying27 (by kernel_rfl)) (.nil)))) (fun b=>⟨b.1,b.2.1,b.2.2.1⟩) (fun s=>(s.ESI,(s.BD,(s.IP,())))) (fun _=>rfl) (fun _=>rfl) (fun _ h=>h)
def okSharing(x:Sharing):Prop:=((Go.Lit.int .u8 x.ESI.a0).wf=true∧(Go.Lit.int .u8 x.ESI.a1).wf=true∧(Go.Lit.int .u8 x.ESI.a2).wf=true∧(Go.Lit.int .u8 x.ESI.a3).wf=true∧(Go.Lit.int .u8 x.ESI.a4).wf=true∧(Go.Lit.int .u8 x.ESI.a5).wf=true∧(Go.Lit.int .u8 x.ESI.a6).wf=true∧(Go.Lit.int .u8 x.ESI.a7).wf=true∧(Go.Lit.int .u8 x.ESI.a8).wf=true∧(Go.Lit.int .u8 x.ESI.a9).wf=true)∧(∀a∈x.Members,(Go.Lit.int .u32 a).wf=true)∧(∀a∈x.Labels,(Go.Lit.int .u32 a).wf=true)∧True
theorem rdSharing:Rdb Tryz.prog 64 eSharing okSharing:=.struct laid (by kernel_rfl) Tryz.underlying64 (.cons (Rdb.array10 (c:=(cI .u8)) Tryz.underlying60 (by kernel_rfl) (by kernel_rfl) (Rdb.int Tryz.underlying5 (by kernel_rfl))) (.cons (Rdb.slice Tryz.underlying61 (by kernel_rfl) (by kernel_rfl) (Rdb.int Tryz.underlying27 (by kernel_rfl))) (.cons (Rdb.slice Tryz.underlying62 (by kernel_rfl) (by kernel_rfl) (Rdb.int Tryz.underlying26 (by kernel_rfl))) (.nil)))) (fun b=>⟨b.1,b.2.1,b.2.2.1⟩) (fun s=>(s.ESI,(s.Members,(s.Labels,())))) (fun _=>rfl) (fun _=>rfl) (fun _ h=>h)
end Go.L
