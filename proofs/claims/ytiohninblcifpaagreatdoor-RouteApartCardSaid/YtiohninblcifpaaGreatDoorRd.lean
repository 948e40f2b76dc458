/- Parts put together. No conditions. -/
import Derived.Test.YtiohninblcifpaaGreatDoorTy
import Derived.Test.YtiohninblcifpaaGreatDoorAd
import Derived.KernelRfl
import Derived.Test.YtiohninblcifpaaGreatDoorProg
set_option linter.unusedVariables false
set_option maxRecDepth 100000
section
namespace Go.L
open Go.AM Go.Proofs Go.ChangeShapes Go.WideShapes Go.ChangeAt Go.RowKit
theorem laid:laidOutB Tryz.prog=true:=by kernel_rfl
def La(x:ah):Prop:=(Go.Lit.int .u32 x.IP).wf=true∧(Go.Lit.int .i64 x.Len).wf=true∧True
theorem Rv:dU Tryz.prog 47 gJ La:=.struct laid (by kernel_rfl) Tryz.underlying47 (.cons (dU.int Tryz.underlying45 (by kernel_rfl)) (.cons (dU.int Tryz.underlying3 (by kernel_rfl)) (.nil))) (fun b=>⟨b.1,b.2.1⟩) (fun s=>(s.IP,(s.Len,()))) (fun _=>rfl) (fun _=>rfl) (fun _ h=>h)
def PZ(x:iO):Prop:=(Go.Lit.int .i64 x.Kind).wf=true∧(Go.Lit.int .u64 x.RD).wf=true∧((Go.Lit.int .u8 x.aC.a0).wf=true∧(Go.Lit.int .u8 x.aC.a1).wf=true∧(Go.Lit.int .u8 x.aC.a2).wf=true∧(Go.Lit.int .u8 x.aC.a3).wf=true∧(Go.Lit.int .u8 x.aC.a4).wf=true∧(Go.Lit.int .u8 x.aC.a5).wf=true∧(Go.Lit.int .u8 x.aC.a6).wf=true∧(Go.Lit.int .u8 x.aC.a7).wf=true∧(Go.Lit.int .u8 x.aC.a8).wf=true∧(Go.Lit.int .u8 x.aC.a9).wf=true)∧(Go.Lit.int .u32 x.Tag).wf=true∧(Go.Lit.int .u64 x.bq).wf=true∧(Go.Lit.int .u32 x.IP).wf=true∧True∧La x.ah∧(Go.Lit.int .u32 x.aL).wf=true∧(Go.Lit.int .u32 x.Label).wf=true∧(Go.Lit.int .u32 x.dg).wf=true∧True
theorem TT:dU Tryz.prog 49 Gl PZ:=.struct laid (by kernel_rfl) Tryz.underlying49 (.cons (dU.int Tryz.underlying3 (by kernel_rfl)) (.cons (dU.int Tryz.underlying40 (by kernel_rfl)) (.cons (dU.Sg (c:=(cI .u8)) Tryz.underlying42 (by kernel_rfl) (by kernel_rfl) (dU.int Tryz.underlying5 (by kernel_rfl))) (.cons (dU.int Tryz.underlying43 (by kernel_rfl)) (.cons (dU.int Tryz.underlying44 (by kernel_rfl)) (.cons (dU.int Tryz.underlying45 (by kernel_rfl)) (.cons (dU.bool Tryz.underlying4 (by kernel_rfl)) (.cons Rv (.cons (dU.int Tryz.underlying45 (by kernel_rfl)) (.cons (dU.int Tryz.underlying43 (by kernel_rfl)) (.cons (dU.int Tryz.underlying43 (by kernel_rfl)) (.nil)))))))))))) (fun b=>⟨b.1,b.2.1,b.2.2.1,b.2.2.2.1,b.2.2.2.2.1,b.2.2.2.2.2.1,b.2.2.2.2.2.2.1,b.2.2.2.2.2.2.2.1,b.2.2.2.2.2.2.2.2.1,b.2.2.2.2.2.2.2.2.2.1,b.2.2.2.2.2.2.2.2.2.2.1⟩) (fun s=>(s.Kind,(s.RD,(s.aC,(s.Tag,(s.bq,(s.IP,(s.eH,(s.ah,(s.aL,(s.Label,(s.dg,())))))))))))) (fun _=>rfl) (fun _=>rfl) (fun _ h=>h)
def Lb(x:nO):Prop:=(Go.Lit.int .i64 x.Kind).wf=true∧(Go.Lit.int .u32 x.Label).wf=true∧(Go.Lit.int .u32 x.Kj).wf=true∧(Go.Lit.int .u32 x.Gm).wf=true∧True
theorem Rw:dU Tryz.prog 54 Sk Lb:=.struct laid (by kernel_rfl) Tryz.underlying54 (.cons (dU.int Tryz.underlying3 (by kernel_rfl)) (.cons (dU.int Tryz.underlying43 (by kernel_rfl)) (.cons (dU.int Tryz.underlying45 (by kernel_rfl)) (.cons (dU.int Tryz.underlying45 (by kernel_rfl)) (.nil))))) (fun b=>⟨b.1,b.2.1,b.2.2.1,b.2.2.2.1⟩) (fun s=>(s.Kind,(s.Label,(s.Kj,(s.Gm,()))))) (fun _=>rfl) (fun _=>rfl) (fun _ h=>h)
def Mx(x:Nl):Prop:=(Go.Lit.int .i64 x.Origin).wf=true∧(∀a∈x.Path,(Go.Lit.int .u32 a).wf=true)∧(Go.Lit.int .u32 x.Next).wf=true∧True∧(Go.Lit.int .u32 x.RM).wf=true∧True∧(Go.Lit.int .u32 x.Nn).wf=true∧True∧(Go.Lit.int .u32 x.yS).wf=true∧(∀a∈x.pX,(Go.Lit.int .u32 a).wf=true)∧(∀a∈x.bT,((Go.Lit.int .u8 a.a0).wf=true∧(Go.Lit.int .u8 a.a1).wf=true∧(Go.Lit.int .u8 a.a2).wf=true∧(Go.Lit.int .u8 a.a3).wf=true∧(Go.Lit.int .u8 a.a4).wf=true∧(Go.Lit.int .u8 a.a5).wf=true∧(Go.Lit.int .u8 a.a6).wf=true∧(Go.Lit.int .u8 a.a7).wf=true))∧Lb x.nO∧True
theorem SM:dU Tryz.prog 56 Te Mx:=.struct laid (by kernel_rfl) Tryz.underlying56 (.cons (dU.int Tryz.underlying3 (by kernel_rfl)) (.cons (dU.slice Tryz.underlying50 (by kernel_rfl) (by kernel_rfl) (dU.int Tryz.underlying43 (by kernel_rfl))) (.cons (dU.int Tryz.underlying45 (by kernel_rfl)) (.cons (dU.bool Tryz.underlying4 (by kernel_rfl)) (.cons (dU.int Tryz.underlying43 (by kernel_rfl)) (.cons (dU.bool Tryz.underlying4 (by kernel_rfl)) (.cons (dU.int Tryz.underlying43 (by kernel_rfl)) (.cons (dU.bool Tryz.underlying4 (by kernel_rfl)) (.cons (dU.int Tryz.underlying45 (by kernel_rfl)) (.cons (dU.slice Tryz.underlying51 (by kernel_rfl) (by kernel_rfl) (dU.int Tryz.underlying45 (by kernel_rfl))) (.cons (dU.slice Tryz.underlying52 (by kernel_rfl) (by kernel_rfl) (dU.S9 (c:=(cI .u8)) Tryz.underlying81 (by kernel_rfl) (by kernel_rfl) (dU.int Tryz.underlying5 (by kernel_rfl)))) (.cons Rw (.nil))))))))))))) (fun b=>⟨b.1,b.2.1,b.2.2.1,b.2.2.2.1,b.2.2.2.2.1,b.2.2.2.2.2.1,b.2.2.2.2.2.2.1,b.2.2.2.2.2.2.2.1,b.2.2.2.2.2.2.2.2.1,b.2.2.2.2.2.2.2.2.2.1,b.2.2.2.2.2.2.2.2.2.2.1,b.2.2.2.2.2.2.2.2.2.2.2.1⟩) (fun s=>(s.Origin,(s.Path,(s.Next,(s.Kk,(s.RM,(s.Hu,(s.Nn,(s.yh,(s.yS,(s.pX,(s.bT,(s.nO,()))))))))))))) (fun _=>rfl) (fun _=>rfl) (fun _ h=>h)
def My(x:bF):Prop:=PZ x.N∧Mx x.A∧(Go.Lit.int .u32 x.QM).wf=true∧True∧True
theorem SN:dU Tryz.prog 58 cz My:=.struct laid (by kernel_rfl) Tryz.underlying58 (.cons TT (.cons SM (.cons (dU.int Tryz.underlying45 (by kernel_rfl)) (.cons (dU.bool Tryz.underlying4 (by kernel_rfl)) (.nil))))) (fun b=>⟨b.1,b.2.1,b.2.2.1,b.2.2.2.1⟩) (fun s=>(s.N,(s.A,(s.QM,(s.RN,()))))) (fun _=>rfl) (fun _=>rfl) (fun _ h=>h)
end Go.L
end
section
namespace Go.L
open Go.AM Go
end Go.L
end
