/- Put together out of parts: The plain data of the program, as arguments read. No conditions. -/
import Derived.Test.YtiohninblcifpaaGreatDoorTy
import Derived.Test.YtiohninblcifpaaGreatDoorAd
import Derived.KernelRfl
import Derived.Test.YtiohninblcifpaaGreatDoorProg
section
namespace Go.L
open Go.AM Go.Proofs Go.ChangeShapes Go.WideShapes Go.ChangeAt Go.RowKit
set_option maxRecDepth 100000
theorem laid:laidOutB Tryz.prog=true:=by kernel_rfl
def Ji(x:af):Prop:=(Go.Lit.int .u32 x.IP).wf=true∧(Go.Lit.int .i64 x.Len).wf=true∧True
theorem OP:dZ Tryz.prog 47 k9 Ji:=.struct laid (by kernel_rfl) Tryz.underlying47 (.cons (dZ.int Tryz.underlying45 (by kernel_rfl)) (.cons (dZ.int Tryz.underlying3 (by kernel_rfl)) (.nil))) (fun b=>⟨b.1,b.2.1⟩) (fun s=>(s.IP,(s.Len,()))) (fun _=>rfl) (fun _=>rfl) (fun _ h=>h)
def Np(x:iW):Prop:=(Go.Lit.int .i64 x.Kind).wf=true∧(Go.Lit.int .u64 x.RD).wf=true∧((Go.Lit.int .u8 x.aC.a0).wf=true∧(Go.Lit.int .u8 x.aC.a1).wf=true∧(Go.Lit.int .u8 x.aC.a2).wf=true∧(Go.Lit.int .u8 x.aC.a3).wf=true∧(Go.Lit.int .u8 x.aC.a4).wf=true∧(Go.Lit.int .u8 x.aC.a5).wf=true∧(Go.Lit.int .u8 x.aC.a6).wf=true∧(Go.Lit.int .u8 x.aC.a7).wf=true∧(Go.Lit.int .u8 x.aC.a8).wf=true∧(Go.Lit.int .u8 x.aC.a9).wf=true)∧(Go.Lit.int .u32 x.Tag).wf=true∧(Go.Lit.int .u64 x.bV).wf=true∧(Go.Lit.int .u32 x.IP).wf=true∧True∧Ji x.af∧(Go.Lit.int .u32 x.bk).wf=true∧(Go.Lit.int .u32 x.Label).wf=true∧(Go.Lit.int .u32 x.ee).wf=true∧True
theorem QZ:dZ Tryz.prog 49 EL Np:=.struct laid (by kernel_rfl) Tryz.underlying49 (.cons (dZ.int Tryz.underlying3 (by kernel_rfl)) (.cons (dZ.int Tryz.underlying40 (by kernel_rfl)) (.cons (dZ.Pt (c:=(cI .u8)) Tryz.underlying42 (by kernel_rfl) (by kernel_rfl) (dZ.int Tryz.underlying5 (by kernel_rfl))) (.cons (dZ.int Tryz.underlying43 (by kernel_rfl)) (.cons (dZ.int Tryz.underlying44 (by kernel_rfl)) (.cons (dZ.int Tryz.underlying45 (by kernel_rfl)) (.cons (dZ.bool Tryz.underlying4 (by kernel_rfl)) (.cons OP (.cons (dZ.int Tryz.underlying45 (by kernel_rfl)) (.cons (dZ.int Tryz.underlying43 (by kernel_rfl)) (.cons (dZ.int Tryz.underlying43 (by kernel_rfl)) (.nil)))))))))))) (fun b=>⟨b.1,b.2.1,b.2.2.1,b.2.2.2.1,b.2.2.2.2.1,b.2.2.2.2.2.1,b.2.2.2.2.2.2.1,b.2.2.2.2.2.2.2.1,b.2.2.2.2.2.2.2.2.1,b.2.2.2.2.2.2.2.2.2.1,b.2.2.2.2.2.2.2.2.2.2.1⟩) (fun s=>(s.Kind,(s.RD,(s.aC,(s.Tag,(s.bV,(s.IP,(s.eX,(s.af,(s.bk,(s.Label,(s.ee,())))))))))))) (fun _=>rfl) (fun _=>rfl) (fun _ h=>h)
def Jj(x:og):Prop:=(Go.Lit.int .i64 x.Kind).wf=true∧(Go.Lit.int .u32 x.Label).wf=true∧(Go.Lit.int .u32 x.Iu).wf=true∧(Go.Lit.int .u32 x.EM).wf=true∧True
theorem OQ:dZ Tryz.prog 54 Pw Jj:=.struct laid (by kernel_rfl) Tryz.underlying54 (.cons (dZ.int Tryz.underlying3 (by kernel_rfl)) (.cons (dZ.int Tryz.underlying43 (by kernel_rfl)) (.cons (dZ.int Tryz.underlying45 (by kernel_rfl)) (.cons (dZ.int Tryz.underlying45 (by kernel_rfl)) (.nil))))) (fun b=>⟨b.1,b.2.1,b.2.2.1,b.2.2.2.1⟩) (fun s=>(s.Kind,(s.Label,(s.Iu,(s.EM,()))))) (fun _=>rfl) (fun _=>rfl) (fun _ h=>h)
def Kx(x:Li):Prop:=(Go.Lit.int .i64 x.Origin).wf=true∧(∀a∈x.Path,(Go.Lit.int .u32 a).wf=true)∧(Go.Lit.int .u32 x.Next).wf=true∧True∧(Go.Lit.int .u32 x.O3).wf=true∧True∧(Go.Lit.int .u32 x.Lj).wf=true∧True∧(Go.Lit.int .u32 x.xI).wf=true∧(∀a∈x.qh,(Go.Lit.int .u32 a).wf=true)∧(∀a∈x.dW,((Go.Lit.int .u8 a.a0).wf=true∧(Go.Lit.int .u8 a.a1).wf=true∧(Go.Lit.int .u8 a.a2).wf=true∧(Go.Lit.int .u8 a.a3).wf=true∧(Go.Lit.int .u8 a.a4).wf=true∧(Go.Lit.int .u8 a.a5).wf=true∧(Go.Lit.int .u8 a.a6).wf=true∧(Go.Lit.int .u8 a.a7).wf=true))∧Jj x.og∧True
theorem PW:dZ Tryz.prog 56 Qm Kx:=.struct laid (by kernel_rfl) Tryz.underlying56 (.cons (dZ.int Tryz.underlying3 (by kernel_rfl)) (.cons (dZ.slice Tryz.underlying50 (by kernel_rfl) (by kernel_rfl) (dZ.int Tryz.underlying43 (by kernel_rfl))) (.cons (dZ.int Tryz.underlying45 (by kernel_rfl)) (.cons (dZ.bool Tryz.underlying4 (by kernel_rfl)) (.cons (dZ.int Tryz.underlying43 (by kernel_rfl)) (.cons (dZ.bool Tryz.underlying4 (by kernel_rfl)) (.cons (dZ.int Tryz.underlying43 (by kernel_rfl)) (.cons (dZ.bool Tryz.underlying4 (by kernel_rfl)) (.cons (dZ.int Tryz.underlying45 (by kernel_rfl)) (.cons (dZ.slice Tryz.underlying51 (by kernel_rfl) (by kernel_rfl) (dZ.int Tryz.underlying45 (by kernel_rfl))) (.cons (dZ.slice Tryz.underlying52 (by kernel_rfl) (by kernel_rfl) (dZ.Qh (c:=(cI .u8)) Tryz.underlying81 (by kernel_rfl) (by kernel_rfl) (dZ.int Tryz.underlying5 (by kernel_rfl)))) (.cons OQ (.nil))))))))))))) (fun b=>⟨b.1,b.2.1,b.2.2.1,b.2.2.2.1,b.2.2.2.2.1,b.2.2.2.2.2.1,b.2.2.2.2.2.2.1,b.2.2.2.2.2.2.2.1,b.2.2.2.2.2.2.2.2.1,b.2.2.2.2.2.2.2.2.2.1,b.2.2.2.2.2.2.2.2.2.2.1,b.2.2.2.2.2.2.2.2.2.2.2.1⟩) (fun s=>(s.Origin,(s.Path,(s.Next,(s.Iv,(s.O3,(s.FD,(s.Lj,(s.wY,(s.xI,(s.qh,(s.dW,(s.og,()))))))))))))) (fun _=>rfl) (fun _=>rfl) (fun _ h=>h)
def Ky(x:cz):Prop:=Np x.N∧Kx x.A∧(Go.Lit.int .u32 x.N5).wf=true∧True∧True
theorem PX:dZ Tryz.prog 58 cN Ky:=.struct laid (by kernel_rfl) Tryz.underlying58 (.cons QZ (.cons PW (.cons (dZ.int Tryz.underlying45 (by kernel_rfl)) (.cons (dZ.bool Tryz.underlying4 (by kernel_rfl)) (.nil))))) (fun b=>⟨b.1,b.2.1,b.2.2.1,b.2.2.2.1⟩) (fun s=>(s.N,(s.A,(s.N5,(s.O4,()))))) (fun _=>rfl) (fun _=>rfl) (fun _ h=>h)
end Go.L
end
section
namespace Go.L
open Go.AM Go
set_option linter.unusedVariables false
end Go.L
end
