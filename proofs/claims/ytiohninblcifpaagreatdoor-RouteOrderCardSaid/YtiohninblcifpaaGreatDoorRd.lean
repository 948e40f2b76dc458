/- Parts. No conditions. -/
import Derived.Test.YtiohninblcifpaaGreatDoorTy
import Derived.Test.YtiohninblcifpaaGreatDoorAd
import Derived.KernelRfl
import Derived.Test.YtiohninblcifpaaGreatDoorProg
set_option linter.unusedVariables false
set_option maxRecDepth 100000
section
namespace Go.L
open Go.AM Go.Proofs Go.ChangeShapes Go.WideShapes Go.ChangeAt Go.RowKit
theorem laid:laidOutB Tryz.prog=true:=by kernel_rfl
def Kf(x:ah):Prop:=(Go.Lit.int .u32 x.IP).wf=true∧(Go.Lit.int .i64 x.Len).wf=true∧True
theorem P9:dO Tryz.prog 47 nD Kf:=.struct laid (by kernel_rfl) Tryz.underlying47 (.cons (dO.int Tryz.underlying45 (by kernel_rfl)) (.cons (dO.int Tryz.underlying3 (by kernel_rfl)) (.nil))) (fun b=>⟨b.1,b.2.1⟩) (fun s=>(s.IP,(s.Len,()))) (fun _=>rfl) (fun _=>rfl) (fun _ h=>h)
def OA(x:eE):Prop:=(Go.Lit.int .i64 x.Kind).wf=true∧(Go.Lit.int .u64 x.RD).wf=true∧((Go.Lit.int .u8 x.aA.a0).wf=true∧(Go.Lit.int .u8 x.aA.a1).wf=true∧(Go.Lit.int .u8 x.aA.a2).wf=true∧(Go.Lit.int .u8 x.aA.a3).wf=true∧(Go.Lit.int .u8 x.aA.a4).wf=true∧(Go.Lit.int .u8 x.aA.a5).wf=true∧(Go.Lit.int .u8 x.aA.a6).wf=true∧(Go.Lit.int .u8 x.aA.a7).wf=true∧(Go.Lit.int .u8 x.aA.a8).wf=true∧(Go.Lit.int .u8 x.aA.a9).wf=true)∧(Go.Lit.int .u32 x.Tag).wf=true∧(Go.Lit.int .u64 x.bO).wf=true∧(Go.Lit.int .u32 x.IP).wf=true∧True∧Kf x.ah∧(Go.Lit.int .u32 x.aS).wf=true∧(Go.Lit.int .u32 x.Label).wf=true∧(Go.Lit.int .u32 x.ee).wf=true∧True
theorem Sg:dO Tryz.prog 49 xg OA:=.struct laid (by kernel_rfl) Tryz.underlying49 (.cons (dO.int Tryz.underlying3 (by kernel_rfl)) (.cons (dO.int Tryz.underlying40 (by kernel_rfl)) (.cons (dO.QH (c:=(cI .u8)) Tryz.underlying42 (by kernel_rfl) (by kernel_rfl) (dO.int Tryz.underlying5 (by kernel_rfl))) (.cons (dO.int Tryz.underlying43 (by kernel_rfl)) (.cons (dO.int Tryz.underlying44 (by kernel_rfl)) (.cons (dO.int Tryz.underlying45 (by kernel_rfl)) (.cons (dO.bool Tryz.underlying4 (by kernel_rfl)) (.cons P9 (.cons (dO.int Tryz.underlying45 (by kernel_rfl)) (.cons (dO.int Tryz.underlying43 (by kernel_rfl)) (.cons (dO.int Tryz.underlying43 (by kernel_rfl)) (.nil)))))))))))) (fun b=>⟨b.1,b.2.1,b.2.2.1,b.2.2.2.1,b.2.2.2.2.1,b.2.2.2.2.2.1,b.2.2.2.2.2.2.1,b.2.2.2.2.2.2.2.1,b.2.2.2.2.2.2.2.2.1,b.2.2.2.2.2.2.2.2.2.1,b.2.2.2.2.2.2.2.2.2.2.1⟩) (fun s=>(s.Kind,(s.RD,(s.aA,(s.Tag,(s.bO,(s.IP,(s.dG,(s.ah,(s.aS,(s.Label,(s.ee,())))))))))))) (fun _=>rfl) (fun _=>rfl) (fun _ h=>h)
def Kg(x:nK):Prop:=(Go.Lit.int .i64 x.Kind).wf=true∧(Go.Lit.int .u32 x.Label).wf=true∧(Go.Lit.int .u32 x.Jz).wf=true∧(Go.Lit.int .u32 x.FM).wf=true∧True
theorem Qa:dO Tryz.prog 54 QK Kg:=.struct laid (by kernel_rfl) Tryz.underlying54 (.cons (dO.int Tryz.underlying3 (by kernel_rfl)) (.cons (dO.int Tryz.underlying43 (by kernel_rfl)) (.cons (dO.int Tryz.underlying45 (by kernel_rfl)) (.cons (dO.int Tryz.underlying45 (by kernel_rfl)) (.nil))))) (fun b=>⟨b.1,b.2.1,b.2.2.1,b.2.2.2.1⟩) (fun s=>(s.Kind,(s.Label,(s.Jz,(s.FM,()))))) (fun _=>rfl) (fun _=>rfl) (fun _ h=>h)
def Lu(x:xh):Prop:=(Go.Lit.int .i64 x.Origin).wf=true∧(∀a∈x.Path,(Go.Lit.int .u32 a).wf=true)∧(Go.Lit.int .u32 x.Next).wf=true∧True∧(Go.Lit.int .u32 x.NQ).wf=true∧True∧(Go.Lit.int .u32 x.JA).wf=true∧True∧(Go.Lit.int .u32 x.vt).wf=true∧(∀a∈x.nL,(Go.Lit.int .u32 a).wf=true)∧(∀a∈x.dy,((Go.Lit.int .u8 a.a0).wf=true∧(Go.Lit.int .u8 a.a1).wf=true∧(Go.Lit.int .u8 a.a2).wf=true∧(Go.Lit.int .u8 a.a3).wf=true∧(Go.Lit.int .u8 a.a4).wf=true∧(Go.Lit.int .u8 a.a5).wf=true∧(Go.Lit.int .u8 a.a6).wf=true∧(Go.Lit.int .u8 a.a7).wf=true))∧Kg x.nK∧True
theorem Rf:dO Tryz.prog 56 JB Lu:=.struct laid (by kernel_rfl) Tryz.underlying56 (.cons (dO.int Tryz.underlying3 (by kernel_rfl)) (.cons (dO.slice Tryz.underlying50 (by kernel_rfl) (by kernel_rfl) (dO.int Tryz.underlying43 (by kernel_rfl))) (.cons (dO.int Tryz.underlying45 (by kernel_rfl)) (.cons (dO.bool Tryz.underlying4 (by kernel_rfl)) (.cons (dO.int Tryz.underlying43 (by kernel_rfl)) (.cons (dO.bool Tryz.underlying4 (by kernel_rfl)) (.cons (dO.int Tryz.underlying43 (by kernel_rfl)) (.cons (dO.bool Tryz.underlying4 (by kernel_rfl)) (.cons (dO.int Tryz.underlying45 (by kernel_rfl)) (.cons (dO.slice Tryz.underlying51 (by kernel_rfl) (by kernel_rfl) (dO.int Tryz.underlying45 (by kernel_rfl))) (.cons (dO.slice Tryz.underlying52 (by kernel_rfl) (by kernel_rfl) (dO.Rx (c:=(cI .u8)) Tryz.underlying81 (by kernel_rfl) (by kernel_rfl) (dO.int Tryz.underlying5 (by kernel_rfl)))) (.cons Qa (.nil))))))))))))) (fun b=>⟨b.1,b.2.1,b.2.2.1,b.2.2.2.1,b.2.2.2.2.1,b.2.2.2.2.2.1,b.2.2.2.2.2.2.1,b.2.2.2.2.2.2.2.1,b.2.2.2.2.2.2.2.2.1,b.2.2.2.2.2.2.2.2.2.1,b.2.2.2.2.2.2.2.2.2.2.1,b.2.2.2.2.2.2.2.2.2.2.2.1⟩) (fun s=>(s.Origin,(s.Path,(s.Next,(s.FN,(s.NQ,(s.DO,(s.JA,(s.uq,(s.vt,(s.nL,(s.dy,(s.nK,()))))))))))))) (fun _=>rfl) (fun _=>rfl) (fun _ h=>h)
def Lv(x:aK):Prop:=OA x.N∧Lu x.A∧(Go.Lit.int .u32 x.Mi).wf=true∧True∧True
theorem Rg:dO Tryz.prog 58 aL Lv:=.struct laid (by kernel_rfl) Tryz.underlying58 (.cons Sg (.cons Rf (.cons (dO.int Tryz.underlying45 (by kernel_rfl)) (.cons (dO.bool Tryz.underlying4 (by kernel_rfl)) (.nil))))) (fun b=>⟨b.1,b.2.1,b.2.2.1,b.2.2.2.1⟩) (fun s=>(s.N,(s.A,(s.Mi,(s.Mj,()))))) (fun _=>rfl) (fun _=>rfl) (fun _ h=>h)
end Go.L
end
section
namespace Go.L
open Go.AM Go
end Go.L
end
