/- Parts put together. No conditions. -/
import Derived.Test.YtiohninblcifpaaGreatDoorTy
import Derived.Test.YtiohninblcifpaaGreatDoorAd
import Derived.KernelRfl
import Derived.Test.YtiohninblcifpaaGreatDoorProg
set_option linter.unusedVariables false
set_option maxRecDepth 100000
section
namespace Go.L
open Go.AM Go.Proofs Go.ChangeShapes Go.WideShapes Go.ChangeAt Go.RowKit
theorem laid:laidOutB Tryz.prog=true:=by kernel_rfl
def I7(x:aN):Prop:=(Go.Lit.int .u32 x.IP).wf=true∧(Go.Lit.int .i64 x.Len).wf=true∧True
theorem OK:cC Tryz.prog 47 gY I7:=.struct laid (by kernel_rfl) Tryz.underlying47 (.cons (cC.int Tryz.underlying45 (by kernel_rfl)) (.cons (cC.int Tryz.underlying3 (by kernel_rfl)) (.nil))) (fun b=>⟨b.1,b.2.1⟩) (fun s=>(s.IP,(s.Len,()))) (fun _=>rfl) (fun _=>rfl) (fun _ h=>h)
def Nq(x:N6):Prop:=(Go.Lit.int .i64 x.Kind).wf=true∧(Go.Lit.int .u64 x.RD).wf=true∧((Go.Lit.int .u8 x.cF.a0).wf=true∧(Go.Lit.int .u8 x.cF.a1).wf=true∧(Go.Lit.int .u8 x.cF.a2).wf=true∧(Go.Lit.int .u8 x.cF.a3).wf=true∧(Go.Lit.int .u8 x.cF.a4).wf=true∧(Go.Lit.int .u8 x.cF.a5).wf=true∧(Go.Lit.int .u8 x.cF.a6).wf=true∧(Go.Lit.int .u8 x.cF.a7).wf=true∧(Go.Lit.int .u8 x.cF.a8).wf=true∧(Go.Lit.int .u8 x.cF.a9).wf=true)∧(Go.Lit.int .u32 x.Tag).wf=true∧(Go.Lit.int .u64 x.bN).wf=true∧(Go.Lit.int .u32 x.IP).wf=true∧True∧I7 x.aN∧(Go.Lit.int .u32 x.aZ).wf=true∧(Go.Lit.int .u32 x.Label).wf=true∧(Go.Lit.int .u32 x.Ew).wf=true∧True
theorem QM:cC Tryz.prog 49 Q0 Nq:=.struct laid (by kernel_rfl) Tryz.underlying49 (.cons (cC.int Tryz.underlying3 (by kernel_rfl)) (.cons (cC.int Tryz.underlying40 (by kernel_rfl)) (.cons (cC.Po (c:=(cI .u8)) Tryz.underlying42 (by kernel_rfl) (by kernel_rfl) (cC.int Tryz.underlying5 (by kernel_rfl))) (.cons (cC.int Tryz.underlying43 (by kernel_rfl)) (.cons (cC.int Tryz.underlying44 (by kernel_rfl)) (.cons (cC.int Tryz.underlying45 (by kernel_rfl)) (.cons (cC.bool Tryz.underlying4 (by kernel_rfl)) (.cons OK (.cons (cC.int Tryz.underlying45 (by kernel_rfl)) (.cons (cC.int Tryz.underlying43 (by kernel_rfl)) (.cons (cC.int Tryz.underlying43 (by kernel_rfl)) (.nil)))))))))))) (fun b=>⟨b.1,b.2.1,b.2.2.1,b.2.2.2.1,b.2.2.2.2.1,b.2.2.2.2.2.1,b.2.2.2.2.2.2.1,b.2.2.2.2.2.2.2.1,b.2.2.2.2.2.2.2.2.1,b.2.2.2.2.2.2.2.2.2.1,b.2.2.2.2.2.2.2.2.2.2.1⟩) (fun s=>(s.Kind,(s.RD,(s.cF,(s.Tag,(s.bN,(s.IP,(s.qm,(s.aN,(s.aZ,(s.Label,(s.Ew,())))))))))))) (fun _=>rfl) (fun _=>rfl) (fun _ h=>h)
def I8(x:lu):Prop:=(Go.Lit.int .i64 x.Kind).wf=true∧(Go.Lit.int .u32 x.Label).wf=true∧(Go.Lit.int .u32 x.Im).wf=true∧(Go.Lit.int .u32 x.Ex).wf=true∧True
theorem OL:cC Tryz.prog 54 Pr I8:=.struct laid (by kernel_rfl) Tryz.underlying54 (.cons (cC.int Tryz.underlying3 (by kernel_rfl)) (.cons (cC.int Tryz.underlying43 (by kernel_rfl)) (.cons (cC.int Tryz.underlying45 (by kernel_rfl)) (.cons (cC.int Tryz.underlying45 (by kernel_rfl)) (.nil))))) (fun b=>⟨b.1,b.2.1,b.2.2.1,b.2.2.2.1⟩) (fun s=>(s.Kind,(s.Label,(s.Im,(s.Ex,()))))) (fun _=>rfl) (fun _=>rfl) (fun _ h=>h)
def Kr(x:vk):Prop:=(Go.Lit.int .i64 x.Origin).wf=true∧(∀a∈x.Path,(Go.Lit.int .u32 a).wf=true)∧(Go.Lit.int .u32 x.Next).wf=true∧True∧(Go.Lit.int .u32 x.MH).wf=true∧True∧(Go.Lit.int .u32 x.Io).wf=true∧True∧(Go.Lit.int .u32 x.tA).wf=true∧(∀a∈x.jE,(Go.Lit.int .u32 a).wf=true)∧(∀a∈x.fh,((Go.Lit.int .u8 a.a0).wf=true∧(Go.Lit.int .u8 a.a1).wf=true∧(Go.Lit.int .u8 a.a2).wf=true∧(Go.Lit.int .u8 a.a3).wf=true∧(Go.Lit.int .u8 a.a4).wf=true∧(Go.Lit.int .u8 a.a5).wf=true∧(Go.Lit.int .u8 a.a6).wf=true∧(Go.Lit.int .u8 a.a7).wf=true))∧I8 x.lu∧True
theorem PO:cC Tryz.prog 56 Ip Kr:=.struct laid (by kernel_rfl) Tryz.underlying56 (.cons (cC.int Tryz.underlying3 (by kernel_rfl)) (.cons (cC.slice Tryz.underlying50 (by kernel_rfl) (by kernel_rfl) (cC.int Tryz.underlying43 (by kernel_rfl))) (.cons (cC.int Tryz.underlying45 (by kernel_rfl)) (.cons (cC.bool Tryz.underlying4 (by kernel_rfl)) (.cons (cC.int Tryz.underlying43 (by kernel_rfl)) (.cons (cC.bool Tryz.underlying4 (by kernel_rfl)) (.cons (cC.int Tryz.underlying43 (by kernel_rfl)) (.cons (cC.bool Tryz.underlying4 (by kernel_rfl)) (.cons (cC.int Tryz.underlying45 (by kernel_rfl)) (.cons (cC.slice Tryz.underlying51 (by kernel_rfl) (by kernel_rfl) (cC.int Tryz.underlying45 (by kernel_rfl))) (.cons (cC.slice Tryz.underlying52 (by kernel_rfl) (by kernel_rfl) (cC.Qh (c:=(cI .u8)) Tryz.underlying81 (by kernel_rfl) (by kernel_rfl) (cC.int Tryz.underlying5 (by kernel_rfl)))) (.cons OL (.nil))))))))))))) (fun b=>⟨b.1,b.2.1,b.2.2.1,b.2.2.2.1,b.2.2.2.2.1,b.2.2.2.2.2.1,b.2.2.2.2.2.2.1,b.2.2.2.2.2.2.2.1,b.2.2.2.2.2.2.2.2.1,b.2.2.2.2.2.2.2.2.2.1,b.2.2.2.2.2.2.2.2.2.2.1,b.2.2.2.2.2.2.2.2.2.2.2.1⟩) (fun s=>(s.Origin,(s.Path,(s.Next,(s.Ey,(s.MH,(s.CG,(s.Io,(s.rE,(s.tA,(s.jE,(s.fh,(s.lu,()))))))))))))) (fun _=>rfl) (fun _=>rfl) (fun _ h=>h)
def Ks(x:bt):Prop:=Nq x.N∧Kr x.A∧(Go.Lit.int .u32 x.Ld).wf=true∧True∧True
theorem PS:cC Tryz.prog 58 cc Ks:=.struct laid (by kernel_rfl) Tryz.underlying58 (.cons QM (.cons PO (.cons (cC.int Tryz.underlying45 (by kernel_rfl)) (.cons (cC.bool Tryz.underlying4 (by kernel_rfl)) (.nil))))) (fun b=>⟨b.1,b.2.1,b.2.2.1,b.2.2.2.1⟩) (fun s=>(s.N,(s.A,(s.Ld,(s.Le,()))))) (fun _=>rfl) (fun _=>rfl) (fun _ h=>h)
end Go.L
end
section
namespace Go.L
open Go.AM Go.Proofs Go.ChangeShapes Go.WideShapes Go.ChangeAt Go.RowKit
def Nr(x:jh):Prop:=(Go.Lit.int .i64 x.BD).wf=true∧(Go.Lit.int .i64 x.aH).wf=true∧(Go.Lit.int .u64 x.bN).wf=true∧(Go.Lit.int .u32 x.IP).wf=true∧True∧(Go.Lit.int .i64 x.Time).wf=true∧True
theorem QN:cC Tryz.prog 105 lX Nr:=.struct laid (by kernel_rfl) Tryz.underlying105 (.cons (cC.int Tryz.underlying3 (by kernel_rfl)) (.cons (cC.int Tryz.underlying3 (by kernel_rfl)) (.cons (cC.int Tryz.underlying44 (by kernel_rfl)) (.cons (cC.int Tryz.underlying45 (by kernel_rfl)) (.cons (cC.bool Tryz.underlying4 (by kernel_rfl)) (.cons (cC.int Tryz.underlying3 (by kernel_rfl)) (.nil))))))) (fun b=>⟨b.1,b.2.1,b.2.2.1,b.2.2.2.1,b.2.2.2.2.1,b.2.2.2.2.2.1⟩) (fun s=>(s.BD,(s.aH,(s.bN,(s.IP,(s.qm,(s.Time,()))))))) (fun _=>rfl) (fun _=>rfl) (fun _ h=>h)
end Go.L
end
section
namespace Go.L
open Go.AM Go
theorem PT{P:Program}{w:World}{r:Reach}{base:Nat}{T e:TypeId}{v:Value}{g:Gh}{rows:List (List AVal)}(hu:P.underlying T=some (.slice e))(hval:Value.okWide P w r base T v)(hR:R g w (.aC rows) v):
 (rows.length:Int)≤9223372036854775807:=by
 simp only[R]at hR;obtain⟨a,cap,rfl,hle,-⟩:=hR;unfold Value.okWide at hval;rw[hu]at hval;simp only[Cell.okWide,hu,Cell.ok]at hval;cases a with
 |none=>
  split at hval
  all_goals first |exact hval.elim |skip
  all_goals simp_all
 |some a=>
  have h2:(cap:Int)≤IntKind.i64.max:=hval.2.1;have h3:IntKind.i64.max=9223372036854775807:=rfl;omega
end Go.L
end
