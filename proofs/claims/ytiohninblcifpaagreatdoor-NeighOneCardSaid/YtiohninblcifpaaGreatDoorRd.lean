/- Parts put together. No conditions. -/
import Derived.Test.YtiohninblcifpaaGreatDoorTy
import Derived.Test.YtiohninblcifpaaGreatDoorAd
import Derived.KernelRfl
import Derived.Test.YtiohninblcifpaaGreatDoorProg
set_option linter.unusedVariables false
set_option maxRecDepth 100000
section
namespace Go.L
open Go.AM Go.Proofs Go.ChangeShapes Go.WideShapes Go.ChangeAt Go.RowKit
theorem laid:laidOutB Tryz.prog=true:=by kernel_rfl
def F1(x:aM):Prop:=(Go.Lit.int .u32 x.IP).wf=true∧(Go.Lit.int .i64 x.Len).wf=true∧True
theorem LB:cw Tryz.prog 47 tf F1:=.struct laid (by kernel_rfl) Tryz.underlying47 (.cons (cw.int Tryz.underlying45 (by kernel_rfl)) (.cons (cw.int Tryz.underlying3 (by kernel_rfl)) (.nil))) (fun b=>⟨b.1,b.2.1⟩) (fun s=>(s.IP,(s.Len,()))) (fun _=>rfl) (fun _=>rfl) (fun _ h=>h)
def Kk(x:K0):Prop:=(Go.Lit.int .i64 x.Kind).wf=true∧(Go.Lit.int .u64 x.RD).wf=true∧((Go.Lit.int .u8 x.dY.a0).wf=true∧(Go.Lit.int .u8 x.dY.a1).wf=true∧(Go.Lit.int .u8 x.dY.a2).wf=true∧(Go.Lit.int .u8 x.dY.a3).wf=true∧(Go.Lit.int .u8 x.dY.a4).wf=true∧(Go.Lit.int .u8 x.dY.a5).wf=true∧(Go.Lit.int .u8 x.dY.a6).wf=true∧(Go.Lit.int .u8 x.dY.a7).wf=true∧(Go.Lit.int .u8 x.dY.a8).wf=true∧(Go.Lit.int .u8 x.dY.a9).wf=true)∧(Go.Lit.int .u32 x.Tag).wf=true∧(Go.Lit.int .u64 x.MAC).wf=true∧(Go.Lit.int .u32 x.IP).wf=true∧True∧F1 x.aM∧(Go.Lit.int .u32 x.bW).wf=true∧(Go.Lit.int .u32 x.Label).wf=true∧(Go.Lit.int .u32 x.Ci).wf=true∧True
theorem Ng:cw Tryz.prog 49 Nt Kk:=.struct laid (by kernel_rfl) Tryz.underlying49 (.cons (cw.int Tryz.underlying3 (by kernel_rfl)) (.cons (cw.int Tryz.underlying40 (by kernel_rfl)) (.cons (cw.Mc (c:=(cI .u8)) Tryz.underlying42 (by kernel_rfl) (by kernel_rfl) (cw.int Tryz.underlying5 (by kernel_rfl))) (.cons (cw.int Tryz.underlying43 (by kernel_rfl)) (.cons (cw.int Tryz.underlying44 (by kernel_rfl)) (.cons (cw.int Tryz.underlying45 (by kernel_rfl)) (.cons (cw.bool Tryz.underlying4 (by kernel_rfl)) (.cons LB (.cons (cw.int Tryz.underlying45 (by kernel_rfl)) (.cons (cw.int Tryz.underlying43 (by kernel_rfl)) (.cons (cw.int Tryz.underlying43 (by kernel_rfl)) (.nil)))))))))))) (fun b=>⟨b.1,b.2.1,b.2.2.1,b.2.2.2.1,b.2.2.2.2.1,b.2.2.2.2.2.1,b.2.2.2.2.2.2.1,b.2.2.2.2.2.2.2.1,b.2.2.2.2.2.2.2.2.1,b.2.2.2.2.2.2.2.2.2.1,b.2.2.2.2.2.2.2.2.2.2.1⟩) (fun s=>(s.Kind,(s.RD,(s.dY,(s.Tag,(s.MAC,(s.IP,(s.iz,(s.aM,(s.bW,(s.Label,(s.Ci,())))))))))))) (fun _=>rfl) (fun _=>rfl) (fun _ h=>h)
def F2(x:lW):Prop:=(Go.Lit.int .i64 x.Kind).wf=true∧(Go.Lit.int .u32 x.Label).wf=true∧(Go.Lit.int .u32 x.Fv).wf=true∧(Go.Lit.int .u32 x.Cj).wf=true∧True
theorem LC:cw Tryz.prog 54 Mf F2:=.struct laid (by kernel_rfl) Tryz.underlying54 (.cons (cw.int Tryz.underlying3 (by kernel_rfl)) (.cons (cw.int Tryz.underlying43 (by kernel_rfl)) (.cons (cw.int Tryz.underlying45 (by kernel_rfl)) (.cons (cw.int Tryz.underlying45 (by kernel_rfl)) (.nil))))) (fun b=>⟨b.1,b.2.1,b.2.2.1,b.2.2.2.1⟩) (fun s=>(s.Kind,(s.Label,(s.Fv,(s.Cj,()))))) (fun _=>rfl) (fun _=>rfl) (fun _ h=>h)
def Ht(x:Ik):Prop:=(Go.Lit.int .i64 x.Origin).wf=true∧(∀a∈x.Path,(Go.Lit.int .u32 a).wf=true)∧(Go.Lit.int .u32 x.Next).wf=true∧True∧(Go.Lit.int .u32 x.LP).wf=true∧True∧(Go.Lit.int .u32 x.Il).wf=true∧True∧(Go.Lit.int .u32 x.uI).wf=true∧(∀a∈x.th,(Go.Lit.int .u32 a).wf=true)∧(∀a∈x.jW,((Go.Lit.int .u8 a.a0).wf=true∧(Go.Lit.int .u8 a.a1).wf=true∧(Go.Lit.int .u8 a.a2).wf=true∧(Go.Lit.int .u8 a.a3).wf=true∧(Go.Lit.int .u8 a.a4).wf=true∧(Go.Lit.int .u8 a.a5).wf=true∧(Go.Lit.int .u8 a.a6).wf=true∧(Go.Lit.int .u8 a.a7).wf=true))∧F2 x.lW∧True
theorem Mm:cw Tryz.prog 56 MN Ht:=.struct laid (by kernel_rfl) Tryz.underlying56 (.cons (cw.int Tryz.underlying3 (by kernel_rfl)) (.cons (cw.slice Tryz.underlying50 (by kernel_rfl) (by kernel_rfl) (cw.int Tryz.underlying43 (by kernel_rfl))) (.cons (cw.int Tryz.underlying45 (by kernel_rfl)) (.cons (cw.bool Tryz.underlying4 (by kernel_rfl)) (.cons (cw.int Tryz.underlying43 (by kernel_rfl)) (.cons (cw.bool Tryz.underlying4 (by kernel_rfl)) (.cons (cw.int Tryz.underlying43 (by kernel_rfl)) (.cons (cw.bool Tryz.underlying4 (by kernel_rfl)) (.cons (cw.int Tryz.underlying45 (by kernel_rfl)) (.cons (cw.slice Tryz.underlying51 (by kernel_rfl) (by kernel_rfl) (cw.int Tryz.underlying45 (by kernel_rfl))) (.cons (cw.slice Tryz.underlying52 (by kernel_rfl) (by kernel_rfl) (cw.MI (c:=(cI .u8)) Tryz.underlying81 (by kernel_rfl) (by kernel_rfl) (cw.int Tryz.underlying5 (by kernel_rfl)))) (.cons LC (.nil))))))))))))) (fun b=>⟨b.1,b.2.1,b.2.2.1,b.2.2.2.1,b.2.2.2.2.1,b.2.2.2.2.2.1,b.2.2.2.2.2.2.1,b.2.2.2.2.2.2.2.1,b.2.2.2.2.2.2.2.2.1,b.2.2.2.2.2.2.2.2.2.1,b.2.2.2.2.2.2.2.2.2.2.1,b.2.2.2.2.2.2.2.2.2.2.2.1⟩) (fun s=>(s.Origin,(s.Path,(s.Next,(s.Fw,(s.LP,(s.Da,(s.Il,(s.uh,(s.uI,(s.th,(s.jW,(s.lW,()))))))))))))) (fun _=>rfl) (fun _=>rfl) (fun _ h=>h)
def Hu(x:bw):Prop:=Kk x.N∧Ht x.A∧(Go.Lit.int .u32 x.K3).wf=true∧True∧True
theorem Mn:cw Tryz.prog 58 bQ Hu:=.struct laid (by kernel_rfl) Tryz.underlying58 (.cons Ng (.cons Mm (.cons (cw.int Tryz.underlying45 (by kernel_rfl)) (.cons (cw.bool Tryz.underlying4 (by kernel_rfl)) (.nil))))) (fun b=>⟨b.1,b.2.1,b.2.2.1,b.2.2.2.1⟩) (fun s=>(s.N,(s.A,(s.K3,(s.LQ,()))))) (fun _=>rfl) (fun _=>rfl) (fun _ h=>h)
end Go.L
end
section
namespace Go.L
open Go.AM Go.Proofs Go.ChangeShapes Go.WideShapes Go.ChangeAt Go.RowKit
def Kl(x:hU):Prop:=(Go.Lit.int .i64 x.BD).wf=true∧(Go.Lit.int .i64 x.aB).wf=true∧(Go.Lit.int .u64 x.MAC).wf=true∧(Go.Lit.int .u32 x.IP).wf=true∧True∧(Go.Lit.int .i64 x.Time).wf=true∧True
theorem Nh:cw Tryz.prog 105 fH Kl:=.struct laid (by kernel_rfl) Tryz.underlying105 (.cons (cw.int Tryz.underlying3 (by kernel_rfl)) (.cons (cw.int Tryz.underlying3 (by kernel_rfl)) (.cons (cw.int Tryz.underlying44 (by kernel_rfl)) (.cons (cw.int Tryz.underlying45 (by kernel_rfl)) (.cons (cw.bool Tryz.underlying4 (by kernel_rfl)) (.cons (cw.int Tryz.underlying3 (by kernel_rfl)) (.nil))))))) (fun b=>⟨b.1,b.2.1,b.2.2.1,b.2.2.2.1,b.2.2.2.2.1,b.2.2.2.2.2.1⟩) (fun s=>(s.BD,(s.aB,(s.MAC,(s.IP,(s.iz,(s.Time,()))))))) (fun _=>rfl) (fun _=>rfl) (fun _ h=>h)
end Go.L
end
section
namespace Go.L
open Go.AM Go
theorem Mo{P:Program}{w:World}{r:Reach}{base:Nat}{T e:TypeId}{v:Value}{g:Gh}{rows:List (List AVal)}(hu:P.underlying T=some (.slice e))(hval:Value.okWide P w r base T v)(hR:R g w (.au rows) v):
 (rows.length:Int)≤9223372036854775807:=by
 simp only[R]at hR;obtain⟨a,cap,rfl,hle,-⟩:=hR;unfold Value.okWide at hval;rw[hu]at hval;simp only[Cell.okWide,hu,Cell.ok]at hval;cases a with
 |none=>
  split at hval
  all_goals first |exact hval.elim |skip
  all_goals simp_all
 |some a=>
  have h2:(cap:Int)≤IntKind.i64.max:=hval.2.1;have h3:IntKind.i64.max=9223372036854775807:=rfl;omega
end Go.L
end
