/- What the functions compute, each told by a guide that the kernel checks against the program. No conditions. -/
import Derived.Test.YtiohninblcifpaaGreatDoorWx
set_option linter.unusedSimpArgs false
set_option linter.unusedVariables false
set_option maxRecDepth 100000
namespace Go.L
noncomputable section
open Go.AM
def uC(x1:cA)(x2:az)(x3:Int)(x4:Int):G prog (Sh.El (.one cA)):=
 .skip 8<|.br 11 (x2.au != x3) (.skip 23<|.done [] x1) (.skip 3<|.call cM (x2.af,x4) fun(r6:Bool)=>.skip 3<|.br 18 (!r6) (.skip 16<|.done [] x1) (.skip 3<|.br 21 x1.ok (.skip 10<|.br 31 (decide (x2.af.Len≤x1.az.af.Len)) (.skip 3<|.done [] x1) (.skip 4<|.done [] (cA.mk x2 true))) (.skip 14<|.done [] (cA.mk x2 true))))
def zJ:aK prog:=aK.of cfg 10 76 (cA×az×Int×Int) (fun x=>[.agg (vh x.1),.agg (dF x.2.1),.bV [si x.2.2.1] 0,.bV [su x.2.2.2] 0]) (.one cA) (fun r=>.ret (.agg (vh r))) (fun x=>uC x.1 x.2.1 x.2.2.1 x.2.2.2) (fun x=>by kernel_rfl)
def kH(x1:(List az))(x2:cA)(x3:Int)(x4:Int):G prog (Sh.El (.one cA)):=
 .skip 3<|.op (bB x1 dF) fun _=>.skip 1<|.loop (.one (Int×Int×Int×Int×Int×Int×Int×Int×Bool)) [.keep [2,4,6,9,10,11],.cut [0,1] [] []] (fun(a:(Int×Int×Int×Int×Int×Int×Int×Int×Int×Bool))=>⟨(ap [.ak,.ak,(.fn (.func 76) [] [(.bV [(si x3)] 0),(.bV [(su x4)] 0)]),.ak,(.ptr 0 0 0 0),.ak,(.ptr 1 0 0 0),.ak,.ak,(.aB (List.map dF x1)),(si (x1.length:Int)),si a.1] (jl 9)),[.row 0 9 [[si a.2.1,su a.2.2.1,si a.2.2.2.1,si a.2.2.2.2.1,su a.2.2.2.2.2.1,su a.2.2.2.2.2.2.1,sq a.2.2.2.2.2.2.2.1,sq a.2.2.2.2.2.2.2.2.1,sb a.2.2.2.2.2.2.2.2.2]],(.row 0 9 [[(si 0),(su 0),(si 0),(si 0),(su 0),(su 0),(sq 0),(sq 0),(sb false)]])],[]⟩)
  (fun(t:(Int×Int×Int×Int×Int×Int×Int×Int×Bool))=>(.exit 0,⟨(ap (jl 4) (ap [(.ptr 0 0 0 0),.ak,(.ptr 1 0 0 0)] (jl 14))),[.row 0 9 [[si t.1,su t.2.1,si t.2.2.1,si t.2.2.2.1,su t.2.2.2.2.1,su t.2.2.2.2.2.1,sq t.2.2.2.2.2.2.1,sq t.2.2.2.2.2.2.2.1,sb t.2.2.2.2.2.2.2.2]],(.row 0 9 [[(si 0),(su 0),(si 0),(si 0),(su 0),(su 0),(sq 0),(sq 0),(sb false)]])],[]⟩)) ((0:Int),x2.az.au,x2.az.af.IP,x2.az.af.Len,x2.az.BD,x2.az.Next,x2.az.aZ,x2.az.aS,x2.az.bD,x2.ok)
  (fun(a15:(Int×Int×Int×Int×Int×Int×Int×Int×Int×Bool))=>.skip 1<|.br 12 (decide (a15.1<(x1.length:Int))) (.skip 1<|.op (bt x1 dF 8 a15.1) fun x16=>.skip 6<|.call zJ ((cA.mk (az.mk a15.2.1 (af.mk a15.2.2.1 a15.2.2.2.1) a15.2.2.2.2.1 a15.2.2.2.2.2.1 a15.2.2.2.2.2.2.1 a15.2.2.2.2.2.2.2.1 a15.2.2.2.2.2.2.2.2.1) a15.2.2.2.2.2.2.2.2.2),x16,x3,x4) fun(r17:cA)=>.skip 3<|.done [.keep [2,4,6,9,10,11],.cut [0,1] [] []] (.inl ((IntKind.wrap .i64 (a15.1+1)),r17.az.au,r17.az.af.IP,r17.az.af.Len,r17.az.BD,r17.az.Next,r17.az.aZ,r17.az.aS,r17.az.bD,r17.ok))) (.skip 1<|.done [.keep [4,6],.cut [0,1] [] []] (.inr (a15.2.1,a15.2.2.1,a15.2.2.2.1,a15.2.2.2.2.1,a15.2.2.2.2.2.1,a15.2.2.2.2.2.2.1,a15.2.2.2.2.2.2.2.1,a15.2.2.2.2.2.2.2.2.1,a15.2.2.2.2.2.2.2.2.2))))
  (fun(t20:(Int×Int×Int×Int×Int×Int×Int×Int×Bool))=>.skip 2<|.done [] (cA.mk (az.mk t20.1 (af.mk t20.2.1 t20.2.2.1) t20.2.2.2.1 t20.2.2.2.2.1 t20.2.2.2.2.2.1 t20.2.2.2.2.2.2.1 t20.2.2.2.2.2.2.2.1) t20.2.2.2.2.2.2.2.2))
def wN:aK prog:=aK.of cfg 10 75 ((List az)×cA×Int×Int) (fun x=>[.aB (x.1.map dF),.agg (vh x.2.1),.fn (.func 76) [] [.bV [si x.2.2.1] 0,.bV [su x.2.2.2] 0]]) (.one cA) (fun r=>.ret (.agg (vh r))) (fun x=>kH x.1 x.2.1 x.2.2.1 x.2.2.2) (fun x=>by kernel_rfl)
def wO(x1:(List az))(x2:Int)(x3:Int):G prog (Sh.El (.one (az×Bool))):=
 .skip 7<|.call wN (x1,(cA.mk (az.mk (0:Int) (af.mk (0:Int) (0:Int)) (0:Int) (0:Int) (0:Int) (0:Int) (0:Int)) false),x2,x3) fun(r4:cA)=>.skip 8<|.done [] (r4.az,r4.ok)
def sZ:aK prog:=aK.of cfg 10 30 ((List az)×Int×Int) (fun x=>[.aB (x.1.map dF),si x.2.1,su x.2.2]) (.one (az×Bool)) (fun r=>.ret (.dg [.agg (dF r.1),sb r.2])) (fun x=>wO x.1 x.2.1 x.2.2) (fun x=>by kernel_rfl)
end
end Go.L
