/- Parts put together. No conditions. -/
import Derived.Test.YtiohninblcifpaaGreatDoorWb
import Derived.Test.YtiohninblcifpaaGreatDoorWs
import Derived.Test.YtiohninblcifpaaGreatDoorAd
set_option linter.unusedSimpArgs false
set_option linter.unusedVariables false
set_option maxRecDepth 100000
section
namespace Go.L
noncomputable section
open Go.AM
end
end Go.L
end
section
namespace Go.L
noncomputable section
open Go.AM
def yG(x1:Int)(x2:Int):G prog (Sh.El (.one Int)):=
 .skip 3<|.op (ym .i64 x1 x2) fun _=>.skip 3<|.br 9 (decide ((Int.tmod x1 x2)<0)) (.skip 7<|.done [] (IntKind.wrap .i64 ((Int.tmod x1 x2)+x2))) (.skip 3<|.done [] (Int.tmod x1 x2))
def CP:aF prog:=aF.of uk 10 15 (Int×Int) (fun x=>[si x.1,si x.2]) (.one Int) (fun r=>.ret (si r)) (fun x=>yG x.1 x.2) (fun x=>by kernel_rfl)
end
end Go.L
end
