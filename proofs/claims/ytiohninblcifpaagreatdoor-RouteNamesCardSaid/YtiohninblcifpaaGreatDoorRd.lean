/- Parts put together. No conditions. -/
import Derived.Test.YtiohninblcifpaaGreatDoorTy
import Derived.Test.YtiohninblcifpaaGreatDoorAd
import Derived.KernelRfl
import Derived.Test.YtiohninblcifpaaGreatDoorProg
set_option linter.unusedVariables false
set_option maxRecDepth 100000
section
namespace Go.L
open Go.AM Go.Proofs Go.ChangeShapes Go.WideShapes Go.ChangeAt Go.RowKit
theorem laid:laidOutB Tryz.prog=true:=by kernel_rfl
end Go.L
end
section
namespace Go.L
open Go.AM Go
end Go.L
end
