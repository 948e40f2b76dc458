/- The plain data of the program, as arguments read. -/
import Derived.Test.YtdbkafoghoenoaaGreatTyG
import Derived.Test.YtdbkafoghoenoaaGreatAd
import Derived.KernelRfl
import Derived.Test.YtdbkafoghoenoaaGreatProg
set_option maxRecDepth 100000
namespace Go.L
open Go.AM Go.Proofs Go.ChangeShapes Go.WideShapes Go.ChangeAt Go.RowKit
theorem laid:laidOutB Tryz.prog=true:=by kernel_rfl
end Go.L
