/- Parts put together. No conditions. -/
import Derived.Test.YtdbkafoghoenoaaGreatDoorPv
import Derived.Test.YtdbkafoghoenoaaGreatDoorWk
import Derived.Test.YtdbkafoghoenoaaGreatDoorWl
set_option linter.unusedSimpArgs false
set_option linter.unusedVariables false
set_option maxRecDepth 100000
section
namespace Go.L
open Go.AM
section
variable {β:Type} (n:Nat)
end
end Go.L
end
section
namespace Go.L
open Go.AM
end Go.L
namespace Go.L
open Go.AM
end Go.L
namespace Go.L
open Go.AM
section
variable {β:Type} (n:Nat)
end
end Go.L
namespace Go.L
open Go.AM
end Go.L
namespace Go.L
open Go.AM
end Go.L
namespace Go.L
open Go.AM
end Go.L
namespace Go.L
open Go.AM
end Go.L
namespace Go.L
open Go.AM
end Go.L
namespace Go.L
open Go.AM
end Go.L
end
