/- The reference's prefixes. No conditions. -/
import Derived.Test.YtiohninblcifpaaGreatDoorPv
import Derived.Test.YtiohninblcifpaaGreatDoorWx
set_option linter.unusedSimpArgs false
set_option linter.unusedVariables false
namespace Go.L
open Go.AM
section
variable {β:Type} (n:Nat)
end
end Go.L
