/- Parts put together. No conditions. -/
import Derived.Test.YtdbkafoghoenoaaGreatDoorWz
set_option linter.unusedSimpArgs false
set_option linter.unusedVariables false
set_option maxRecDepth 100000
section
namespace Go.L
noncomputable section
open Go.AM
end
end Go.L
end
section
namespace Go.L
noncomputable section
open Go.AM
end
end Go.L
end
