/- A function handed a row of ours that is nobody's behind the call, at any place among its arguments. No program. -/
import Derived.Test.YtpgpmlaafigpaaaGreatDoorAmSh
namespace Go.AM

section
set_option linter.unusedSectionVars false
variable [Globs] {P : Program} {cfg : Cfg}

end
end Go.AM
