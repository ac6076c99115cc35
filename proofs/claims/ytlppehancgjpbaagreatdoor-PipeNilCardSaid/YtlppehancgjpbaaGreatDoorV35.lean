/- What is proved: the pipe's law finds its program alive. No condition. -/
import Derived.Test.YtlppehancgjpbaaGreatDoorMa4
import Derived.Test.YtlppehancgjpbaaGreatDoorProg
set_option linter.all false
set_option maxRecDepth 100000
set_option maxHeartbeats 20000000
namespace Go.Ac
open Go Go.Proofs
theorem call35 : callable Tryz.prog 35 = true := by kernel_rfl
theorem reckoned35 : xfun Tryz.prog 1000 30 35 [] [] 100000 = some (.ret (.val (.bool true)) []) := by kernel_rfl
theorem mixed35 : Tryz.prog.follows .mixedOrders = true := by kernel_rfl
theorem live35 (W : World) : Pure Tryz.prog W 35 [] (.val (.bool true)) := pure_of_xfun mixed35 call35 rfl rfl reckoned35
end Go.Ac

