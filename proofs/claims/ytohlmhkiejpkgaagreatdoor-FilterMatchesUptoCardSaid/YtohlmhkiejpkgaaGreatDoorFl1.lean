/- What is proved: contracts of functions of this translation, walked; their plain meaning. No condition beyond those that each theorem names. -/
import Derived.Test.YtohlmhkiejpkgaaGreatDoorFb18
set_option linter.all false
set_option maxRecDepth 10000
set_option maxHeartbeats 1000000
namespace Go.Ac
open Go Go.Proofs
theorem call15:callable Tryz.prog 15=true:=kr
theorem live15 (W:World):Pure Tryz.prog W 15 [] (bA true):=pure_of_xfun (n:=30) (F:=1000) mixedz call15 rfl rfl (by kernel_rfl)
end Go.Ac

