/- What is proved: contracts of functions of this translation, walked; their plain meaning. No condition beyond those that each theorem names. -/
import Derived.Test.YtlppehancgjpbaaGreatDoorV27
set_option linter.all false
namespace Go.Ac
open Go Go.Proofs

set_option maxRecDepth 100000
set_option maxHeartbeats 4000000

theorem call6 : callable Tryz.prog 6 = true := by kernel_rfl
theorem n6 (W : World) : sfun Tryz.prog W { tl := [27] } 1000 30 6 [] [] 100000 [.ev 10000000, .call (.ret (.val (.bool true)) [])] [] = .ok (.ret (.val (.bool true)) [], [], [MutC Tryz.prog W 27 [] [] (.ret (.val (.bool true)) [])]) := by kernel_rfl

theorem names6 (W : World) (hW : ErrT W) : Pure Tryz.prog W 6 [] (.val (.bool true)) :=
  pure_of_mut rfl (mut_of_sfun mixedz call6 rfl (n6 W) ⟨live27 W hW, trivial⟩)
end Go.Ac

