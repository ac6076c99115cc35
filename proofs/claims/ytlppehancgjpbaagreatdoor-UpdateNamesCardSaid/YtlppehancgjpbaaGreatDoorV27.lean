/- What is proved: contracts of functions of this translation, walked; their plain meaning. No condition beyond those that each theorem names. -/
import Derived.Test.YtlppehancgjpbaaGreatDoorV2
import Derived.Test.YtlppehancgjpbaaGreatDoorEe2
set_option linter.all false
namespace Go.Ac
open Go Go.Proofs

set_option maxRecDepth 100000
set_option maxHeartbeats 4000000

def O27 : OutC := .ret (.val (.bool true)) [(100128, .box (.agg [.val (.int .i64 56)]) .own), (100129, .box (.gp 100128 0) .own)]
def H27 : List (Nat × GE) := [(100128, .box (.agg [.val (.int .i64 56)]) .own), (100129, .box (.val (.pointer none)) .own)]

theorem call27 : callable Tryz.prog 27 = true := by kernel_rfl
theorem u27 (W : World) : sfun Tryz.prog W { tl := [111] } 1000 30 27 [] [] 100000 [.ev 10000000, .call O27] [] = .ok (.ret (.val (.bool true)) [], [], [MutC Tryz.prog W 111 [.ifc 182 (.gp 100128 0), .ifc 184 (.gp 100129 0)] H27 O27]) := by kernel_rfl

theorem live27 (W : World) (hW : ErrT W) : MutC Tryz.prog W 27 [] [] (.ret (.val (.bool true)) []) :=
  mut_of_sfun mixedz call27 rfl (u27 W) ⟨as_mut (h := H27) hW rfl rfl rfl (by decide), trivial⟩
end Go.Ac

