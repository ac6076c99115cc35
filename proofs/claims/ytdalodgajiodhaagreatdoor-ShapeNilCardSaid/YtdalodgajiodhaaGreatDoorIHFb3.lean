/- What is proved: contracts of functions of this translation, walked; their plain meaning. No condition beyond those that each theorem names. -/
import Derived.Test.YtdalodgajiodhaaGreatDoorIHFb2
set_option linter.all false
namespace Go.Ac
open Go Go.Proofs
set_option maxRecDepth 10000
set_option maxHeartbeats 1000000
theorem bytes_get {s : List UInt8} {i : Nat} {x : UInt8} (h : s[i]? = some x) : (bytesA s)[i]? = some (.val (.int .u8 x.toNat)) := by simp [bytesA, h]
section
variable (W : World) (s : List UInt8)
end
end Go.Ac

