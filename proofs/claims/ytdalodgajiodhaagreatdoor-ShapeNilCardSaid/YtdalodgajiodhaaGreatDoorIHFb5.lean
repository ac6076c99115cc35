/- What is proved: contracts of functions of this translation, walked; their plain meaning. No condition beyond those that each theorem names. -/
import Derived.Test.YtdalodgajiodhaaGreatDoorIHFb4
set_option linter.all false
namespace Go.Ac
open Go Go.Proofs
set_option maxRecDepth 10000
set_option maxHeartbeats 1000000
theorem push_eq {p : List (List UInt8)} {i : Nat} {x : List UInt8} (hx : p[i]? = some x) : List.take i (List.map AV.str (List.take i p)) ++ [AV.str x] = List.map AV.str (List.take (i + 1) p) := by
  rw [take_snoc hx, List.map_append, ← List.map_take, List.take_take, Nat.min_self]; rfl
section
variable (W : World) (s : List UInt8) (p : List (List UInt8))
end
end Go.Ac

