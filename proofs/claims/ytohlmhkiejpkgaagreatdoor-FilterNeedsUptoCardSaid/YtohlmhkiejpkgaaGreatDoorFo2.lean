/- What is proved: contracts of functions of this translation, walked; their plain meaning. No condition beyond those that each theorem names. -/
import Derived.Test.YtohlmhkiejpkgaaGreatDoorFo1
set_option linter.all false
namespace Go.Ac
open Go Go.Proofs
set_option maxRecDepth 10000
set_option maxHeartbeats 4000000
theorem cnt_obj (s : List UInt8) (v : JV) : cntV (objV s v) = 2 + cntV v := by simp only [cntV, cntVs, List.length_cons, List.length_nil] <;> omega
theorem size_obj (s : List UInt8) (v : JV) : sizeV (objV s v) = 1 + sizeV v := by rw [sizeV_eq]; simp only [JV.items, sizeVs, Nat.add_zero]
theorem nm_obj {s : List UInt8} {v : JV} (hs : s.length ≤ 2 ^ 30) (hv : nmV v) : nmV (objV s v) := by
  refine ⟨fun x hx => ?_, hv, trivial⟩
  simp only [List.mem_cons, List.not_mem_nil, or_false] at hx
  rw [hx]; exact hs
section
variable {A : JV → List JV → Bool} {M : JV → JV → Bool} {x : JV} {l : List JV}
theorem opG_eq : opG A M sEq x l = eqG x l := by rw [opG, if_neg (by decide), if_neg (by decide), if_neg (by decide), if_pos rfl]
theorem opG_in : opG A M sIn x l = x.items.any (fun y => eqG y l) := by rw [opG, if_neg (by decide), if_neg (by decide), if_neg (by decide), if_neg (by decide), if_pos rfl]
end
section
variable (W : World)
end
end Go.Ac

