/- What is proved: contracts of functions of this translation, walked; their plain meaning. No condition beyond those that each theorem names. -/
import Derived.Test.YtdalodgajiodhaaGreatDoorPc
set_option linter.all false
namespace Go.Ac
open Go
set_option maxRecDepth 4000
mutual
theorem parts_cnt : ∀ (v : JV) (m : Int), partsV v m ≤ m → (cntV v : Int) = partsV v m
  | .mk h l, m, hm => by
    rw [partsV] at hm ⊢
    rw [cntV]
    have := partsL_cnt l m (1 + h.names.length) hm
    omega
theorem partsL_cnt : ∀ (l : List JV) (m n : Int), partsL l m n ≤ m → (cntVs l : Int) + n = partsL l m n
  | [], m, n, hm => by simp [partsL, cntVs]
  | x :: l, m, n, hm => by
    rw [partsL] at hm ⊢
    split at hm
    · rename_i e
      rw [if_pos e]
      have h2 := partsL_cnt l m _ hm
      have h0 : n + partsV x (m - n) ≤ m := by have : (0 : Int) ≤ cntVs l := Int.natCast_nonneg _; omega
      have h1 := parts_cnt x (m - n) (by omega)
      rw [cntVs]; omega
    · rename_i e; exact absurd hm e
end
end Go.Ac

