/- What is proved: contracts of functions of this translation, walked; their plain meaning. No condition beyond those that each theorem names. -/
import Derived.Test.YtdalodgajiodhaaGreatDoorIHFb3
set_option linter.all false
namespace Go.Ac
open Go Go.Proofs
set_option maxRecDepth 10000
set_option maxHeartbeats 1000000
def padA (A : List (List UInt8)) (i : Nat) : List AV := (A.take i).map AV.str ++ List.replicate (A.length - i) (AV.str [])
theorem rep_clo : ∀ n : Nat, cloL (List.replicate n (AV.str [])) = true
  | 0 => rfl
  | n + 1 => by rw [List.replicate_succ]; simp only [cloL, rep_clo n, Bool.and_true]; rfl
theorem padA_clo (A : List (List UInt8)) (i : Nat) : cloL (padA A i) = true := by unfold padA; rw [clo_append, cloL_str, rep_clo]; rfl
theorem padA_get {A : List (List UInt8)} {i : Nat} (h : i < A.length) : (padA A i)[i]? = some (.str []) := pad_get h (Nat.le_refl _)
theorem padA_zero (A : List (List UInt8)) : List.replicate A.length (AV.str []) = padA A 0 := by simp [padA]
section
variable (W : World) (s : List UInt8)
end
end Go.Ac

