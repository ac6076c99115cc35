/- What is proved: contracts of functions of this translation, walked; their plain meaning. No condition beyond those that each theorem names. -/
import Derived.Test.YtjpaecoehajfdaaDoorTt7
import Derived.Test.YtjpaecoehajfdaaDoorMa4
set_option linter.all false
namespace Go.Ab
open Go Go.Proofs

set_option maxRecDepth 4000
set_option maxHeartbeats 1000000

theorem call12 : callable Tryd.prog 12 = true := by kernel_rfl
theorem call13 : callable Tryd.prog 13 = true := by kernel_rfl
theorem call14 : callable Tryd.prog 14 = true := by kernel_rfl
theorem call19 : callable Tryd.prog 19 = true := by kernel_rfl
theorem call21 : callable Tryd.prog 21 = true := by kernel_rfl
theorem call22 : callable Tryd.prog 22 = true := by kernel_rfl
theorem call23 : callable Tryd.prog 23 = true := by kernel_rfl
theorem call25 : callable Tryd.prog 25 = true := by kernel_rfl
theorem call27 : callable Tryd.prog 27 = true := by kernel_rfl
theorem call36 : callable Tryd.prog 36 = true := by kernel_rfl
theorem call39 : callable Tryd.prog 39 = true := by kernel_rfl
theorem call40 : callable Tryd.prog 40 = true := by kernel_rfl
theorem call41 : callable Tryd.prog 41 = true := by kernel_rfl
theorem call42 : callable Tryd.prog 42 = true := by kernel_rfl
theorem call43 : callable Tryd.prog 43 = true := by kernel_rfl
theorem call48 : callable Tryd.prog 48 = true := by kernel_rfl
theorem call49 : callable Tryd.prog 49 = true := by kernel_rfl
theorem call51 : callable Tryd.prog 51 = true := by kernel_rfl
theorem call58 : callable Tryd.prog 58 = true := by kernel_rfl
theorem call59 : callable Tryd.prog 59 = true := by kernel_rfl
theorem call60 : callable Tryd.prog 60 = true := by kernel_rfl
theorem call61 : callable Tryd.prog 61 = true := by kernel_rfl
theorem call62 : callable Tryd.prog 62 = true := by kernel_rfl
theorem call71 : callable Tryd.prog 71 = true := by kernel_rfl
theorem call72 : callable Tryd.prog 72 = true := by kernel_rfl
theorem call82 : callable Tryd.prog 82 = true := by kernel_rfl
theorem call83 : callable Tryd.prog 83 = true := by kernel_rfl
/-- A number. -/
def numJ (n : Int) : JV := .mk ⟨3, n, [], []⟩ []

theorem le_num (n : Int) : Le (.agg [.val (.int .i64 3), .val (.int .i64 n), .str [], .val (.slice none 0 0), .val (.slice none 0 0)]) (encV (numJ n)) := by
  rw [numJ, encV_mk]
  exact .agg (.cons (.refl _) (.cons (.refl _) (.cons (.refl _) (.cons (.nil 1) (.cons (.nil 5) .nil)))))

/-- How two lists begin alike: is one a beginning of the other? -/
def clashB : List (List UInt8) → List (List UInt8) → Bool
  | [], _ => true
  | _, [] => true
  | x :: l, y :: k => if x = y then clashB l k else false

theorem clashB_iff : ∀ a b : List (List UInt8), clashB a b = true ↔ ∀ i, i < a.length → i < b.length → a[i]? = b[i]?
  | [], b => by simp [clashB]
  | x :: l, [] => by simp [clashB]
  | x :: l, y :: k => by
    simp only [clashB]
    split
    · rename_i e; subst e
      rw [clashB_iff l k]
      constructor
      · intro h i h1 h2
        cases i with
        | zero => rfl
        | succ i => simpa using h i (by simpa using h1) (by simpa using h2)
      · intro h i h1 h2
        have := h (i + 1) (by simpa using h1) (by simpa using h2)
        simpa using this
    · rename_i e
      exact ⟨(fun h => by cases h), fun h => absurd (h 0 (by simp) (by simp)) (by simpa using e)⟩

theorem clashB_false {a b : List (List UInt8)} {i : Nat} (h1 : i < a.length) (h2 : i < b.length) (h : a[i]? ≠ b[i]?) : clashB a b = false := by
  cases e : clashB a b with
  | false => rfl
  | true => exact absurd ((clashB_iff a b).1 e i h1 h2) h

theorem clashB_true {a b : List (List UInt8)} (h : ∀ i, i < a.length → i < b.length → a[i]? = b[i]?) : clashB a b = true := (clashB_iff a b).2 h
end Go.Ab

